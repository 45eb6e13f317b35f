/- The walk of palaverlaw11.SchemaMore. Conditions: the arguments lie as they are said to. -/
import Derived.Test.YtpfhhikbaeknpaaGreatDoorSL
import Derived.Test.YtpfhhikbaeknpaaGreatDoorSO
import Derived.Test.YtpfhhikbaeknpaaGreatDoorSV
import Derived.Test.YtpfhhikbaeknpaaGreatDoorRM
set_option linter.unusedSectionVars false
set_option linter.unusedSimpArgs false
set_option linter.unusedVariables false
namespace Go.Proofs.YtpfhhikbaeknpaaGreatDoor
open Go.RowKit Pal
attribute [local go_sem ↓] Go.wp_at_zero Go.wp_at_succ
def fdsRowPost (l : List Fd) (w : World) (e : Ending) (w' : World) : Prop := ∃ v t,e = .returned v ∧ Row t 1 w' 27 5 v l.length (l.flatMap inCells) ∧ Evo T0 w t w' (· ≠ 0)
set_option maxRecDepth 100000 in
set_option maxHeartbeats 1000000 in
theorem fields_row (l : List Fd) (v : Value) (w : World) (hF : FdsV (gh w) v l) (hl : l.length ≤ 1000000) : Calls Tryz.prog 16 #[v] w (fdsRowPost l w) := by
  obtain ⟨a,cap,hv,hn,hc1,hc2,hx⟩ := hF
  subst hv
  obtain ⟨i0,hi,hz0,hz1,hz2⟩ := infoFd
  cases a with
  | none =>
    obtain ⟨h0,rfl⟩ := hn rfl
    obtain rfl : l = [] := List.eq_nil_of_length_eq_zero h0
    simp only [List.length_nil]
    clear hx hn h0 hc1 hc2 hl
    go_enter Tryz.func16,Tryz.ntmps16
    go_wp2_with (at_builtin; refine wpList_append_own_none rfl _ _ 25 rfl 0 27 i0 5 Tryz.underlying25 hi _ _ _ rfl (World.ownsRow_nil _ _ _ _) rfl ?_)
    go_ret
    exact ⟨_,T0,rfl,Row.nil _ _ _ _ _,Evo.refl _ _ _⟩
  | some ad =>
    obtain ⟨n,hnl⟩ : ∃ n,l.length = n := ⟨_,rfl⟩
    rw [hnl]
    obtain ⟨news,hnews⟩ : ∃ z,l.flatMap inCells = z := ⟨_,rfl⟩
    have H1 : Hid (news.length = n * 5) := Lib.hid (by rw [← hnews,flat_len inCells 5 inCells_len,hnl])
    have H2 : Hid (∀ j u,news[j]? = some u → w.cell? (ad.add j) = some u) := Lib.hid (by
      intro j u hj
      rw [← hnews] at hj
      have hjl := (List.getElem?_eq_some_iff.1 hj).1
      rw [flat_len inCells 5 inCells_len] at hjl
      have hq : j / 5 < l.length := by omega
      have hgf := flat_get inCells 5 inCells_len l (j / 5) (j % 5) l[j / 5] (List.getElem?_eq_getElem hq) (by omega)
      rw [show 5 * (j / 5) + j % 5 = j by omega,hj] at hgf
      obtain ⟨b,off,he,hcc⟩ := hx (j / 5) (j % 5) u hq (by show (inCells (l.getD (j / 5) noFd))[j % 5]? = some u; rw [getD_in hq]; exact hgf.symm)
      cases he
      rw [gh_cell] at hcc
      have e1 : (⟨b,off,none⟩ : Addr).add j = ⟨b,off + j,none⟩ := by unfold Addr.add; split <;> simp_all
      rw [e1,show off + j = off + (5 * (j / 5) + j % 5) by omega]; exact hcc)
    have H3 : Hid (∀ u ∈ news,u.oneCell' = true) := Lib.hid (by
      intro u hu
      rw [← hnews] at hu
      obtain ⟨f,_,hf⟩ := List.mem_flatMap.1 hu
      have h : (inCells f).all Value.oneCell' = true := rfl
      exact List.all_eq_true.1 h u hf)
    have HNW := Lib.hid hnews
    have HNL := Lib.hid hnl
    have hn6 : n ≤ 1000000 := by omega
    clear hx hn hnews hnl hc1 hc2 hl
    go_enter Tryz.func16,Tryz.ntmps16
    go_wp2_with (at_builtin; refine wpList_append_row rfl _ _ 25 rfl 27 i0 _ 5 72 Tryz.underlying25 hi hz0 hz1 hz2 rfl (by decide) rfl (Row.nil T0 1 w 27 5) ad n cap news rfl H1.out H2.out H3.out ?c4 ?c5 ?_)
    case c4 => unfold maxLen; omega
    case c5 => omega
    intro v' t' w' hr he _
    have HR : Hid (Row t' 1 w' 27 5 v' n news) := Lib.hid (by simpa using hr)
    have HE := Lib.hid he
    clear hr he
    go_wp2
    go_ret
    have hr := HR.out
    rw [← HNW.out,← HNL.out] at hr
    exact ⟨_,_,rfl,hr,HE.out.mono fun _ h => by rw [h]; decide⟩
theorem fd0_short7 {f : Fd} (h : Fd0 f) (hs : f.n.length ≤ 1000 ∧ f.fo.length ≤ 1000 ∧ f.ru.length ≤ 1000 ∧ f.sh.length ≤ 1000) : Short f := ⟨by omega,by omega,by omega,by omega,h.t⟩
theorem few_short7 {l : List Fd} (h : fewF l = true) (h0 : ∀ f ∈ l,Fd0 f) : l.length ≤ 1000000 ∧ ∀ f ∈ l,Short f := by
  obtain ⟨h1,h2⟩ := fewF_yes h
  exact ⟨by omega,fun f hf => fd0_short7 (h0 f hf) (h2 f hf)⟩
theorem isName_short {s : Bs} (h : isName s = true) : s.length ≤ 400 := by
  unfold isName at h
  simp only [Bool.and_eq_true,decide_eq_true_eq] at h
  omega
theorem inCells_one7 (f : Fd) : ∀ u ∈ inCells f,u.oneCell' = true := by
  have h : (inCells f).all Value.oneCell' = true := rfl
  exact fun u hu => List.all_eq_true.1 h u hu
theorem find_last {l : List Fd} {f : Fd} (h : ∀ g ∈ l,g.n ≠ f.n) : findM (Fd.names (l ++ [f])) f.n = .tuple #[.int .i64 l.length,.bool true] := by
  have e : Fd.names (l ++ [f]) = Fd.names l ++ [f.n] := by simp [Fd.names]
  have hc : posT (Fd.names l) f.n = none := by
    rw [posT_none]
    simp only [List.contains_eq_mem,decide_eq_false_iff_not]
    intro hx
    obtain ⟨g,hg,he⟩ := List.mem_map.1 hx
    exact h g hg he
  have hp : posT (Fd.names l ++ [f.n]) f.n = some l.length := by rw [posT_snoc,hc]; simp [Fd.names]
  unfold findM
  rw [e,hp]
  rfl
theorem hasF_more {es : List X3} {x : X3} {i : Nat} (h : i < es.length) : hasF (es ++ [x]) i = hasF es i := by
  unfold hasF
  rw [getD_app (by simpa using h)]
theorem hasF_last {es : List X3} {n : Nat} (h : es.length = n) : hasF (es ++ [(none,none,none)]) n = false := by
  unfold hasF
  simp [List.getD,h]
set_option maxRecDepth 1000000 in
set_option maxHeartbeats 8000000 in
theorem more_walk (l : List Fd) (v : Value) (name : Bs) (typ : Int) (w : World) (hL : Lay2 w) (hF : FdsV (gh w) v l ∧ l.length ≤ 9223372036854775807) (h0 : ∀ f ∈ l,Fd0 f) (hnm : name.length ≤ 9223372036854775807) (ht : -9223372036854775808 ≤ typ ∧ typ ≤ 9223372036854775807) :
    Calls Tryz.prog 7 #[v,.string ⟨name.toArray⟩,.int .i64 typ] w (yesPost w) := by
  obtain ⟨hF,hlen⟩ := hF
  obtain ⟨va,vc,rfl⟩ := hF.form
  have HL := Lib.hid hL.lay
  have HF := Lib.hid hF
  have HFEW := Lib.hid (fewF_any l (.slice va l.length vc) w hF hlen (fun f hf => ⟨(h0 f hf).n,(h0 f hf).fo,(h0 f hf).ru,(h0 f hf).sh⟩))
  have H0 := Lib.hid h0
  have HAW := Lib.hid (fun W (hb : Below w.heap.size w W) => awake11 W (HL.out.below hb))
  have HRN := Lib.hid (fun W => refName_any name W hnm)
  unfold yesPost at HAW ⊢
  obtain ⟨ll,hll⟩ : ∃ ll,l.length = ll := ⟨_,rfl⟩
  rw [hll] at HFEW HF ⊢
  have HLL := Lib.hid hll
  have hlm : ll ≤ 9223372036854775807 := by omega
  have HBW := Lib.hid (Below.refl w.heap.size w)
  clear hL hF h0 hlen hll hnm
  cases hfew : fewF l with
  | false =>
    rw [hfew] at HFEW
    clear hfew
    go_enter Tryz.func7,Tryz.ntmps7
    go_wp2_with fail
    refine HFEW.out.mono ?_
    rintro r W ⟨rfl,rfl⟩
    have HAWx := Lib.hid (HAW.out _ HBW.out)
    go_wp2_with fail
    refine HAWx.out.mono ?_
    rintro r Wz ⟨rfl,hbz⟩
    have HBz := Lib.hid (Below.seq HBW.out hbz)
    clear hbz
    go_wp2
    try rw [Exit.noGoto_ret]
    go_ret
    exact ⟨rfl,HBz.out⟩
  | true =>
    rw [hfew] at HFEW
    obtain ⟨hs1,hs2⟩ := few_short7 hfew H0.out
    have HSH := Lib.hid hs2
    have HS1 := Lib.hid hs1
    clear hfew hs1 hs2
    by_cases h24 : 24 ≤ ll
    · have q1 : decide ((24 : Int) ≤ (ll : Int)) = true := decide_eq_true (by omega)
      have q2 : decide (24 ≤ ll) = true := decide_eq_true h24
      go_enter Tryz.func7,Tryz.ntmps7
      go_wp2_with fail
      refine HFEW.out.mono ?_
      rintro r W ⟨rfl,rfl⟩
      have HAWx := Lib.hid (HAW.out _ HBW.out)
      go_wp2_with fail
      refine HAWx.out.mono ?_
      rintro r Wz ⟨rfl,hbz⟩
      have HBz := Lib.hid (Below.seq HBW.out hbz)
      clear hbz
      go_wp2
      try rw [Exit.noGoto_ret]
      go_ret
      exact ⟨rfl,HBz.out⟩
    · have q1 : decide ((24 : Int) ≤ (ll : Int)) = false := decide_eq_false (by omega)
      have q2 : decide (24 ≤ ll) = false := decide_eq_false h24
      cases hin : isName name with
      | false =>
        rw [hin] at HRN
        clear hin
        go_enter Tryz.func7,Tryz.ntmps7
        go_wp2_with fail
        refine HFEW.out.mono ?_
        rintro r W ⟨rfl,rfl⟩
        go_wp2_with fail
        refine (HRN.out _).mono ?_
        rintro r W1 ⟨rfl,hb1⟩
        have HB1 := Lib.hid hb1
        clear hb1
        have HAWx := Lib.hid (HAW.out _ HB1.out)
        go_wp2_with fail
        refine HAWx.out.mono ?_
        rintro r Wz ⟨rfl,hbz⟩
        have HBz := Lib.hid (Below.seq HB1.out hbz)
        clear hbz
        go_wp2
        try rw [Exit.noGoto_ret]
        go_ret
        exact ⟨rfl,HBz.out⟩
      | true =>
        rw [hin] at HRN
        have hn4 := isName_short hin
        have HIN := Lib.hid hin
        clear hin
        by_cases ht1 : 1 ≤ typ ∧ typ ≤ 3
        · obtain ⟨ht2,ht3⟩ := ht1
          have q3 : decide (typ < 1) = false := decide_eq_false (by omega)
          have q4 : decide (3 < typ) = false := decide_eq_false (by omega)
          have HFI := Lib.hid (fun W (hb : Below w.heap.size w W) => fields_any l (.slice va ll vc) W (HF.out.mono (below_gh hb)) HS1.out)
          have HFR := Lib.hid (fun W (hb : Below w.heap.size w W) => fields_row l (.slice va ll vc) W (HF.out.mono (below_gh hb)) HS1.out)
          have HT := Lib.hid (And.intro ht2 ht3)
          unfold fdsPost at HFI
          unfold fdsRowPost at HFR
          clear ht2 ht3
          go_enter Tryz.func7,Tryz.ntmps7
          go_wp2_with fail
          refine HFEW.out.mono ?_
          rintro r W ⟨rfl,rfl⟩
          go_wp2_with fail
          refine (HRN.out _).mono ?_
          rintro r W1 ⟨rfl,hb1⟩
          have HB1 := Lib.hid hb1
          have HFI1 := Lib.hid (HFI.out _ hb1)
          clear hb1
          go_wp2_with fail
          refine HFI1.out.mono ?_
          rintro r W2 ⟨hb2,fv,rfl,hfv⟩
          obtain ⟨fa,fc,rfl⟩ := hfv.form
          have HB2 := Lib.hid (HB1.out.seq hb2)
          cases hm : newM l with
          | error x =>
            obtain ⟨i,e⟩ := x
            have HNEW := Lib.hid (new_bad _ W2 HS1.out HSH.out (HL.out.below HB2.out) hfv hm)
            have he0 : (e == 0) = false := by have := newM_err_ne hm; simpa using this
            clear hb2 hfv hm
            go_wp2_with fail
            refine HNEW.out.mono ?_
            rintro r W3 ⟨hb3,rfl⟩
            have HB3 := Lib.hid (HB2.out.seq hb3)
            clear hb3 HNEW
            have HAWx := Lib.hid (HAW.out _ HB3.out)
            go_wp2_with fail
            refine HAWx.out.mono ?_
            rintro r Wz ⟨rfl,hbz⟩
            have HBz := Lib.hid (Below.seq HB3.out hbz)
            clear hbz
            go_wp2
            try rw [Exit.noGoto_ret]
            go_ret
            exact ⟨rfl,HBz.out⟩
          | ok F =>
            have HNEW := Lib.hid (new_ok _ W2 HS1.out HSH.out (HL.out.below HB2.out) hfv hm)
            have HM := Lib.hid hm
            clear hb2 hfv hm
            go_wp2_with fail
            refine HNEW.out.mono ?_
            rintro r W3 ⟨hb3,b,rfl,hs3⟩
            have HB3 := Lib.hid (HB2.out.seq hb3)
            have HSC := Lib.hid hs3
            have HF3 := Lib.hid (HF.out.mono (below_gh HB3.out))
            clear hb3 hs3 HNEW
            go_wp2_with fail
            go_loopg [10] ll (fun gk i wr => ∃ q : Nat,i = .int .i64 q ∧ q + gk = ll ∧ wr = W3 ∧ Hid (∀ g ∈ l.take q,g.n ≠ name))
            case atStart => exact ⟨0,rfl,by omega,rfl,Lib.hid (by simp)⟩
            case round =>
              obtain ⟨q,rfl,hg,rfl,HQ⟩ := hrel
              by_cases hq : q < ll
              · obtain ⟨f,hf⟩ : ∃ f,l[q]? = some f := ⟨_,List.getElem?_eq_getElem (by have := HLL.out; omega)⟩
                obtain ⟨fb,fo,rfl,c0,-⟩ := HF3.out.at hf
                have qz1 : (0 : Int) ≤ (q : Int) := by omega
                have qz2 : (q : Int) < (ll : Int) := by omega
                by_cases he : f.n = name
                · have q5 : (f.n == name) = true := by simp [he]
                  clear he hf
                  have HAWx := Lib.hid (HAW.out _ HB3.out)
                  go_wp2_with fail
                  refine HAWx.out.mono ?_
                  rintro r Wz ⟨rfl,hbz⟩
                  have HBz := Lib.hid (Below.seq HB3.out hbz)
                  clear hbz
                  go_wp2
                  try rw [Exit.noGoto_ret]
                  go_ret
                  exact ⟨rfl,HBz.out⟩
                · have q5 : (f.n == name) = false := by simp [he]
                  have HQ2 : Hid (∀ g ∈ l.take (q + 1),g.n ≠ name) := Lib.hid (by
                    intro g hgm
                    rw [List.take_add_one,hf] at hgm
                    rcases List.mem_append.1 hgm with hgm | hgm
                    · exact HQ.out g hgm
                    · simp at hgm; rw [hgm]; exact he)
                  clear he hf
                  go_wp2_with fail
                  go_roundg (gk - 1)
                  case rel => exact ⟨q + 1,by go_num,by omega,rfl,HQ2⟩
                  case measure => omega
              · have hall : ∀ g ∈ l,g.n ≠ name := by have h := HQ.out; rwa [List.take_of_length_le (by have := HLL.out; omega)] at h
                have hm2 := newM_more (f := ⟨name,typ,[],[],[]⟩) HM.out (by rw [HLL.out]; omega) HIN.out HT.out ⟨rfl,rfl,rfl⟩ hall
                have hfl := find_last (f := ⟨name,typ,[],[],[]⟩) hall
                obtain ⟨hl1,hl2⟩ := newM_len HM.out
                have hff := (newM_ok HM.out).2.2.2.1
                rw [HLL.out] at hl1 hl2 hfl
                have HFN : Hid (F.l.length = ll) := Lib.hid (by rw [hff]; exact HLL.out)
                obtain ⟨G,hG⟩ : ∃ G,(⟨l ++ [⟨name,typ,[],[],[]⟩],F.es ++ [(none,none,none)],F.needs ++ [[]],F.order⟩ : Form) = G := ⟨_,rfl⟩
                rw [hG] at hm2
                have G1 : Hid (G.l.length = ll + 1) := Lib.hid (by rw [← hG]; simp [HLL.out])
                have G2 : Hid (G.order = F.order) := Lib.hid (by rw [← hG])
                have G3 : Hid (hasF G.es (ll : Int) = false) := Lib.hid (by rw [← hG]; exact hasF_last hl1)
                have G4 : Hid (∀ i : Nat,i < ll → hasF G.es (i : Int) = hasF F.es (i : Int)) := Lib.hid (fun i hi => by rw [← hG]; exact hasF_more (by omega))
                have G5 : Hid (∀ i : Nat,i < ll → ∃ nd,F.needs[i]? = some nd ∧ G.needs[i]? = some nd) := Lib.hid (fun i hi => ⟨_,List.getElem?_eq_getElem (by omega),by rw [← hG]; show (F.needs ++ [[]])[i]? = _; rw [List.getElem?_append_left (by omega)]; exact List.getElem?_eq_getElem (by omega)⟩)
                have G6 : Hid (findM (Fd.names G.l) name = .tuple #[.int .i64 ll,.bool true]) := Lib.hid (by rw [← hG]; exact hfl)
                have HM2 := Lib.hid hm2
                have hsh2 : ∀ x ∈ l ++ [(⟨name,typ,[],[],[]⟩ : Fd)],Short x := fun x hx => by
                  rcases List.mem_append.1 hx with hx | hx
                  · exact HSH.out x hx
                  · rw [List.mem_singleton] at hx; subst hx; exact ⟨by simp only; omega,by simp,by simp,by simp,by simp only; have := HT.out; omega⟩
                have HSH2 := Lib.hid hsh2
                have HFR3 := Lib.hid (HFR.out _ HB3.out)
                obtain ⟨i0,hi,hz0,hz1,hz2⟩ := infoFd
                clear hall hm2 hfl hl1 hl2 hff hG hsh2 HFR HFI HFI1 HQ
                go_wp2_with fail
                refine HFR3.out.mono ?_
                rintro r W4 ⟨v4,t4,rfl,hr4,he4⟩
                have hbl := heap_alloc_new W4 (.cells #[.string ⟨name.toArray⟩,.int .i64 typ,.string ⟨#[]⟩,.string ⟨#[]⟩,.string ⟨#[]⟩] 27)
                have HA := Lib.hid (cells_add hbl)
                have ev5 := (Evo.refl t4 W4 (fun _ => False)).alloc 7 (.cells #[.string ⟨name.toArray⟩,.int .i64 typ,.string ⟨#[]⟩,.string ⟨#[]⟩,.string ⟨#[]⟩] 27)
                have hr5 := hr4.keep ev5 (fun h => h)
                have HE5 := Lib.hid (he4.trans (ev5.mono fun _ h => h.elim))
                rw [HLL.out] at hr5
                clear hr4 he4 hbl ev5 HFR3
                go_wp2_with (at_builtin; refine wpList_append_row rfl _ _ 25 rfl 27 i0 _ 5 72 Tryz.underlying25 hi hz0 hz1 hz2 rfl (by decide) rfl hr5 ⟨W4.heap.size,0,none⟩ 1 1 _ rfl rfl HA.out ?c3 ?c4 ?c5 ?_)
                case c3 => exact inCells_one7 ⟨name,typ,[],[],[]⟩
                case c4 => unfold maxLen; omega
                case c5 => omega
                intro v6 t6 W6 hr6 he6 _
                have hr7 : Row t6 1 W6 27 5 v6 (ll + 1) ((l ++ [(⟨name,typ,[],[],[]⟩ : Fd)]).flatMap inCells) := by
                  rw [List.flatMap_append,List.flatMap_cons,List.flatMap_nil,List.append_nil]; exact hr6
                obtain ⟨a6,c6,rfl⟩ := hr7.form
                have hf7 : FdsV (gh W6) (.slice a6 (ll + 1) c6) (l ++ [(⟨name,typ,[],[],[]⟩ : Fd)]) := SlV.ofRow inCells (l ++ [(⟨name,typ,[],[],[]⟩ : Fd)]) noFd (by decide) inCells_len hr7
                have HB6 := Lib.hid (HB3.out.seq ((HE5.out.trans (he6.mono fun _ h => by rw [h]; decide)).toBelow (by simp)))
                have HNEW2 := Lib.hid (new_ok _ W6 (by simp [HLL.out]; omega) HSH2.out (HL.out.below HB6.out) hf7 HM2.out)
                have HSC6 := Lib.hid (HSC.out.mono (below_gh ((HE5.out.trans (he6.mono fun _ h => by rw [h]; decide)).toBelow (by simp))))
                clear hr5 hr6 he6 hr7 hf7 HA HE5 hi hz0 hz1 hz2
                go_wp2_with fail
                refine HNEW2.out.mono ?_
                rintro r W7 ⟨hb7,b2,rfl,hs7⟩
                have HB7 := Lib.hid (HB6.out.seq hb7)
                have HS7 := Lib.hid hs7
                have HSC7 := Lib.hid (HSC6.out.mono (below_gh hb7))
                have hle2 := len_any W7 hs7
                rw [G1.out] at hle2
                have hle1 := len_any W7 HSC7.out
                rw [HFN.out] at hle1
                have hin2 := input_in ll W7 hs7 (by rw [G1.out]; omega) (by rw [G1.out]; omega)
                rw [G3.out] at hin2
                have HLE2 := Lib.hid hle2
                have HLE1 := Lib.hid hle1
                have HIN2 := Lib.hid hin2
                have HOR1 := Lib.hid (order_of W7 HSC7.out)
                unfold intsPost at HOR1
                clear hb7 hs7 hle2 hle1 hin2 HNEW2
                go_wp2_with fail
                refine HLE2.out.mono ?_
                rintro r W8 ⟨rfl,rfl⟩
                go_wp2_with fail
                refine HLE1.out.mono ?_
                rintro r W8 ⟨rfl,rfl⟩
                go_wp2_with fail
                refine HIN2.out.mono ?_
                rintro r W8 ⟨rfl,rfl⟩
                go_wp2_with fail
                refine HOR1.out.mono ?_
                rintro r W8 ⟨hb8,v8,rfl,hv8⟩
                obtain ⟨a8,c8,rfl,-⟩ := intsV_form hv8
                have HB8 := Lib.hid (HB7.out.seq hb8)
                have HS8 := Lib.hid (HS7.out.mono (below_gh hb8))
                have HSC8 := Lib.hid (HSC7.out.mono (below_gh hb8))
                have hor2 := order_of W8 HS8.out
                rw [G2.out] at hor2
                have HOR2 := Lib.hid hor2
                have HV8 := Lib.hid hv8
                unfold intsPost at HOR2
                clear hb8 hor2 hv8 HOR1
                go_wp2_with fail
                refine HOR2.out.mono ?_
                rintro r W9 ⟨hb9,v9,rfl,hv9⟩
                obtain ⟨a9,c9,rfl,-⟩ := intsV_form hv9
                have HB9 := Lib.hid (HB8.out.seq hb9)
                have HS9 := Lib.hid (HS8.out.mono (below_gh hb9))
                have HSC9 := Lib.hid (HSC8.out.mono (below_gh hb9))
                have hsi := same_ints (gh W9) _ _ _ _ W9 (GH.le.refl _) (HV8.out.mono (below_gh hb9)) hv9
                rw [decide_eq_true rfl] at hsi
                have HSI := Lib.hid hsi
                clear hb9 hv9 hsi HOR2
                go_wp2_with fail
                refine HSI.out.mono ?_
                rintro r WA ⟨rfl,na,rfl⟩
                have HBA := Lib.hid (Pal.below_drewN HB9.out na)
                have HSA := Lib.hid (HS9.out.mono (below_gh (Pal.below_drewN (Below.refl W9.heap.size W9) na)))
                have HSCA := Lib.hid (HSC9.out.mono (below_gh (Pal.below_drewN (Below.refl W9.heap.size W9) na)))
                generalize W9.drewN na = WA at *
                clear HSI
                go_wp2_with fail
                go_loopg [14] ll (fun gk i wr => ∃ q : Nat,i = .int .i64 q ∧ q + gk = ll ∧ Hid (Below WA.heap.size WA wr))
                case atStart => exact ⟨0,rfl,by omega,Lib.hid (Below.refl _ _)⟩
                case round =>
                  obtain ⟨p,rfl,hg2,HBX⟩ := hrel
                  by_cases hp : p < ll
                  · obtain ⟨bx,hbx⟩ : ∃ x,(!hasF F.es (p : Int)) = x := ⟨_,rfl⟩
                    obtain ⟨nd,hn1,hn2⟩ := G5.out p hp
                    have hs1 := HSCA.out.mono (below_gh HBX.out)
                    have hs2 := HSA.out.mono (below_gh HBX.out)
                    have hi1 := input_in p wr hs1 (by rw [HFN.out]; exact hp) (by rw [HFN.out]; omega)
                    have hi2 := input_in p wr hs2 (by rw [G1.out]; omega) (by rw [G1.out]; omega)
                    rw [hbx] at hi1
                    rw [G4.out p hp,hbx] at hi2
                    have HI1 := Lib.hid hi1
                    have HI2 := Lib.hid hi2
                    have HN1 := Lib.hid (needs_in p nd wr hs1 (by rw [HFN.out]; exact hp) (by rw [HFN.out]; omega) hn1)
                    have HN2 := Lib.hid (fun W (hb : Below wr.heap.size wr W) => needs_in p nd W (hs2.mono (below_gh hb)) (by rw [G1.out]; omega) (by rw [G1.out]; omega) hn2)
                    unfold intsPost at HN1 HN2
                    have hxx : (bx != bx) = false := by cases bx <;> rfl
                    clear hbx hn1 hn2 hs1 hs2 hi1 hi2
                    go_wp2_with fail
                    refine HI1.out.mono ?_
                    rintro r V1 ⟨rfl,rfl⟩
                    go_wp2_with fail
                    refine HI2.out.mono ?_
                    rintro r V1 ⟨rfl,rfl⟩
                    go_wp2_with fail
                    refine HN1.out.mono ?_
                    rintro r V2 ⟨hb2,v2,rfl,hv2⟩
                    obtain ⟨a2,c2,rfl,-⟩ := intsV_form hv2
                    have HC2 := Lib.hid hb2
                    have HV2 := Lib.hid hv2
                    have HN3 := Lib.hid (HN2.out V2 hb2)
                    clear hb2 hv2 HN1
                    go_wp2_with fail
                    refine HN3.out.mono ?_
                    rintro r V3 ⟨hb3,v3,rfl,hv3⟩
                    obtain ⟨a3,c3,rfl,-⟩ := intsV_form hv3
                    have hsi := same_ints (gh V3) _ _ _ _ V3 (GH.le.refl _) (HV2.out.mono (below_gh hb3)) hv3
                    rw [decide_eq_true rfl] at hsi
                    have HSI := Lib.hid hsi
                    have HC3 := Lib.hid (HBX.out.seq (HC2.out.seq hb3))
                    clear hb3 hv3 hsi HN3
                    go_wp2_with fail
                    refine HSI.out.mono ?_
                    rintro r V4 ⟨rfl,n4,rfl⟩
                    go_wp2_with fail
                    go_roundg (gk - 1)
                    case rel => exact ⟨p + 1,by go_num,by omega,Lib.hid (Pal.below_drewN HC3.out n4)⟩
                    case measure => omega
                  · have hsf := sfind_any name wr (by omega) (HSA.out.mono (below_gh HBX.out))
                    rw [G6.out] at hsf
                    have HSF := Lib.hid hsf
                    have HBE := Lib.hid (HBA.out.seq HBX.out)
                    clear hsf
                    go_wp2_with fail
                    refine HSF.out.mono ?_
                    rintro r V1 ⟨rfl,rfl⟩
                    have HAWx := Lib.hid (HAW.out _ HBE.out)
                    go_wp2_with fail
                    refine HAWx.out.mono ?_
                    rintro r Wz ⟨rfl,hbz⟩
                    have HBz := Lib.hid (Below.seq HBE.out hbz)
                    clear hbz
                    go_wp2
                    try rw [Exit.noGoto_ret]
                    go_ret
                    exact ⟨rfl,HBz.out⟩
        · have qq : decide (typ < 1) = true ∨ (decide (typ < 1) = false ∧ decide (3 < typ) = true) := by
            by_cases h : typ < 1
            · exact .inl (decide_eq_true h)
            · exact .inr ⟨decide_eq_false h,decide_eq_true (by omega)⟩
          clear ht1
          rcases qq with q3 | ⟨q3,q4⟩
          all_goals
            go_enter Tryz.func7,Tryz.ntmps7
            go_wp2_with fail
            refine HFEW.out.mono ?_
            rintro r W ⟨rfl,rfl⟩
            go_wp2_with fail
            refine (HRN.out _).mono ?_
            rintro r W1 ⟨rfl,hb1⟩
            have HB1 := Lib.hid hb1
            clear hb1
            have HAWx := Lib.hid (HAW.out _ HB1.out)
            go_wp2_with fail
            refine HAWx.out.mono ?_
            rintro r Wz ⟨rfl,hbz⟩
            have HBz := Lib.hid (Below.seq HB1.out hbz)
            clear hbz
            go_wp2
            try rw [Exit.noGoto_ret]
            go_ret
            exact ⟨rfl,HBz.out⟩
end Go.Proofs.YtpfhhikbaeknpaaGreatDoor
