/- The walk of the program's Reach. -/
import Derived.Test.YtoaomedlgmnopaaW9
namespace Go.Proofs.Ytoaomedlgmnopaa
open Go.RowKit Pal Pal.Graph

def ReachPost (n : Int) (xss : List (List Int)) (fr : List Int) (w : World) (e : Ending) (w' : World) : Prop :=
  ∃ v ins, e = .returned v ∧ (0 ≤ n → n ≤ 4096 → InsOk n xss fr ins) ∧ IntsV (gh w') v (if 0 ≤ n ∧ n ≤ 4096 then picked ins n.toNat else []) ∧ Below w.heap.size w w'

/-- The backward needs are being written down. -/
structure Bk (w : World) (N : Nat) (xss : List (List Int)) (gB : Nat) (gN : Nat) (t : Tag) (wr : World) (bs : List Value) (B : List (List Int)) (I j : Nat) : Prop where
  cn : wr.cell? ⟨gN, 0, none⟩ = some (.int .i64 (N : Int))
  tn : t gN = 5
  back : BackSt t wr gB bs B N
  ok : BackOk N xss B I j
  ev : Evo T0 w t wr (· ≠ 0)
theorem Bk.keep {w : World} {N : Nat} {xss : List (List Int)} {gB gN : Nat} {t t' : Tag} {wr w' : World} {bs : List Value} {B : List (List Int)} {I j : Nat} (h : Bk w N xss gB gN t wr bs B I j) (ev : Evo t wr t' w' (fun _ => False)) : Bk w N xss gB gN t' w' bs B I j :=
  ⟨ev.cell id h.cn, by rw [ev.tag _ (World.block_lt_of_cell? _ _ h.cn)]; exact h.tn, h.back.keep ev id (fun _ => id), h.ok, h.ev.trans (ev.mono fun _ h => h.elim)⟩
theorem bk_start (w : World) (N : Nat) (xss : List (List Int)) (hN : N ≤ 4096) :
    ∃ t, Bk w N xss (w.heap.size + 1) w.heap.size t ((w.alloc (.cells #[.int .i64 (N : Int)] 3)).alloc (.cells (madeCells #[.slice none 0 0] N) 26)) (List.replicate N (.slice none 0 0)) (List.replicate N []) 0 0 := by
  have e1 : Evo T0 w (T0.set w.heap.size 5) (w.alloc (.cells #[.int .i64 (N : Int)] 3)) (· ≠ 0) := (Evo.refl _ _ _).alloc 5 _
  have c1 : (w.alloc (.cells #[.int .i64 (N : Int)] 3)).cell? ⟨w.heap.size, 0, none⟩ = some (.int .i64 (N : Int)) := by rw [World.cell?_alloc_at _ _ _ _ rfl]; rfl
  have s1 : (w.alloc (.cells #[.int .i64 (N : Int)] 3)).heap.size = w.heap.size + 1 := by simp
  have t1e : (T0.set w.heap.size 5) w.heap.size = 5 := Tag.set_same _ _ _
  generalize w.alloc (.cells #[.int .i64 (N : Int)] 3) = w1 at *
  generalize T0.set w.heap.size 5 = t1 at *
  have e2 : Evo t1 w1 (t1.set w1.heap.size 4) (w1.alloc (.cells (madeCells #[.slice none 0 0] N) 26)) (fun _ => False) := (Evo.refl _ _ _).alloc 4 _
  have r2 := Row.made t1 4 w1 26 (.slice none 0 0) N (by unfold maxLen; omega)
  rw [s1] at e2 r2
  exact ⟨_, e2.cell id c1, by rw [e2.tag _ (by omega)]; exact t1e, BackSt.start r2, backOk_start N xss, e1.trans (e2.mono fun _ h => h.elim)⟩

theorem cl_start {w : World} {N : Nat} {xss : List (List Int)} {t : Tag} {wo : World} {bs : List Value} {B : List (List Int)} {I : Nat} (P : Bk w N xss (w.heap.size + 1) w.heap.size t wo bs B I 0) (hN : N ≤ 4096) :
    ∃ t2, Evo t wo t2 (((wo.alloc (.cells (madeCells #[.bool false] N) 4)).alloc (.cells #[.slice (some ⟨wo.heap.size, 0, none⟩) N N] 32)).alloc (.cells #[.slice none 0 0] 26)) (fun _ => False) ∧
      Cl t2 (((wo.alloc (.cells (madeCells #[.bool false] N) 4)).alloc (.cells #[.slice (some ⟨wo.heap.size, 0, none⟩) N N] 32)).alloc (.cells #[.slice none 0 0] 26)) w.heap.size (wo.heap.size + 1) (wo.heap.size + 1 + 1) N (.slice (some ⟨wo.heap.size, 0, none⟩) N N) (.slice none 0 0) (List.replicate N false, []) := by
  have hlt : w.heap.size < wo.heap.size := World.block_lt_of_cell? _ _ P.cn
  have e1 : Evo t wo (t.set wo.heap.size 1) (wo.alloc (.cells (madeCells #[.bool false] N) 4)) (fun _ => False) := (Evo.refl _ _ _).alloc 1 _
  have r1 := Row.made t 1 wo 4 (.bool false) N (by unfold maxLen; omega)
  have s1 : (wo.alloc (.cells (madeCells #[.bool false] N) 4)).heap.size = wo.heap.size + 1 := by simp
  generalize wo.alloc (.cells (madeCells #[.bool false] N) 4) = w1 at *
  generalize t.set wo.heap.size 1 = t1 at *
  have e2 : Evo t1 w1 (t1.set w1.heap.size 6) (w1.alloc (.cells #[.slice (some ⟨wo.heap.size, 0, none⟩) N N] 32)) (fun _ => False) := (Evo.refl _ _ _).alloc 6 _
  have c2 : (w1.alloc (.cells #[.slice (some ⟨wo.heap.size, 0, none⟩) N N] 32)).cell? ⟨w1.heap.size, 0, none⟩ = some (.slice (some ⟨wo.heap.size, 0, none⟩) N N) := by rw [World.cell?_alloc_at _ _ _ _ rfl]; rfl
  have k2 : (t1.set w1.heap.size 6) w1.heap.size = 6 := Tag.set_same _ _ _
  have s2 : (w1.alloc (.cells #[.slice (some ⟨wo.heap.size, 0, none⟩) N N] 32)).heap.size = w1.heap.size + 1 := by simp
  generalize w1.alloc (.cells #[.slice (some ⟨wo.heap.size, 0, none⟩) N N] 32) = w2 at *
  generalize t1.set w1.heap.size 6 = t2 at *
  have e3 : Evo t2 w2 (t2.set w2.heap.size 7) (w2.alloc (.cells #[.slice none 0 0] 26)) (fun _ => False) := (Evo.refl _ _ _).alloc 7 _
  have c3 : (w2.alloc (.cells #[.slice none 0 0] 26)).cell? ⟨w2.heap.size, 0, none⟩ = some (.slice none 0 0) := by rw [World.cell?_alloc_at _ _ _ _ rfl]; rfl
  have f3 : (w2.alloc (.cells #[.slice none 0 0] 26)).frozen? ⟨w2.heap.size, 0, none⟩ = false := World.frozen?_alloc_at _ _ _ _ rfl
  have k3 : (t2.set w2.heap.size 7) w2.heap.size = 7 := Tag.set_same _ _ _
  generalize w2.alloc (.cells #[.slice none 0 0] 26) = w3 at *
  generalize t2.set w2.heap.size 7 = t3 at *
  have ev := (e1.trans e2).trans e3
  rw [s1] at k2 c2 s2
  rw [s2] at c3 f3 k3
  refine ⟨t3, ev, ?_⟩
  refine ⟨ev.cell id P.cn, by rw [ev.tag _ hlt]; exact P.tn, e3.cell id c2, by rw [e3.tag _ (by omega)]; exact k2, c3, k3, f3, ?_, Row.nil _ _ _ _ _⟩
  simpa using (r1.keep e2 id).keep e3 id

structure Dn (w : World) (N : Nat) (xss : List (List Int)) (fr : List Int) (gB gI gT gA cA : Nat) (t : Tag) (wr : World) (bs : List Value) (B : List (List Int)) (vt : Value) (s : List Bool × List Int) : Prop where
  dfs : Dfs N xss fr s
  cl : Cl t wr w.heap.size gI gT N (.slice (some ⟨gA, 0, none⟩) N cA) vt s
  back : BackSt t wr gB bs B N
  ok : BackOk N xss B N 0
  ev : Evo T0 w t wr (· ≠ 0)

set_option maxHeartbeats 2000000 in
set_option maxRecDepth 100000 in
theorem reach_no (n : Int) (v vf : Value) (xss : List (List Int)) (fr : List Int) (w : World) (hn : ¬ (0 ≤ n ∧ n ≤ 4096)) : Calls Try.prog 17 #[.int .i64 n, v, vf] w (ReachPost n xss fr w) := by
  have HN := Lib.hid hn
  by_cases h0 : n < 0
  all_goals
    have h1 : n < 0 ∨ 4096 < n := by omega
    clear hn
    go_enter Try.func17, Try.ntmps17
    go_wp2
    go_ret
    exact ⟨_, [], rfl, fun a b => absurd ⟨a, b⟩ HN.out, by rw [if_neg HN.out]; exact ints_nil _, (Below.refl _ _).alloc (Nat.le_refl _) _⟩

set_option maxHeartbeats 2000000 in
set_option maxRecDepth 100000 in
theorem reach_yes (h : GH) (N : Nat) (v vf : Value) (xss : List (List Int)) (fr : List Int) (w : World) (hN : N ≤ 100) (hS : ∀ (i : Nat) (xs : List Int), xss[i]? = some xs → xs.length ≤ 80) (hw : h.le (gh w)) (hx : RowsV h v xss) (hf : IntsV h vf fr) :
    Calls Try.prog 17 #[.int .i64 (N : Int), v, vf] w (ReachPost N xss fr w) := by
  obtain ⟨i0, hi, hz0, hz1, hz2⟩ := info_parts3
  obtain ⟨i4, hi4, hy0, hy1, hy2⟩ := info_parts4
  obtain ⟨i26, hi26, hx0, hx1, hx2⟩ := info_parts26
  have hmk := run_made (P := Try.prog) Try.underlying32 hi4 hy0 hy1 hy2 rfl N (by omega) (by omega)
  have hmk26 := run_made (P := Try.prog) Try.underlying22 hi26 hx0 hx1 hx2 rfl N (by omega) (by omega)
  obtain ⟨t, P0⟩ := bk_start w N xss (by omega)
  have HS := Lib.hid hS; clear hS
  go_enter Try.func17, Try.ntmps17
  go_wp2
  go_loopg [28] N (fun g i wr => ∃ I t bs B, I + g = N ∧ i = .int .i64 (I : Nat) ∧ Bk w N xss (w.heap.size + 1) w.heap.size t wr bs B I 0)
  case atStart => exact ⟨0, t, _, _, by omega, rfl, P0⟩
  case round =>
    clear P0
    obtain ⟨I, t, bs, B, hIg, rfl, P⟩ := hrel
    obtain ⟨wo, rfl⟩ : ∃ wo : World, wo = wr := ⟨_, rfl⟩
    have hcn := P.cn
    have hle : h.le (gh wo) := by
      have := P.ev.hz (by simp)
      rw [hz_T0] at this
      exact hw.trans (this.trans (hz_gh _ _))
    cases gk with
    | zero =>
      have hIN : I = N := by omega
      subst hIN
      obtain ⟨t2, E2, C2⟩ := cl_start P (by omega)
      have B2 := P.back.keep E2 id (fun _ => id)
      have V2 := P.ev.trans (E2.mono fun _ h => h.elim)
      have ok := P.ok
      clear P hle
      go_wp2_with fail
      clear hcn hmk hmk26
      generalize (((wo.alloc (.cells (madeCells #[.bool false] I) 4)).alloc (.cells #[.slice (some ⟨wo.heap.size, 0, none⟩) I I] 32)).alloc (.cells #[.slice none 0 0] 26)) = w3 at *
      generalize wo.heap.size = gA at *
      refine (closure_any t2 w3 w.heap.size (gA + 1) (gA + 1 + 1) I gA I _ vf (List.replicate I false, []) fr (by omega) (by simp) (by simp) C2 (hf.mono ?_)).mono ?_
      · have := V2.hz (by simp)
        rw [hz_T0] at this
        exact hw.trans (this.trans (hz_vw _ _ rfl))
      rintro e w4 ⟨rfl, t4, vt4, E4, C4⟩
      have P4 : Dn w I xss fr (w.heap.size + 1) (gA + 1) (gA + 1 + 1) gA I t4 w4 bs B vt4 (pushes I (List.replicate I false, []) fr) :=
        ⟨dfs_start I xss fr, C4, B2.keep E4 (by unfold KC; omega) (fun k => by unfold KC; omega), ok, V2.trans (E4.mono (by intro x hx; unfold KC at hx; omega))⟩
      clear B2 V2 E2 C2 C4 E4
      go_wp2
      go_loopg [15] ((pushes I (List.replicate I false, []) fr).1.count false + (pushes I (List.replicate I false, []) fr).2.length)
        (fun g _ wr => ∃ t vt s, s.1.count false + s.2.length = g ∧ Dn w I xss fr (w.heap.size + 1) (gA + 1) (gA + 1 + 1) gA I t wr bs B vt s)
      case atStart => exact ⟨t4, vt4, _, rfl, P4⟩
      case round =>
        clear P4
        obtain ⟨t, vt, s, hsg, P⟩ := hrel
        obtain ⟨wo, rfl⟩ : ∃ wo : World, wo = wr := ⟨_, rfl⟩
        obtain ⟨ins, T⟩ := s
        have hct := P.cl.ct
        have hci := P.cl.ci
        have hft := P.cl.ft
        rcases List.eq_nil_or_concat T with rfl | ⟨T', x, rfl⟩
        · obtain ⟨ta, tc, rfl⟩ := P.cl.rt.form
          have hins := dfs_end P.dfs
          have hlen := hins.len
          simp only [Int.toNat_natCast] at hlen
          have HI := Lib.hid hins; clear hins
          have HL := Lib.hid hlen; clear hlen
          have hrin := P.cl.rin
          have hev := P.ev
          clear P
          go_wp2
          go_loopg [7, 80] I (fun g u i wr => ∃ k t, k + g = I ∧ i = .int .i64 (k : Nat) ∧ Row t 8 wr 3 1 u (picked ins k).length ((picked ins k).map (Value.int .i64)) ∧ Row t 1 wr 4 1 (.slice (some ⟨gA, 0, none⟩) I I) I (ins.map Value.bool) ∧ Evo T0 w t wr (· ≠ 0))
          case atStart => exact ⟨0, t, by omega, rfl, Row.nil _ _ _ _ _, hrin, hev⟩
          case round =>
            clear hrin hev hct hci hft
            obtain ⟨k, t, hkg, rfl, hr, hr2, hev⟩ := hrel
            obtain ⟨la, lc, rfl⟩ := hr.form
            cases gk with
            | zero =>
              have hkI : k = I := by omega
              subst hkI
              have hple := picked_le ins k
              go_wp2
              go_ret
              refine ⟨_, ins, rfl, fun _ _ => HI.out, ?_, hev.toBelow (by simp)⟩
              rw [if_pos (by omega), Int.toNat_natCast]
              exact IntsV.ofRowAny hr (by omega)
            | succ g1 =>
              have hkI : k < I := by omega
              obtain ⟨d, hdk⟩ : ∃ d, ins[k]? = some d := ⟨_, List.getElem?_eq_getElem (by have := HL.out; omega)⟩
              obtain ⟨g, cap, hg, _, _, hcell, hfr⟩ := hr2.get (j := k) (x := .bool d) (by simp [hdk])
              simp only [Value.slice.injEq, true_and] at hg
              obtain ⟨hg1, hg2⟩ := hg
              cases hg1; subst hg2
              have hls := picked_succ ins k
              have hgd : got ins k = d := by simp [got, hdk]
              rw [hgd] at hls
              have HD := Lib.hid hdk; clear hdk hgd
              have hll := picked_le ins k
              cases d
              · have HLS := Lib.hid hls; clear hls
                go_wp2
                go_roundg g1
                case measure => omega
                case rel =>
                  refine ⟨k + 1, t, by omega, by go_num, ?_, hr2, hev⟩
                  rw [HLS.out]; simpa using hr
              · have HLS := Lib.hid hls; clear hls
                go_wp2_with (at_builtin; refine wpList_append_one rfl _ _ 26 rfl 3 i0 (.int .i64 0) 1 8 Try.underlying26 hi hz0 hz1 hz2 rfl (by decide) rfl hr #[.int .i64 k] 3 (0,0) _ rfl (by simp) rfl ?c1 ?c2 ?c3 ?_)
                case c1 => rfl
                case c2 => unfold maxLen; omega
                case c3 => omega
                intro v' t' w' hr3 he
                have hev2 := hev.trans (he.mono (K' := (· ≠ 0)) (by intro x hx; omega))
                have hd2 := hr2.keep he (by simp)
                clear hev hr hr2 he
                go_wp2
                go_roundg g1
                case measure => omega
                case rel =>
                  refine ⟨k + 1, t', by omega, by go_num, ?_, hd2, hev2⟩
                  rw [HLS.out]; simpa using hr3
        · rw [List.concat_eq_append] at *
          obtain ⟨m, hm⟩ : ∃ m, m = T'.length := ⟨_, rfl⟩
          have hTl : (T' ++ [x]).length = m + 1 := by simp [hm]
          obtain ⟨hx0, hxN, hxg⟩ := P.dfs.todo x (by simp)
          have hpot := P.dfs.pot
          have hrt := P.cl.rt
          simp only [hTl] at hrt hpot
          obtain ⟨gt, tc, rfl, hgtl, htgt, hcl, _⟩ := hrt.get (j := m) (x := .int .i64 x) (by rw [hm]; simp)
          obtain ⟨hmc, hcm⟩ : m + 1 ≤ tc ∧ tc ≤ maxLen := by
            rcases hrt.own.2 with ⟨hv, _⟩ | ⟨g', cap', cur, hv, hb, hg, hn, hc, hs, ht⟩
            · cases hv
            · simp only [Value.slice.injEq, Option.some.injEq, Addr.mk.injEq, and_true, true_and] at hv
              obtain ⟨rfl, rfl⟩ := hv
              exact ⟨hn, hc⟩
          unfold maxLen at hcm
          -- todo = todo[:len(todo)-1]
          have E1 : Evo t wo t (wo.setCell ⟨gA + 1 + 1, 0, none⟩ (.slice (some ⟨gt, 0, none⟩) m tc)) (· = 7) := (Evo.refl _ _ _).setCell _ _ P.cl.tt
          have lt : ∀ g v, wo.cell? ⟨g, 0, none⟩ = some v → g < wo.heap.size := fun g v h => World.block_lt_of_cell? wo _ h
          have C1 : Cl t (wo.setCell ⟨gA + 1 + 1, 0, none⟩ (.slice (some ⟨gt, 0, none⟩) m tc)) w.heap.size (gA + 1) (gA + 1 + 1) I (.slice (some ⟨gA, 0, none⟩) I I) (.slice (some ⟨gt, 0, none⟩) m tc) (ins, T') := by
            refine ⟨E1.cell (by rw [P.cl.tn]; omega) P.cl.cn, P.cl.tn, E1.cell (by rw [P.cl.ti]; omega) P.cl.ci, P.cl.ti, World.cell?_setCell_same _ _ _ P.cl.ct, P.cl.tt, (World.frozen?_setCell _ _ _ _).trans P.cl.ft, P.cl.rin.keep E1 (by omega), ?_⟩
            have := (hrt.take m (by omega)).keep E1 (by omega)
            rw [← hm]
            have e : ((T' ++ [x]).map (Value.int .i64)).take m = T'.map (Value.int .i64) := by rw [← List.map_take, hm, List.take_left]
            rw [e] at this
            exact this
          have B1 := P.back.keep E1 (by omega) (fun k => by omega)
          have hxk : x.toNat < I := by omega
          obtain ⟨u, hu⟩ : ∃ u, bs[x.toNat]? = some u := ⟨_, List.getElem?_eq_getElem (by rw [P.back.blen]; exact hxk)⟩
          obtain ⟨l, hl⟩ : ∃ l, B[x.toNat]? = some l := ⟨_, List.getElem?_eq_getElem (by rw [P.back.len]; exact hxk)⟩
          obtain ⟨g, cap, hg, _, _, hcb, hfb⟩ := B1.row.get hu
          simp only [sl, Value.slice.injEq, Option.some.injEq, Addr.mk.injEq, and_true, true_and] at hg
          obtain ⟨rfl, rfl⟩ := hg
          have R1 := B1.inner _ u l hu hl
          have hsh := P.ok.short _ l hl
          have DS := dfs_step P.dfs (back_mem P.ok hx0 hl)
          have hlen := P.dfs.len
          have hok := P.ok
          have hev := P.ev.trans (E1.mono (K' := (· ≠ 0)) (fun x hx => by omega))
          have iv : IntsV (vw (fun k => k != 1 && k != 2 && k != 7) t (wo.setCell ⟨gA + 1 + 1, 0, none⟩ (.slice (some ⟨gt, 0, none⟩) m tc))) u l := IntsV.ofRowV R1 (by simp; omega) (by omega)
          have DS1 := DS.1
          have DS2 := DS.2
          rw [hTl] at DS2
          simp only [hTl] at hsg
          have HU := Lib.hid hu; clear hu
          have HLL := Lib.hid hl; clear hl
          have HM := Lib.hid hm; clear hm
          have HDS := Lib.hid DS2; clear DS2 DS
          have HSG := Lib.hid hsg; clear hsg
          have HLEN := Lib.hid hlen; clear hlen
          clear hTl P E1
          go_wp2_with fail
          have hp2 : ins.count false + T'.length ≤ I := by have := HM.out; omega
          refine (closure_any t _ w.heap.size (gA + 1) (gA + 1 + 1) I gA I _ u (ins, T') l (by omega) HLEN.out hp2 C1 iv).mono ?_
          rintro e w4 ⟨rfl, t4, vt4, E4, C4⟩
          have PN : Dn w I xss fr (w.heap.size + 1) (gA + 1) (gA + 1 + 1) gA I t4 w4 bs B vt4 (pushes I (ins, T') l) :=
            ⟨DS1, C4, B1.keep E4 (by unfold KC; omega) (fun k => by unfold KC; omega), hok, hev.trans (E4.mono (by intro x hx; unfold KC at hx; omega))⟩
          clear E4 C4 C1 B1 R1 hev iv DS1 hrt hct hcl hcb
          go_wp2
          go_roundg ((pushes I (ins, T') l).1.count false + (pushes I (ins, T') l).2.length)
          case measure => have := HDS.out; have := HSG.out; omega
          case rel => exact ⟨t4, vt4, _, rfl, PN⟩
    | succ g1 =>
      have hlt : I < N := by omega
      clear hmk hmk26
      go_wp2_with fail
      refine (list_any h N _ xss I _ hle hx).mono ?_
      rintro e w1 ⟨v', rfl, ho, hb⟩
      obtain ⟨t1, hr1, he1⟩ := Row.ofOwn t 9 (fun _ => False) hb ho
      have P1 := P.keep he1
      clear P he1 ho hb hcn
      obtain ⟨a, c, rfl⟩ := hr1.form
      have hls := lst_short (n := (N : Int)) HS.out I
      have hlm : ∀ x ∈ lst N xss I, 0 ≤ x ∧ x < (N : Int) := fun x hx => lst_mem hx
      obtain ⟨L, hL⟩ : ∃ L, L = lst (N : Int) xss I := ⟨_, rfl⟩
      rw [← hL] at hls hlm hr1
      rw [← hL]
      have HL := Lib.hid hL; clear hL
      have HLM := Lib.hid hlm; clear hlm
      go_wp2
      go_loopg [36] L.length (fun g i wr => ∃ j t bs B, j + g = L.length ∧ i = .int .i64 (j : Nat) ∧ Bk w N xss (w.heap.size + 1) w.heap.size t wr bs B I j ∧ Row t 9 wr 3 1 (.slice a L.length c) L.length (L.map (Value.int .i64)))
      case atStart => exact ⟨0, t1, bs, B, by omega, rfl, P1, hr1⟩
      case round =>
        clear P1 hr1
        obtain ⟨j, t, bs, B, hjg, rfl, P, hr⟩ := hrel
        obtain ⟨w2, rfl⟩ : ∃ w2 : World, w2 = wr := ⟨_, rfl⟩
        cases gk with
        | zero =>
          have hjl : j = L.length := by omega
          subst hjl
          go_wp2
          go_roundg g1
          case measure => omega
          case rel =>
            refine ⟨I + 1, t, bs, B, by omega, by go_num, P.cn, P.tn, P.back, ?_, P.ev⟩
            have := P.ok
            rw [HL.out] at this
            exact backOk_next this (by rw [← HL.out]; exact hls)
        | succ g2 =>
          have hjl : j < L.length := by omega
          obtain ⟨x, hxj⟩ : ∃ x, L[j]? = some x := ⟨_, List.getElem?_eq_getElem hjl⟩
          obtain ⟨hx0, hxN⟩ := HLM.out x (List.mem_of_getElem? hxj)
          obtain ⟨gl, cl, hgl, _, _, hcl, _⟩ := hr.get (j := j) (x := .int .i64 x) (by simp [hxj])
          simp only [Value.slice.injEq, true_and] at hgl
          obtain ⟨rfl, rfl⟩ := hgl
          have hxk : x.toNat < N := by omega
          obtain ⟨u, hu⟩ : ∃ u, bs[x.toNat]? = some u := ⟨_, List.getElem?_eq_getElem (by rw [P.back.blen]; exact hxk)⟩
          obtain ⟨l, hl⟩ : ∃ l, B[x.toNat]? = some l := ⟨_, List.getElem?_eq_getElem (by rw [P.back.len]; exact hxk)⟩
          obtain ⟨g, cap, hg, _, _, hcb, hfb⟩ := P.back.row.get hu
          simp only [sl, Value.slice.injEq, Option.some.injEq, Addr.mk.injEq, and_true, true_and] at hg
          obtain ⟨rfl, rfl⟩ := hg
          have R1 := P.back.inner _ u l hu hl
          obtain ⟨ua, uc, rfl⟩ := R1.form
          have hsh := P.ok.short _ l hl
          have HX := Lib.hid hxj; clear hxj
          have HU := Lib.hid hu; clear hu
          have HLL := Lib.hid hl; clear hl
          go_wp2_with (at_builtin; refine wpList_append_one rfl _ _ 26 rfl 3 i0 (.int .i64 0) 1 8 Try.underlying26 hi hz0 hz1 hz2 rfl (by decide) rfl R1 #[.int .i64 I] 3 (0,0) _ rfl (by simp) rfl ?c1 ?c2 ?c3 ?_)
          case c1 => rfl
          case c2 => unfold maxLen; omega
          case c3 => omega
          intro v' t' w' hr3 he
          have B2 := P.back.push HU.out HLL.out (l' := l ++ [(I : Int)]) (by simpa using hr3) he
          have hBlt := (P.back.row.own.lt _ rfl).2
          have htg : t' (w.heap.size + 1) = 4 := by rw [he.tag _ hBlt]; exact P.back.row.tag _ rfl
          have E2 : Evo t' w' t' (w'.setCell ⟨w.heap.size + 1, x.toNat, none⟩ v') (· = 4) := (Evo.refl _ _ _).setCell _ _ htg
          have hcb2 := he.cell (by rw [P.back.row.tag _ rfl]; omega) hcb
          have hfb2 : w'.frozen? ⟨w.heap.size + 1, x.toNat, none⟩ = false := by
            obtain ⟨g, cap, hg, _, _, _, hf⟩ := (P.back.row.keep he (by omega)).get HU.out
            simp only [sl, Value.slice.injEq, Option.some.injEq, Addr.mk.injEq, and_true, true_and] at hg
            rw [← hg.1] at hf; exact hf
          have EE := (he.mono (K' := fun k => k = 10 + x.toNat ∨ k = 4) (fun x hx => .inl hx)).trans (E2.mono (fun x hx => .inr hx))
          have PN : Bk w N xss (w.heap.size + 1) w.heap.size t' (w'.setCell ⟨w.heap.size + 1, x.toNat, none⟩ v') (bs.set x.toNat v') (B.set x.toNat (l ++ [(I : Int)])) I (j + 1) := by
            refine ⟨EE.cell (by rw [P.tn]; omega) P.cn, by rw [EE.tag _ (World.block_lt_of_cell? _ _ P.cn)]; exact P.tn, B2, backOk_push P.ok hlt (by rw [← HL.out]; exact HX.out) HLL.out, P.ev.trans (EE.mono (K' := (· ≠ 0)) (fun x hx => by omega))⟩
          have RN := hr.keep EE (by omega)
          obtain ⟨va, vc, rfl⟩ := hr3.form
          clear P hr R1 hr3 he B2 E2 EE hcb hcl
          go_wp2
          go_roundg g2
          case measure => omega
          case rel => exact ⟨j + 1, t', _, _, by omega, by go_num, PN, RN⟩
end Go.Proofs.Ytoaomedlgmnopaa
