/- The walk of palaverlaw09.EvalTexts. Conditions: the tables hold what they are laid with; the arguments read as data. -/
import Derived.Test.YtfjpdphphieaoaaGreatDoorQC
import Derived.Test.YtfjpdphphieaoaaGreatDoorF8
import Derived.Deep.RegionHeld3
set_option linter.unusedSectionVars false
set_option linter.unusedSimpArgs false
set_option linter.unusedVariables false
namespace Go.Proofs.YtfjpdphphieaoaaGreatDoor
open Go.RowKit Pal
/-- What the document's parser hands back, at one expression or none. -/
theorem rparse_out {s : ByteArray} {w w' : World} {e : Ending} (h : parsePost s w e w') : Below w.heap.size w w' ∧ ((∃ ex a c,parseM s.data.toList = .ok ex ∧ e = .returned (.tuple #[exV ex.op ex.n ex.s (.slice a ex.ks.length c),.int .i64 0,.int .i64 0]) ∧ KV (gh w') (.slice a ex.ks.length c) ex.ks) ∨
    (∃ (p : Nat) (k : Int),k ≠ 0 ∧ e = .returned (.tuple #[.agg #[.int .i64 0,.int .i64 0,.string ⟨#[]⟩,.slice none 0 0],.int .i64 p,.int .i64 k]))) := by
  refine ⟨h.1,?_⟩
  have h2 := h.2
  split at h2
  · rename_i p k hm
    refine .inr ⟨p,k,?_,h2⟩
    unfold parseM at hm
    split at hm
    · simp only [Except.error.injEq,Prod.mk.injEq] at hm; omega
    · split at hm
      · simp only [Except.error.injEq,Prod.mk.injEq] at hm; omega
      · split at hm
        · simp only [Except.error.injEq,Prod.mk.injEq] at hm; omega
        · split at hm
          · cases hm
          · simp only [Except.error.injEq,Prod.mk.injEq] at hm; omega
  · rename_i ex hm
    obtain ⟨v,hv,kv,rfl,hk⟩ := h2
    obtain ⟨a,c,rfl⟩ := hk.form
    exact .inl ⟨ex,a,c,hm,hv,hk.mono (gp_gh _ _)⟩
set_option maxRecDepth 1000000 in
set_option maxHeartbeats 8000000 in
theorem evaltexts_walk (s : ByteArray) (names : List Bs) (nv : Value) (vals : List Val) (vv : Value) (w : World) (hL : Lay2 w) (hm : s.size ≤ 9223372036854775807)
    (hN : StrsV (gh w) nv names) (hNs : ∀ s ∈ names,s.length ≤ 9223372036854775807) (hNn : NilV nv) (hA : ValsV (gh w) vv vals) (hAs : ∀ v ∈ vals,I64 v.k ∧ I64 v.n ∧ v.s.length ≤ 9223372036854775807) (hAn : NilV vv) :
    Calls Tryz.prog 3 #[.string s,nv,vv] w (yesPost w) := by
  have HL := Lib.hid hL
  have HN := Lib.hid hN
  have HA := Lib.hid hA
  have HNN := Lib.hid (And.intro hNn hAn)
  obtain ⟨na,nc,rfl⟩ := hN.form
  obtain ⟨va,vc,rfl,-⟩ := hA.form
  obtain ⟨fw,hfw⟩ : ∃ b,few9 names vals = b := ⟨_,rfl⟩
  have HFW := Lib.hid (fun W (hb : Below w.heap.size w W) => hfw ▸ few9_any names vals _ _ W (HN.out.mono (below_gh hb)) (HA.out.mono (below_gh hb)))
  have HVF : Hid (fw = true → VFine vals) := Lib.hid (fun h => few9_fine (hfw.trans h) hAs)
  have HCN := Lib.hid (fun (h : fw = true) W (hb : Below w.heap.size w W) => Texts_any names _ W (HN.out.mono (below_gh hb)) HNN.out.1 (few9_len (hfw.trans h)).1)
  have HCV := Lib.hid (fun (h : fw = true) W (hb : Below w.heap.size w W) => Values_any vals _ W (HA.out.mono (below_gh hb)) HNN.out.2 (few9_len (hfw.trans h)).2)
  have HAW := Lib.hid (fun W (hb : Below w.heap.size w W) => awake9 W (HL.out.below hb).lay)
  have HP := Lib.hid (fun W => refParse_any s W hm)
  clear hL hN hNs hNn hA hAs hAn hfw
  by_cases hlen : 400 < s.size
  · go_enter Tryz.func3,Tryz.ntmps3
    go_wp2_with fail
    refine (HAW.out _ (Below.refl _ _)).mono ?_
    rintro r V ⟨rfl,hbv⟩
    have hbv := ((Below.refl _ _)).seq hbv
    go_wp2
    go_ret
    exact ⟨rfl,hbv⟩
  cases fw with
  | false =>
    go_enter Tryz.func3,Tryz.ntmps3
    go_wp2_with fail
    refine (HFW.out _ (Below.refl _ _)).mono ?_
    rintro r W0 ⟨rfl,rfl⟩
    go_wp2_with fail
    refine (HAW.out _ (Below.refl _ _)).mono ?_
    rintro r V ⟨rfl,hbv⟩
    have hbv := ((Below.refl _ _)).seq hbv
    go_wp2
    go_ret
    exact ⟨rfl,hbv⟩
  | true =>
    have HCN2 := Lib.hid (HCN.out (by first | rfl | trivial))
    have HCV2 := Lib.hid (HCV.out (by first | rfl | trivial))
    have HVF2 := Lib.hid (HVF.out (by first | rfl | trivial))
    clear HCN HCV HVF
    go_enter Tryz.func3,Tryz.ntmps3
    go_wp2_with fail
    refine (HFW.out _ (Below.refl _ _)).mono ?_
    rintro r W0 ⟨rfl,rfl⟩
    go_wp2_with fail
    refine (HP.out _).mono ?_
    rintro r W1 h
    obtain ⟨hb1,ho⟩ := rparse_out h
    have HBB := Lib.hid hb1
    rcases ho with ⟨X,a,c,hpm,rfl,hk⟩ | ⟨p,k,hk0,rfl⟩
    case inr =>
      have q0 : (k != 0) = true := bne_iff_ne.2 hk0
      have HB2 := Lib.hid (HBB.out.alloc HBB.out.size (.cells #[.int .i64 0,.int .i64 0,.string ⟨#[]⟩,.slice none 0 0] 28))
      clear h hb1 hk0 HBB
      go_upto_region 4 with fail
      generalize W1.alloc (.cells #[.int .i64 0,.int .i64 0,.string ⟨#[]⟩,.slice none 0 0] 28) = W2 at *
      go_wp2_with fail
      refine (HAW.out _ HB2.out).mono ?_
      rintro r V ⟨rfl,hbv⟩
      have hbv := (HB2.out).seq hbv
      go_wp2
      go_ret
      exact ⟨rfl,hbv⟩
    case inl =>
      have HFI := Lib.hid (And.intro (parseM_fine hpm) (parseM_check hpm))
      obtain ⟨x,hx⟩ : ∃ v,evalM X names vals = v := ⟨_,rfl⟩
      obtain ⟨uk,huk⟩ : ∃ k,x.k = k := ⟨_,rfl⟩
      obtain ⟨un,hun⟩ : ∃ k,x.n = k := ⟨_,rfl⟩
      obtain ⟨us,hus⟩ : ∃ s : ByteArray,(⟨x.s.toArray⟩ : ByteArray) = s := ⟨_,rfl⟩
      have HU : Hid (valV x = .agg #[.int .i64 uk,.int .i64 un,.string us]) := Lib.hid (by unfold valV strV; rw [huk,hun,hus])
      have HEV : Hid (∀ v nv vv W,Below w.heap.size w W → EV (gh W) v X → StrsV (gh W) nv names → ValsV (gh W) vv vals → Calls Tryz.prog 7 #[v,nv,vv] W (aggPost uk un us W)) := Lib.hid (fun v nv vv W hb hE hN hA => by
        have h := Eval_any X names vals v nv vv W HFI.out.1 HVF2.out (HL.out.below hb).lay hE hN hA
        rw [hx] at h
        unfold valPost at h
        rw [HU.out] at h
        exact h)
      have HRE : Hid (∀ v nv vv W,EV (gh W) v X → StrsV (gh W) nv names → ValsV (gh W) vv vals → Calls Tryz.prog 10 #[v,nv,vv] W (aggPost uk un us W)) := Lib.hid (fun v nv vv W hE hN hA => by
        have h := jEval_any X names vals v nv vv W (check_good HFI.out.1 HFI.out.2) HVF2.out hE hN hA
        have he : ev (look names vals) X = x := by rw [← hx]; unfold evalM; rw [if_pos HFI.out.2]
        rw [he] at h
        unfold valPost at h
        rw [HU.out] at h
        exact h)
      have K2 : Hid (Kept w (W1.alloc (.cells #[.int .i64 X.op,.int .i64 X.n,.string ⟨X.s.toArray⟩,.slice a X.ks.length c] 28)) [(W1.heap.size,(.cells #[.int .i64 X.op,.int .i64 X.n,.string ⟨X.s.toArray⟩,.slice a X.ks.length c] 28))]) := Lib.hid (Kept.new ⟨hb1,fun x hx => by cases hx⟩ (.cells #[.int .i64 X.op,.int .i64 X.n,.string ⟨X.s.toArray⟩,.slice a X.ks.length c] 28))
      have HK2 := Lib.hid (hk.keep ((Below.refl _ _).alloc (Nat.le_refl _) (.cells #[.int .i64 X.op,.int .i64 X.n,.string ⟨X.s.toArray⟩,.slice a X.ks.length c] 28)))
      clear h hb1 hk hpm hx huk hun hus HU HBB HFW
      unfold exV strV
      unfold aggPost at HEV HRE
      go_upto_region 4 with fail
      generalize W1.alloc (.cells #[.int .i64 X.op,.int .i64 X.n,.string ⟨X.s.toArray⟩,.slice a X.ks.length c] 28) = W2 at *
      generalize W1.heap.size = bx at *
      go_upto_region 6 with fail
      have KK := Lib.hid K2.out.drew
      have HK := Lib.hid (HK2.out.keep ((Below.refl _ _).drew))
      obtain ⟨⟨g0,g1,g2,g3⟩,-⟩ := four_all KK.out.at0
      have q1 : (uk == uk) = true := beq_self_eq_true uk
      have q2 : (un == un) = true := beq_self_eq_true un
      clear K2 HK2
      go_region_held3 (fun w' => (w'.cell? ⟨bx,0,none⟩ = some (.int .i64 X.op) ∧ w'.cell? ⟨bx,1,none⟩ = some (.int .i64 X.n) ∧ w'.cell? ⟨bx,2,none⟩ = some (.string ⟨X.s.toArray⟩) ∧ w'.cell? ⟨bx,3,none⟩ = some (.slice a X.ks.length c))) (go_keep)
        ((first
          | (go_at_call 8; refine (HCN2.out _ KK.out.below).mono ?_; rintro r W5 ⟨hb,v5,rfl,hs5⟩; obtain ⟨sa,sc,rfl⟩ := hs5.form; have KK := Lib.hid (KK.out.call hb); have HK := Lib.hid (HK.out.keep hb); have HS5 := Lib.hid hs5; have hg := four_all KK.out.at0; obtain ⟨⟨g0,g1,g2,g3⟩,-⟩ := hg; clear hb hs5)
          | (go_at_call 9; refine (HCV2.out _ KK.out.below).mono ?_; rintro r W6 ⟨hb,v6,rfl,hs6⟩; obtain ⟨xa,xc,rfl,-⟩ := hs6.form; have KK := Lib.hid (KK.out.call hb); have HK := Lib.hid (HK.out.keep hb); have HS5 := Lib.hid (HS5.out.mono (below_gh hb)); have HS6 := Lib.hid hs6; have hg := four_all KK.out.at0; obtain ⟨⟨g0,g1,g2,g3⟩,-⟩ := hg; clear hb hs6)
          | (go_at_call 7; refine (HEV.out _ _ _ _ KK.out.below ⟨_,rfl,HK.out⟩ HS5.out HS6.out).mono ?_; rintro r W7 ⟨rfl,hb⟩; have KK := Lib.hid (KK.out.call hb); have HK := Lib.hid (HK.out.keep hb); have hg := four_all KK.out.at0; obtain ⟨⟨g0,g1,g2,g3⟩,-⟩ := hg; clear hb)
          | (go_at_call 10; refine (HRE.out _ _ _ _ ⟨_,rfl,HK.out⟩ (HN.out.mono (below_gh KK.out.below)) (HA.out.mono (below_gh KK.out.below))).mono ?_; rintro r W8 ⟨rfl,hb⟩; have KK := Lib.hid (KK.out.call hb); have hg := four_all KK.out.at0; obtain ⟨⟨g0,g1,g2,g3⟩,-⟩ := hg; clear hb)
          | (go_at_call 5; refine (HAW.out _ KK.out.below).mono ?_; rintro r W9 ⟨rfl,hb⟩; have KK := Lib.hid (KK.out.call hb); have hg := four_all KK.out.at0; obtain ⟨⟨g0,g1,g2,g3⟩,-⟩ := hg; clear hb)))
      all_goals
        have hbx := KK.out.below
        go_wp2
        go_ret
        exact ⟨rfl,hbx⟩
end Go.Proofs.YtfjpdphphieaoaaGreatDoor
