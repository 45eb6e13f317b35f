/- The walks of the document's Reserved, Name, Arity, plain. Condition: the text is no longer than any may be. -/
import Derived.Test.YtpfhhikbaeknpaaGreatDoorRL
import Derived.Test.YtpfhhikbaeknpaaGreatDoorRD
set_option linter.unusedSectionVars false
set_option linter.unusedSimpArgs false
set_option linter.unusedVariables false
namespace Go.Proofs.YtpfhhikbaeknpaaGreatDoor
open Go.RowKit Pal
def words8 : List Bs := [wTrue,wFalse,wIf,wLen,wCat,wCut,wHas,wUp]
set_option maxRecDepth 1000000 in
set_option maxHeartbeats 4000000 in
theorem refReserved_any (s : Bs) (w : World) : Calls Tryz.prog 38 #[.string ⟨s.toArray⟩] w fun e w' => e = .returned (.bool (word s)) ∧ Below w.heap.size w w' := by
  obtain ⟨R,hR⟩ : ∃ R,word s = R := ⟨_,rfl⟩
  rw [hR]
  have HR := Lib.hid hR
  have hl := StrsV.lay (w := w.alloc (.cells (words8.map strV).toArray 9)) (b := w.heap.size) words8 9 (heap_alloc_new w _) (by simp [maxLen,words8])
  have hb : Below w.heap.size w (w.alloc (.cells (words8.map strV).toArray 9)) := (Below.refl _ _).alloc (Nat.le_refl _) _
  simp only [words8,List.map_cons,List.map_nil,strV,wTrue,wFalse,wIf,wLen,wCat,wCut,wHas,wUp,List.length_cons,List.length_nil,Nat.zero_add,Nat.reduceAdd] at hl hb
  have HL := Lib.hid hl
  have HB := Lib.hid hb
  clear hR hl hb
  go_enter Tryz.func38,Tryz.ntmps38
  go_wp2
  have HL2 : Hid (StrsV (gh _) _ words8) := HL
  generalize (w.alloc _) = W at *
  go_loopg [4] 8 (fun g i wr => ∃ j : Nat,i = .int .i64 j ∧ wr = W ∧ j + g = 8 ∧ Hid (∀ i,i < j → words8[i]? ≠ some s))
  case atStart => exact ⟨0,rfl,rfl,by omega,Lib.hid (fun i hi => by omega)⟩
  case round =>
    obtain ⟨j,rfl,rfl,hg,HN⟩ := hrel
    by_cases hj : j < 8
    · have hj8 : j < words8.length := by simpa [words8] using hj
      obtain ⟨b,off,he,c0⟩ := HL2.out.at (List.getElem?_eq_getElem hj8)
      simp only [Option.some.injEq,Addr.mk.injEq,and_true] at he
      obtain ⟨rfl,rfl⟩ := he
      have hgg := List.getElem?_eq_getElem hj8
      have HG := Lib.hid hgg
      unfold strV at c0
      generalize words8[j] = x at *
      rw [Nat.zero_add] at c0
      clear hgg
      by_cases hx : x = s
      · have q : (x == s) = true := by simp [hx]
        have HE : Hid (R = true) := Lib.hid (by
          rw [← HR.out]
          unfold word
          rw [List.contains_iff_mem]
          exact List.mem_of_getElem? (by rw [← hx]; exact HG.out))
        clear hx
        go_wp2
        try rw [Exit.noGoto_ret]
        go_ret
        exact ⟨by rw [HE.out]; rfl,HB.out⟩
      · have q : (x == s) = false := beq_no hx
        have HN2 : Hid (∀ i,i < j + 1 → words8[i]? ≠ some s) := Lib.hid (fun i hi h => by
          by_cases h2 : i < j
          · exact HN.out i h2 h
          · obtain rfl : i = j := by omega
            rw [HG.out] at h
            exact hx (Option.some.inj h))
        clear hx
        go_wp2
        go_roundg (gk - 1)
        case rel => exact ⟨j + 1,by go_num,rfl,by omega,HN2⟩
        case measure => omega
    · have HE : Hid (R = false) := Lib.hid (by
        rw [← HR.out]
        cases h : word s with
        | false => rfl
        | true =>
          unfold word at h
          rw [List.contains_iff_mem] at h
          obtain ⟨i,hi,e⟩ := List.getElem_of_mem h
          exact absurd (by rw [← e]; exact List.getElem?_eq_getElem hi) (HN.out i (by simp at hi; omega)))
      go_wp2
      try rw [Exit.noGoto_ret]
      go_ret
      exact ⟨by rw [HE.out]; rfl,HB.out⟩
def nameOf (ts : List Tok) (s : Bs) : Bool := match ts with | [t,_] => decide (t.k = 3 ∧ t.s = s) && !word s | _ => false
theorem isName_ok {s : Bs} {ts : List Tok} (hl : ¬ 400 < s.length) (h : lexAll s = .ok ts) : isName s = nameOf ts s := by
  unfold isName nameOf
  rw [h,decide_eq_true (by omega),Bool.true_and]
  rcases ts with _ | ⟨t,_ | ⟨u,_ | ⟨v,r⟩⟩⟩ <;> rfl
theorem isName_err {s : Bs} {p : Nat} (h : lexAll s = .error p) : isName s = false := by
  unfold isName
  rw [h]
  simp
set_option maxRecDepth 1000000 in
set_option maxHeartbeats 4000000 in
theorem refName_any (s : Bs) (w : World) (hm : s.length ≤ 9223372036854775807) : Calls Tryz.prog 23 #[.string ⟨s.toArray⟩] w fun e w' => e = .returned (.bool (isName s)) ∧ Below w.heap.size w w' := by
  by_cases hl : 400 < s.length
  · have HX := Lib.hid (refLex_long s w hl hm)
    have HE : Hid (isName s = false) := Lib.hid (by unfold isName; rw [decide_eq_false (by omega)]; rfl)
    clear hl
    go_enter Tryz.func23,Tryz.ntmps23
    go_wp2_with fail
    refine HX.out.mono ?_
    rintro e W ⟨rfl,rfl⟩
    go_wp2
    go_ret
    exact ⟨by rw [HE.out]; rfl,Below.refl _ _⟩
  · have hx := refLex_any s w (by omega)
    unfold refLexPost at hx
    cases hlx : lexAll s with
    | error p =>
      rw [hlx] at hx
      have HX := Lib.hid hx
      have HE : Hid (isName s = false) := Lib.hid (isName_err hlx)
      clear hx hlx
      go_enter Tryz.func23,Tryz.ntmps23
      go_wp2_with fail
      refine HX.out.mono ?_
      rintro e W ⟨hb,rfl⟩
      go_wp2
      go_ret
      exact ⟨by rw [HE.out]; rfl,hb⟩
    | ok ts =>
      rw [hlx] at hx
      have HX := Lib.hid hx
      have HI := Lib.hid (isName_ok hl hlx)
      clear hx hlx
      go_enter Tryz.func23,Tryz.ntmps23
      go_wp2_with fail
      refine HX.out.mono ?_
      rintro e W ⟨hb,v,rfl,hv⟩
      obtain ⟨a,cap,rfl⟩ := hv.form
      by_cases h2 : ts.length = 2
      · match ts,h2 with
        | [t,t2],_ =>
          have hv' : TokV (gh W) (.slice a 2 cap) [t,t2] := hv
          obtain ⟨b,off,rfl,c0,c1,-,-⟩ := hv'.at (j := 0) (x := t) rfl
          simp only [Nat.zero_mul,Nat.add_zero] at c0 c1
          unfold strV at c1
          have HI2 : Hid (isName s = (decide (t.k = 3 ∧ t.s = s) && !word s)) := HI
          simp only [List.length_cons,List.length_nil,Nat.zero_add]
          clear hv hv' HI HX
          by_cases hk : t.k = 3
          · have q1 : (t.k == 3) = true := by simp [hk]
            by_cases hs : t.s = s
            · have q2 : (t.s == s) = true := by simp [hs]
              have HE : Hid (isName s = !word s) := Lib.hid (by rw [HI2.out,decide_eq_true ⟨hk,hs⟩,Bool.true_and])
              have HRS := Lib.hid (refReserved_any s W)
              clear hk hs HI2
              go_wp2_with fail
              refine HRS.out.mono ?_
              rintro e W2 ⟨rfl,hb2⟩
              have hb3 := hb.seq hb2
              generalize word s = wd' at *
              go_wp2
              go_ret
              exact ⟨by rw [HE.out]; rfl,hb3⟩
            · have q2 : (t.s == s) = false := beq_no hs
              have HE : Hid (isName s = false) := Lib.hid (by rw [HI2.out,decide_eq_false (fun h => hs h.2),Bool.false_and])
              clear hk hs HI2
              go_wp2
              go_ret
              exact ⟨by rw [HE.out]; rfl,hb⟩
          · have q1 : (t.k == 3) = false := beq_eq_false_iff_ne.2 hk
            have HE : Hid (isName s = false) := Lib.hid (by rw [HI2.out,decide_eq_false (fun h => hk h.1),Bool.false_and])
            clear hk HI2
            go_wp2
            go_ret
            exact ⟨by rw [HE.out]; rfl,hb⟩
      · have q0 : ((ts.length : Int) == 2) = false := beq_eq_false_iff_ne.2 (by omega)
        have HE : Hid (isName s = false) := Lib.hid (by
          rw [HI.out]
          match ts,h2 with
          | [],_ => rfl
          | [_],_ => rfl
          | [_,_],h => exact absurd rfl h
          | _ :: _ :: _ :: _,_ => rfl)
        clear hv h2 HI HX
        go_wp2
        go_ret
        exact ⟨by rw [HE.out]; rfl,hb⟩
end Go.Proofs.YtpfhhikbaeknpaaGreatDoor
