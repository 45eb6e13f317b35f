/- The walk of palaverlaw11.awake: the document's example. Conditions: the library's tables are laid. -/
import Derived.Test.YtpfhhikbaeknpaaGreatDoorSK
set_option linter.unusedSectionVars false
set_option linter.unusedSimpArgs false
set_option linter.unusedVariables false
namespace Go.Proofs.YtpfhhikbaeknpaaGreatDoor
open Go.RowKit Pal
attribute [local go_sem ↓] Go.wp_at_zero Go.wp_at_succ
/-- Fields that have just been laid. -/
theorem FdsV.lay {w : World} {b : Nat} (l : List Fd) (T : TypeId) (h : w.heap[b]? = some (.cells (l.flatMap inCells).toArray T (0,0))) (hm : l.length ≤ maxLen) : FdsV (gh w) (.slice (some ⟨b,0,none⟩) l.length l.length) l := by
  refine ⟨_,_,rfl,(fun h => by cases h),Nat.le_refl _,hm,fun j c x hj hc => ⟨b,0,rfl,?_⟩⟩
  rw [gh_cell]
  have hc' : (inCells l[j])[c]? = some x := by have : (inCells (l.getD j noFd))[c]? = some x := hc; rwa [getD_in hj] at this
  have hcl : c < 5 := (List.getElem?_eq_some_iff.1 hc').1
  have hg := flat_get inCells 5 inCells_len l j c l[j] (List.getElem?_eq_getElem hj) hcl
  rw [cell_of_row w b _ _ T (0,0) h,Nat.zero_add]
  simpa [hg] using hc'
theorem new_ok {l : List Fd} {F : Form} (v : Value) (w : World) (hl : l.length ≤ 1000000) (hS : ∀ f ∈ l,Short f) (hL : Lay (gh w)) (hF : FdsV (gh w) v l) (hm : newM l = .ok F) :
    Calls Tryz.prog 11 #[v] w fun e W => Below w.heap.size w W ∧ ∃ b,e = .returned (.tuple #[.pointer (some ⟨b,0,none⟩),.int .i64 0,.int .i64 0]) ∧ SchV (gh W) b F := by
  have h := new_any l v w hl hS hL hF
  unfold newPost at h
  rw [hm] at h
  exact h
theorem new_bad {l : List Fd} {i : Nat} {k : Int} (v : Value) (w : World) (hl : l.length ≤ 1000000) (hS : ∀ f ∈ l,Short f) (hL : Lay (gh w)) (hF : FdsV (gh w) v l) (hm : newM l = .error (i,k)) :
    Calls Tryz.prog 11 #[v] w fun e W => Below w.heap.size w W ∧ e = .returned (.tuple #[.pointer none,.int .i64 i,.int .i64 k]) := by
  have h := new_any l v w hl hS hL hF
  unfold newPost at h
  rw [hm] at h
  exact h
def awL : List Fd := [⟨[97],1,[],[],[]⟩,⟨[98],1,[97,43,49],[],[]⟩,⟨[99],1,[98,42,98],[],[]⟩]
theorem aw_eval : (match newM awL with | .ok F => (F.order,F.needs) | .error _ => ([],[])) = ([1,2],[[],[0],[1]]) := by kernel_rfl
theorem aw_new : ∃ F,newM awL = .ok F ∧ F.order = [1,2] ∧ F.needs = [[],[0],[1]] ∧ F.l = awL := by
  have h := aw_eval
  cases hm : newM awL with
  | error e => rw [hm] at h; cases h
  | ok F =>
    rw [hm] at h
    simp only [Prod.mk.injEq] at h
    exact ⟨F,rfl,h.1,h.2,(newM_ok hm).2.2.2.1⟩
theorem aw_short : ∀ f ∈ awL,Short f := by
  intro f hf
  simp only [awL,List.mem_cons,List.not_mem_nil,or_false] at hf
  rcases hf with rfl | rfl | rfl <;> exact ⟨by decide,by decide,by decide,by decide,by decide⟩
set_option maxRecDepth 100000 in
set_option maxHeartbeats 2000000 in
theorem awake11 (w : World) (hL : Lay (gh w)) : Calls Tryz.prog 13 #[] w (yesPost w) := by
  obtain ⟨F,hm,ho,hnd,hFl⟩ := aw_new
  have hb0 : Below w.heap.size w (w.alloc (.cells (awL.flatMap inCells).toArray 27)) := (Below.refl _ _).alloc (Nat.le_refl _) _
  have HNEW := Lib.hid (new_ok (.slice (some ⟨w.heap.size,0,none⟩) 3 3) (w.alloc (.cells (awL.flatMap inCells).toArray 27)) (by decide) aw_short (hL.below hb0) (FdsV.lay awL _ (heap_alloc_new w _) (by decide)) hm)
  have HB0 := Lib.hid hb0
  have HO := Lib.hid ho
  have HND := Lib.hid hnd
  have HFL := Lib.hid hFl
  clear hm ho hnd hFl hb0
  unfold yesPost
  go_enter Tryz.func13,Tryz.ntmps13
  go_wp2_with fail
  refine HNEW.out.mono ?_
  rintro r W1 ⟨hb1,b,rfl,hs⟩
  have HB1 := Lib.hid (HB0.out.seq hb1)
  have HS1 := Lib.hid hs
  have HOR := Lib.hid (order_of W1 hs)
  rw [HO.out] at HOR
  unfold intsPost at HOR
  clear hb1 hs HNEW
  go_wp2_with fail
  refine HOR.out.mono ?_
  rintro r W2 ⟨hb2,v2,rfl,hv2⟩
  obtain ⟨a2,c2,rfl,-⟩ := intsV_form hv2
  have hb3 := hb2.alloc hb2.size (.cells #[.int .i64 1,.int .i64 2] 3)
  have HSI := Lib.hid (same_ints (gh (W2.alloc (.cells #[.int .i64 1,.int .i64 2] 3))) _ _ [1,2] [1,2] _ (GH.le.refl _) (hv2.mono (below_gh ((Below.refl W2.heap.size W2).alloc (Nat.le_refl _) _))) (intsV_lay [1,2] 3 (heap_alloc_new W2 _) (by decide)))
  have HB3 := Lib.hid hb3
  clear hb2 hb3 hv2 HOR
  go_wp2_with fail
  refine HSI.out.mono ?_
  rintro r W3 ⟨rfl,n3,rfl⟩
  have HB4 := Lib.hid (Pal.below_drewN HB3.out n3)
  have HS4 := Lib.hid (HS1.out.mono (below_gh HB4.out))
  have hne := needs_in 2 [1] _ HS4.out (by rw [HFL.out]; decide) (by rw [HFL.out]; decide) (by rw [HND.out]; rfl)
  rw [show (((2 : Nat)) : Int) = 2 from rfl] at hne
  have HNE := Lib.hid hne
  unfold intsPost at HNE
  clear HSI hne
  generalize (W2.alloc (.cells #[.int .i64 1,.int .i64 2] 3)).drewN n3 = W4 at *
  go_wp2_with fail
  refine HNE.out.mono ?_
  rintro r W5 ⟨hb5,v5,rfl,hv5⟩
  obtain ⟨a5,c5,rfl,-⟩ := intsV_form hv5
  have hb6 := hb5.alloc hb5.size (.cells #[.int .i64 1] 3)
  have HSI2 := Lib.hid (same_ints (gh (W5.alloc (.cells #[.int .i64 1] 3))) _ _ [1] [1] _ (GH.le.refl _) (hv5.mono (below_gh ((Below.refl W5.heap.size W5).alloc (Nat.le_refl _) _))) (intsV_lay [1] 3 (heap_alloc_new W5 _) (by decide)))
  have HB6 := Lib.hid (HB4.out.seq hb6)
  clear hb5 hb6 hv5 HNE
  go_wp2_with fail
  refine HSI2.out.mono ?_
  rintro r W6 ⟨rfl,n6,rfl⟩
  have HB7 := Lib.hid (Pal.below_drewN HB6.out n6)
  have hle := len_any _ (HS1.out.mono (below_gh HB7.out))
  rw [HFL.out] at hle
  have HLE := Lib.hid hle
  have HB8 := Lib.hid (HB1.out.seq HB7.out)
  clear HSI2 hle
  generalize (W5.alloc (.cells #[.int .i64 1] 3)).drewN n6 = W7 at *
  go_wp2_with fail
  refine HLE.out.mono ?_
  rintro r W8 ⟨rfl,rfl⟩
  go_wp2
  go_ret
  exact ⟨rfl,HB8.out⟩
end Go.Proofs.YtpfhhikbaeknpaaGreatDoor
