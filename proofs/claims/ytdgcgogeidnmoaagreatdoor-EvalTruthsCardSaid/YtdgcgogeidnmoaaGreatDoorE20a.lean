/- The walk of palaverlaw09.EvalTruths, at some of the nine pairs. Conditions: the tables hold what they are laid with. -/
import Derived.Test.YtdgcgogeidnmoaaGreatDoorE18
set_option linter.unusedSimpArgs false
set_option linter.unusedVariables false
set_option linter.unusedSectionVars false
namespace Go.Proofs.YtdgcgogeidnmoaaGreatDoor
open Go.RowKit Pal
set_option maxRecDepth 1000000 in
set_option maxHeartbeats 16000000 in
theorem truths_00 (p q u v : Int) (w : World) (hL : Lay (gh w)) (p1 : p.tmod 3 = u) (p2 : -3 < u) (p3 : u < 3) (p4 : (u + 3).tmod 3 = 0) (q1 : q.tmod 3 = v) (q2 : -3 < v) (q3 : v < 3) (q4 : (v + 3).tmod 3 = 0) :
    Calls Tryz.prog 17 #[.int .i64 p, .int .i64 q] w (yesPost w) := by
  have e0a : (w.alloc (.cells #[.int .i64 2, .int .i64 0, .string ⟨#[]⟩, .int .i64 2, .int .i64 1, .string ⟨#[]⟩, .int .i64 0, .int .i64 0, .string ⟨#[]⟩] 47)).heap[w.heap.size + 0]? = some (.cells #[.int .i64 2, .int .i64 0, .string ⟨#[]⟩, .int .i64 2, .int .i64 1, .string ⟨#[]⟩, .int .i64 0, .int .i64 0, .string ⟨#[]⟩] 47 (0, 0)) := (by have := heap_alloc_new w (.cells #[.int .i64 2, .int .i64 0, .string ⟨#[]⟩, .int .i64 2, .int .i64 1, .string ⟨#[]⟩, .int .i64 0, .int .i64 0, .string ⟨#[]⟩] 47); simpa using this)
  have e0b := (Lib.alloc_old (w.alloc (.cells #[.int .i64 2, .int .i64 0, .string ⟨#[]⟩, .int .i64 2, .int .i64 1, .string ⟨#[]⟩, .int .i64 0, .int .i64 0, .string ⟨#[]⟩] 47)) (.cells #[.int .i64 2, .int .i64 0, .string ⟨#[]⟩] 47) (w.heap.size + 0) (by simp <;> omega)).trans e0a
  have e0c := (Lib.alloc_old ((w.alloc (.cells #[.int .i64 2, .int .i64 0, .string ⟨#[]⟩, .int .i64 2, .int .i64 1, .string ⟨#[]⟩, .int .i64 0, .int .i64 0, .string ⟨#[]⟩] 47)).alloc (.cells #[.int .i64 2, .int .i64 0, .string ⟨#[]⟩] 47)) (.cells #[.int .i64 2, .int .i64 0, .string ⟨#[]⟩] 47) (w.heap.size + 0) (by simp <;> omega)).trans e0b
  have e0d := (Lib.alloc_old (((w.alloc (.cells #[.int .i64 2, .int .i64 0, .string ⟨#[]⟩, .int .i64 2, .int .i64 1, .string ⟨#[]⟩, .int .i64 0, .int .i64 0, .string ⟨#[]⟩] 47)).alloc (.cells #[.int .i64 2, .int .i64 0, .string ⟨#[]⟩] 47)).alloc (.cells #[.int .i64 2, .int .i64 0, .string ⟨#[]⟩] 47)) (.cells #[.string ⟨#[112]⟩, .string ⟨#[113]⟩] 9) (w.heap.size + 0) (by simp <;> omega)).trans e0c
  have e0e := (Lib.alloc_old ((((w.alloc (.cells #[.int .i64 2, .int .i64 0, .string ⟨#[]⟩, .int .i64 2, .int .i64 1, .string ⟨#[]⟩, .int .i64 0, .int .i64 0, .string ⟨#[]⟩] 47)).alloc (.cells #[.int .i64 2, .int .i64 0, .string ⟨#[]⟩] 47)).alloc (.cells #[.int .i64 2, .int .i64 0, .string ⟨#[]⟩] 47)).alloc (.cells #[.string ⟨#[112]⟩, .string ⟨#[113]⟩] 9)) (.cells #[.slice (some ⟨w.heap.size + 3, 0, none⟩) 2 2] 25) (w.heap.size + 0) (by simp <;> omega)).trans e0d
  have e0f := (Lib.alloc_old (((((w.alloc (.cells #[.int .i64 2, .int .i64 0, .string ⟨#[]⟩, .int .i64 2, .int .i64 1, .string ⟨#[]⟩, .int .i64 0, .int .i64 0, .string ⟨#[]⟩] 47)).alloc (.cells #[.int .i64 2, .int .i64 0, .string ⟨#[]⟩] 47)).alloc (.cells #[.int .i64 2, .int .i64 0, .string ⟨#[]⟩] 47)).alloc (.cells #[.string ⟨#[112]⟩, .string ⟨#[113]⟩] 9)).alloc (.cells #[.slice (some ⟨w.heap.size + 3, 0, none⟩) 2 2] 25)) (.cells #[.int .i64 4, .int .i64 3, .string ⟨#[]⟩] 47) (w.heap.size + 0) (by simp <;> omega)).trans e0e
  have E0 := e0f
  have e1a : ((w.alloc (.cells #[.int .i64 2, .int .i64 0, .string ⟨#[]⟩, .int .i64 2, .int .i64 1, .string ⟨#[]⟩, .int .i64 0, .int .i64 0, .string ⟨#[]⟩] 47)).alloc (.cells #[.int .i64 2, .int .i64 0, .string ⟨#[]⟩] 47)).heap[w.heap.size + 1]? = some (.cells #[.int .i64 2, .int .i64 0, .string ⟨#[]⟩] 47 (0, 0)) := (by have := heap_alloc_new (w.alloc (.cells #[.int .i64 2, .int .i64 0, .string ⟨#[]⟩, .int .i64 2, .int .i64 1, .string ⟨#[]⟩, .int .i64 0, .int .i64 0, .string ⟨#[]⟩] 47)) (.cells #[.int .i64 2, .int .i64 0, .string ⟨#[]⟩] 47); simpa using this)
  have e1b := (Lib.alloc_old ((w.alloc (.cells #[.int .i64 2, .int .i64 0, .string ⟨#[]⟩, .int .i64 2, .int .i64 1, .string ⟨#[]⟩, .int .i64 0, .int .i64 0, .string ⟨#[]⟩] 47)).alloc (.cells #[.int .i64 2, .int .i64 0, .string ⟨#[]⟩] 47)) (.cells #[.int .i64 2, .int .i64 0, .string ⟨#[]⟩] 47) (w.heap.size + 1) (by simp <;> omega)).trans e1a
  have e1c := (Lib.alloc_old (((w.alloc (.cells #[.int .i64 2, .int .i64 0, .string ⟨#[]⟩, .int .i64 2, .int .i64 1, .string ⟨#[]⟩, .int .i64 0, .int .i64 0, .string ⟨#[]⟩] 47)).alloc (.cells #[.int .i64 2, .int .i64 0, .string ⟨#[]⟩] 47)).alloc (.cells #[.int .i64 2, .int .i64 0, .string ⟨#[]⟩] 47)) (.cells #[.string ⟨#[112]⟩, .string ⟨#[113]⟩] 9) (w.heap.size + 1) (by simp <;> omega)).trans e1b
  have e1d := (Lib.alloc_old ((((w.alloc (.cells #[.int .i64 2, .int .i64 0, .string ⟨#[]⟩, .int .i64 2, .int .i64 1, .string ⟨#[]⟩, .int .i64 0, .int .i64 0, .string ⟨#[]⟩] 47)).alloc (.cells #[.int .i64 2, .int .i64 0, .string ⟨#[]⟩] 47)).alloc (.cells #[.int .i64 2, .int .i64 0, .string ⟨#[]⟩] 47)).alloc (.cells #[.string ⟨#[112]⟩, .string ⟨#[113]⟩] 9)) (.cells #[.slice (some ⟨w.heap.size + 3, 0, none⟩) 2 2] 25) (w.heap.size + 1) (by simp <;> omega)).trans e1c
  have e1e := (Lib.alloc_old (((((w.alloc (.cells #[.int .i64 2, .int .i64 0, .string ⟨#[]⟩, .int .i64 2, .int .i64 1, .string ⟨#[]⟩, .int .i64 0, .int .i64 0, .string ⟨#[]⟩] 47)).alloc (.cells #[.int .i64 2, .int .i64 0, .string ⟨#[]⟩] 47)).alloc (.cells #[.int .i64 2, .int .i64 0, .string ⟨#[]⟩] 47)).alloc (.cells #[.string ⟨#[112]⟩, .string ⟨#[113]⟩] 9)).alloc (.cells #[.slice (some ⟨w.heap.size + 3, 0, none⟩) 2 2] 25)) (.cells #[.int .i64 4, .int .i64 3, .string ⟨#[]⟩] 47) (w.heap.size + 1) (by simp <;> omega)).trans e1d
  have E1 := e1e
  have e2a : (((w.alloc (.cells #[.int .i64 2, .int .i64 0, .string ⟨#[]⟩, .int .i64 2, .int .i64 1, .string ⟨#[]⟩, .int .i64 0, .int .i64 0, .string ⟨#[]⟩] 47)).alloc (.cells #[.int .i64 2, .int .i64 0, .string ⟨#[]⟩] 47)).alloc (.cells #[.int .i64 2, .int .i64 0, .string ⟨#[]⟩] 47)).heap[w.heap.size + 2]? = some (.cells #[.int .i64 2, .int .i64 0, .string ⟨#[]⟩] 47 (0, 0)) := (by have := heap_alloc_new ((w.alloc (.cells #[.int .i64 2, .int .i64 0, .string ⟨#[]⟩, .int .i64 2, .int .i64 1, .string ⟨#[]⟩, .int .i64 0, .int .i64 0, .string ⟨#[]⟩] 47)).alloc (.cells #[.int .i64 2, .int .i64 0, .string ⟨#[]⟩] 47)) (.cells #[.int .i64 2, .int .i64 0, .string ⟨#[]⟩] 47); simpa using this)
  have e2b := (Lib.alloc_old (((w.alloc (.cells #[.int .i64 2, .int .i64 0, .string ⟨#[]⟩, .int .i64 2, .int .i64 1, .string ⟨#[]⟩, .int .i64 0, .int .i64 0, .string ⟨#[]⟩] 47)).alloc (.cells #[.int .i64 2, .int .i64 0, .string ⟨#[]⟩] 47)).alloc (.cells #[.int .i64 2, .int .i64 0, .string ⟨#[]⟩] 47)) (.cells #[.string ⟨#[112]⟩, .string ⟨#[113]⟩] 9) (w.heap.size + 2) (by simp <;> omega)).trans e2a
  have e2c := (Lib.alloc_old ((((w.alloc (.cells #[.int .i64 2, .int .i64 0, .string ⟨#[]⟩, .int .i64 2, .int .i64 1, .string ⟨#[]⟩, .int .i64 0, .int .i64 0, .string ⟨#[]⟩] 47)).alloc (.cells #[.int .i64 2, .int .i64 0, .string ⟨#[]⟩] 47)).alloc (.cells #[.int .i64 2, .int .i64 0, .string ⟨#[]⟩] 47)).alloc (.cells #[.string ⟨#[112]⟩, .string ⟨#[113]⟩] 9)) (.cells #[.slice (some ⟨w.heap.size + 3, 0, none⟩) 2 2] 25) (w.heap.size + 2) (by simp <;> omega)).trans e2b
  have e2d := (Lib.alloc_old (((((w.alloc (.cells #[.int .i64 2, .int .i64 0, .string ⟨#[]⟩, .int .i64 2, .int .i64 1, .string ⟨#[]⟩, .int .i64 0, .int .i64 0, .string ⟨#[]⟩] 47)).alloc (.cells #[.int .i64 2, .int .i64 0, .string ⟨#[]⟩] 47)).alloc (.cells #[.int .i64 2, .int .i64 0, .string ⟨#[]⟩] 47)).alloc (.cells #[.string ⟨#[112]⟩, .string ⟨#[113]⟩] 9)).alloc (.cells #[.slice (some ⟨w.heap.size + 3, 0, none⟩) 2 2] 25)) (.cells #[.int .i64 4, .int .i64 3, .string ⟨#[]⟩] 47) (w.heap.size + 2) (by simp <;> omega)).trans e2c
  have E2 := e2d
  have e3a : ((((w.alloc (.cells #[.int .i64 2, .int .i64 0, .string ⟨#[]⟩, .int .i64 2, .int .i64 1, .string ⟨#[]⟩, .int .i64 0, .int .i64 0, .string ⟨#[]⟩] 47)).alloc (.cells #[.int .i64 2, .int .i64 0, .string ⟨#[]⟩] 47)).alloc (.cells #[.int .i64 2, .int .i64 0, .string ⟨#[]⟩] 47)).alloc (.cells #[.string ⟨#[112]⟩, .string ⟨#[113]⟩] 9)).heap[w.heap.size + 3]? = some (.cells #[.string ⟨#[112]⟩, .string ⟨#[113]⟩] 9 (0, 0)) := (by have := heap_alloc_new (((w.alloc (.cells #[.int .i64 2, .int .i64 0, .string ⟨#[]⟩, .int .i64 2, .int .i64 1, .string ⟨#[]⟩, .int .i64 0, .int .i64 0, .string ⟨#[]⟩] 47)).alloc (.cells #[.int .i64 2, .int .i64 0, .string ⟨#[]⟩] 47)).alloc (.cells #[.int .i64 2, .int .i64 0, .string ⟨#[]⟩] 47)) (.cells #[.string ⟨#[112]⟩, .string ⟨#[113]⟩] 9); simpa using this)
  have e3b := (Lib.alloc_old ((((w.alloc (.cells #[.int .i64 2, .int .i64 0, .string ⟨#[]⟩, .int .i64 2, .int .i64 1, .string ⟨#[]⟩, .int .i64 0, .int .i64 0, .string ⟨#[]⟩] 47)).alloc (.cells #[.int .i64 2, .int .i64 0, .string ⟨#[]⟩] 47)).alloc (.cells #[.int .i64 2, .int .i64 0, .string ⟨#[]⟩] 47)).alloc (.cells #[.string ⟨#[112]⟩, .string ⟨#[113]⟩] 9)) (.cells #[.slice (some ⟨w.heap.size + 3, 0, none⟩) 2 2] 25) (w.heap.size + 3) (by simp <;> omega)).trans e3a
  have e3c := (Lib.alloc_old (((((w.alloc (.cells #[.int .i64 2, .int .i64 0, .string ⟨#[]⟩, .int .i64 2, .int .i64 1, .string ⟨#[]⟩, .int .i64 0, .int .i64 0, .string ⟨#[]⟩] 47)).alloc (.cells #[.int .i64 2, .int .i64 0, .string ⟨#[]⟩] 47)).alloc (.cells #[.int .i64 2, .int .i64 0, .string ⟨#[]⟩] 47)).alloc (.cells #[.string ⟨#[112]⟩, .string ⟨#[113]⟩] 9)).alloc (.cells #[.slice (some ⟨w.heap.size + 3, 0, none⟩) 2 2] 25)) (.cells #[.int .i64 4, .int .i64 3, .string ⟨#[]⟩] 47) (w.heap.size + 3) (by simp <;> omega)).trans e3b
  have E3 := e3c
  have e4a : (((((w.alloc (.cells #[.int .i64 2, .int .i64 0, .string ⟨#[]⟩, .int .i64 2, .int .i64 1, .string ⟨#[]⟩, .int .i64 0, .int .i64 0, .string ⟨#[]⟩] 47)).alloc (.cells #[.int .i64 2, .int .i64 0, .string ⟨#[]⟩] 47)).alloc (.cells #[.int .i64 2, .int .i64 0, .string ⟨#[]⟩] 47)).alloc (.cells #[.string ⟨#[112]⟩, .string ⟨#[113]⟩] 9)).alloc (.cells #[.slice (some ⟨w.heap.size + 3, 0, none⟩) 2 2] 25)).heap[w.heap.size + 4]? = some (.cells #[.slice (some ⟨w.heap.size + 3, 0, none⟩) 2 2] 25 (0, 0)) := (by have := heap_alloc_new ((((w.alloc (.cells #[.int .i64 2, .int .i64 0, .string ⟨#[]⟩, .int .i64 2, .int .i64 1, .string ⟨#[]⟩, .int .i64 0, .int .i64 0, .string ⟨#[]⟩] 47)).alloc (.cells #[.int .i64 2, .int .i64 0, .string ⟨#[]⟩] 47)).alloc (.cells #[.int .i64 2, .int .i64 0, .string ⟨#[]⟩] 47)).alloc (.cells #[.string ⟨#[112]⟩, .string ⟨#[113]⟩] 9)) (.cells #[.slice (some ⟨w.heap.size + 3, 0, none⟩) 2 2] 25); simpa using this)
  have e4b := (Lib.alloc_old (((((w.alloc (.cells #[.int .i64 2, .int .i64 0, .string ⟨#[]⟩, .int .i64 2, .int .i64 1, .string ⟨#[]⟩, .int .i64 0, .int .i64 0, .string ⟨#[]⟩] 47)).alloc (.cells #[.int .i64 2, .int .i64 0, .string ⟨#[]⟩] 47)).alloc (.cells #[.int .i64 2, .int .i64 0, .string ⟨#[]⟩] 47)).alloc (.cells #[.string ⟨#[112]⟩, .string ⟨#[113]⟩] 9)).alloc (.cells #[.slice (some ⟨w.heap.size + 3, 0, none⟩) 2 2] 25)) (.cells #[.int .i64 4, .int .i64 3, .string ⟨#[]⟩] 47) (w.heap.size + 4) (by simp <;> omega)).trans e4a
  have E4 := e4b
  have e5a : ((((((w.alloc (.cells #[.int .i64 2, .int .i64 0, .string ⟨#[]⟩, .int .i64 2, .int .i64 1, .string ⟨#[]⟩, .int .i64 0, .int .i64 0, .string ⟨#[]⟩] 47)).alloc (.cells #[.int .i64 2, .int .i64 0, .string ⟨#[]⟩] 47)).alloc (.cells #[.int .i64 2, .int .i64 0, .string ⟨#[]⟩] 47)).alloc (.cells #[.string ⟨#[112]⟩, .string ⟨#[113]⟩] 9)).alloc (.cells #[.slice (some ⟨w.heap.size + 3, 0, none⟩) 2 2] 25)).alloc (.cells #[.int .i64 4, .int .i64 3, .string ⟨#[]⟩] 47)).heap[w.heap.size + 5]? = some (.cells #[.int .i64 4, .int .i64 3, .string ⟨#[]⟩] 47 (0, 0)) := (by have := heap_alloc_new (((((w.alloc (.cells #[.int .i64 2, .int .i64 0, .string ⟨#[]⟩, .int .i64 2, .int .i64 1, .string ⟨#[]⟩, .int .i64 0, .int .i64 0, .string ⟨#[]⟩] 47)).alloc (.cells #[.int .i64 2, .int .i64 0, .string ⟨#[]⟩] 47)).alloc (.cells #[.int .i64 2, .int .i64 0, .string ⟨#[]⟩] 47)).alloc (.cells #[.string ⟨#[112]⟩, .string ⟨#[113]⟩] 9)).alloc (.cells #[.slice (some ⟨w.heap.size + 3, 0, none⟩) 2 2] 25)) (.cells #[.int .i64 4, .int .i64 3, .string ⟨#[]⟩] 47); simpa using this)
  have E5 := e5a
  have hb0 : Below w.heap.size w ((((((w.alloc (.cells #[.int .i64 2, .int .i64 0, .string ⟨#[]⟩, .int .i64 2, .int .i64 1, .string ⟨#[]⟩, .int .i64 0, .int .i64 0, .string ⟨#[]⟩] 47)).alloc (.cells #[.int .i64 2, .int .i64 0, .string ⟨#[]⟩] 47)).alloc (.cells #[.int .i64 2, .int .i64 0, .string ⟨#[]⟩] 47)).alloc (.cells #[.string ⟨#[112]⟩, .string ⟨#[113]⟩] 9)).alloc (.cells #[.slice (some ⟨w.heap.size + 3, 0, none⟩) 2 2] 25)).alloc (.cells #[.int .i64 4, .int .i64 3, .string ⟨#[]⟩] 47)) := (((((Below.refl w.heap.size w).alloc (Nat.le_refl _) (.cells #[.int .i64 2, .int .i64 0, .string ⟨#[]⟩, .int .i64 2, .int .i64 1, .string ⟨#[]⟩, .int .i64 0, .int .i64 0, .string ⟨#[]⟩] 47)).alloc (by simp) (.cells #[.int .i64 2, .int .i64 0, .string ⟨#[]⟩] 47)).alloc (by simp <;> omega) (.cells #[.int .i64 2, .int .i64 0, .string ⟨#[]⟩] 47)).alloc (by simp <;> omega) (.cells #[.string ⟨#[112]⟩, .string ⟨#[113]⟩] 9)).alloc (by simp <;> omega) (.cells #[.slice (some ⟨w.heap.size + 3, 0, none⟩) 2 2] 25) |>.alloc (by simp <;> omega) (.cells #[.int .i64 4, .int .i64 3, .string ⟨#[]⟩] 47)
  have hin : TrIn ((((((w.alloc (.cells #[.int .i64 2, .int .i64 0, .string ⟨#[]⟩, .int .i64 2, .int .i64 1, .string ⟨#[]⟩, .int .i64 0, .int .i64 0, .string ⟨#[]⟩] 47)).alloc (.cells #[.int .i64 2, .int .i64 0, .string ⟨#[]⟩] 47)).alloc (.cells #[.int .i64 2, .int .i64 0, .string ⟨#[]⟩] 47)).alloc (.cells #[.string ⟨#[112]⟩, .string ⟨#[113]⟩] 9)).alloc (.cells #[.slice (some ⟨w.heap.size + 3, 0, none⟩) 2 2] 25)).alloc (.cells #[.int .i64 4, .int .i64 3, .string ⟨#[]⟩] 47)) (w.heap.size + 4) (w.heap.size + 1) (w.heap.size + 2) (w.heap.size + 3) (vOf 0) (vOf 0) := by
    have c8 := (one_cell E4).1
    have c6 := (three_all E1).1
    have c7 := (three_all E2).1
    exact ⟨hL.below hb0, vOf_fine _ _, c8, E3, c6, c7⟩
  have HIN := Lib.hid hin
  have HB := Lib.hid hb0
  have HE5 := Lib.hid E5
  have HE1 := Lib.hid E1
  have HE2 := Lib.hid E2
  have hs6 : ((((((w.alloc (.cells #[.int .i64 2, .int .i64 0, .string ⟨#[]⟩, .int .i64 2, .int .i64 1, .string ⟨#[]⟩, .int .i64 0, .int .i64 0, .string ⟨#[]⟩] 47)).alloc (.cells #[.int .i64 2, .int .i64 0, .string ⟨#[]⟩] 47)).alloc (.cells #[.int .i64 2, .int .i64 0, .string ⟨#[]⟩] 47)).alloc (.cells #[.string ⟨#[112]⟩, .string ⟨#[113]⟩] 9)).alloc (.cells #[.slice (some ⟨w.heap.size + 3, 0, none⟩) 2 2] 25)).alloc (.cells #[.int .i64 4, .int .i64 3, .string ⟨#[]⟩] 47)).heap.size = w.heap.size + 6 := by simp
  have HS6 := Lib.hid hs6
  have HL := Lib.hid hL
  have w1 : wrap64 (u + 3) = u + 3 := wrap64_eq (by unfold R64; omega)
  have w2 : wrap64 (v + 3) = v + 3 := wrap64_eq (by unfold R64; omega)
  have hmf : ∀ (fn : Fn) (first cap : Array Value) (w : World), (Instr.makeFunc fn first cap).run Tryz.prog w = .ok (.func fn first cap) w := fun _ _ _ _ => rfl
  clear hin hb0 hs6 hL e0a e0b e0c e0d e0e e0f e1a e1b e1c e1d e1e e2a e2b e2c e2d e3a e3b e3c e4a e4b e5a E0 E1 E2 E3 E4 E5
  go_enter Tryz.func17, Tryz.ntmps17
  go_upto_region 7 with fail
  generalize ((((((w.alloc (.cells #[.int .i64 2, .int .i64 0, .string ⟨#[]⟩, .int .i64 2, .int .i64 1, .string ⟨#[]⟩, .int .i64 0, .int .i64 0, .string ⟨#[]⟩] 47)).alloc (.cells #[.int .i64 2, .int .i64 0, .string ⟨#[]⟩] 47)).alloc (.cells #[.int .i64 2, .int .i64 0, .string ⟨#[]⟩] 47)).alloc (.cells #[.string ⟨#[112]⟩, .string ⟨#[113]⟩] 9)).alloc (.cells #[.slice (some ⟨w.heap.size + 3, 0, none⟩) 2 2] 25)).alloc (.cells #[.int .i64 4, .int .i64 3, .string ⟨#[]⟩] 47)) = W6 at *
  have hnot := truths_not (vOf 0) (vOf 0) _ _ _ _ W6 HIN.out
  rw [(truths_plain 0 0 (by decide) (by decide)).2.2] at hnot
  have hnot2 : Calls Tryz.prog 36 #[.agg #[.int .i64 6, .int .i64 0, .string ⟨#[]⟩, .slice (some ⟨W6.heap.size, 0, none⟩) 1 1], .slice (some ⟨w.heap.size + 3, 0, none⟩) 2 2, .slice (some ⟨W6.heap.size + 1, 0, none⟩) 2 2] ((W6.alloc (.cells #[.int .i64 4, .int .i64 0, .string ⟨#[112]⟩, .slice none 0 0] 24)).alloc (.cells #[.int .i64 2, .int .i64 0, .string ⟨#[]⟩, .int .i64 2, .int .i64 0, .string ⟨#[]⟩] 47)) (fun e w' => e = .returned (.agg #[.int .i64 2, .int .i64 1, .string ⟨#[]⟩]) ∧ Below ((W6.alloc (.cells #[.int .i64 4, .int .i64 0, .string ⟨#[112]⟩, .slice none 0 0] 24)).alloc (.cells #[.int .i64 2, .int .i64 0, .string ⟨#[]⟩, .int .i64 2, .int .i64 0, .string ⟨#[]⟩] 47)).heap.size ((W6.alloc (.cells #[.int .i64 4, .int .i64 0, .string ⟨#[112]⟩, .slice none 0 0] 24)).alloc (.cells #[.int .i64 2, .int .i64 0, .string ⟨#[]⟩, .int .i64 2, .int .i64 0, .string ⟨#[]⟩] 47)) w') := hnot
  have hbv : Below W6.heap.size W6 ((W6.alloc (.cells #[.int .i64 4, .int .i64 0, .string ⟨#[112]⟩, .slice none 0 0] 24)).alloc (.cells #[.int .i64 2, .int .i64 0, .string ⟨#[]⟩, .int .i64 2, .int .i64 0, .string ⟨#[]⟩] 47)) := ((Below.refl _ _).alloc (Nat.le_refl _) _).alloc (by simp) _
  have HNOT := Lib.hid hnot2
  have HBV := Lib.hid hbv
  obtain ⟨m0, m1, m2⟩ := three_new HE1.out
  obtain ⟨n0, n1, n2⟩ := three_new HE2.out
  have c8 := HIN.out.c8
  have c8n : ∀ o : Obj, (W6.alloc o).cell? ⟨w.heap.size + 4, 0, none⟩ = some (.slice (some ⟨w.heap.size + 3, 0, none⟩) 2 2) := fun o => cell_old (World.block_lt_of_cell? W6 _ c8) c8 o
  clear hnot hnot2 hbv
  go_wp2_with fail
  refine HNOT.out.mono ?_
  rintro r W7 ⟨rfl, hb7⟩
  have hb8 := HBV.out.seq hb7
  have hbA := hb8.alloc hb8.size (.cells #[.int .i64 2, .int .i64 1, .string ⟨#[]⟩] 47)
  have hzA := heap_alloc_new W7 (.cells #[.int .i64 2, .int .i64 1, .string ⟨#[]⟩] 47)
  have hin7 := HIN.out.keep hbA
  have h5 := (hbA.block _ (by have := HS6.out; omega)).trans HE5.out
  have hbw := HB.out.seq hbA
  have hs7 : w.heap.size + 6 ≤ W7.heap.size := by have := hb8.size; have := HS6.out; omega
  have hsA : (W7.alloc (.cells #[.int .i64 2, .int .i64 1, .string ⟨#[]⟩] 47)).heap.size = W7.heap.size + 1 := by simp
  clear hb7 hb8 hbA m0 m1 m2 n0 n1 n2 c8 c8n HNOT HBV HIN HB HE5 HE1 HE2 HS6
  go_upto_region 8 with fail
  generalize W7.alloc (.cells #[.int .i64 2, .int .i64 1, .string ⟨#[]⟩] 47) = WA at *
  obtain ⟨⟨y0, y1, y2⟩, -⟩ := three_all h5
  have HIN := Lib.hid hin7
  have HB := Lib.hid hbw
  have HZA := Lib.hid hzA
  have HS7 := Lib.hid (And.intro hs7 hsA)
  obtain ⟨o0, o1, o2⟩ := three_new h5
  clear hin7 hbw hzA hs7 hsA
  have z0 : WA.drew.cell? ⟨w.heap.size + 1 + 1 + 1 + 1 + 1, 0, none⟩ = some (.int .i64 4) := y0
  have o0' : ∀ o : Obj, (WA.alloc o).drew.cell? ⟨w.heap.size + 1 + 1 + 1 + 1 + 1, 0, none⟩ = some (.int .i64 4) := fun o => o0 o
  have s0 : ∀ o o' : Obj, ((WA.alloc o).alloc o').drew.cell? ⟨w.heap.size + 1 + 1 + 1 + 1 + 1, 0, none⟩ = some (.int .i64 4) := fun o o' => cell_old (World.block_lt_of_cell? _ _ (o0 o)) (o0 o) o'
  have z1 : WA.drew.cell? ⟨w.heap.size + 1 + 1 + 1 + 1 + 1, 1, none⟩ = some (.int .i64 3) := y1
  have o1' : ∀ o : Obj, (WA.alloc o).drew.cell? ⟨w.heap.size + 1 + 1 + 1 + 1 + 1, 1, none⟩ = some (.int .i64 3) := fun o => o1 o
  have s1 : ∀ o o' : Obj, ((WA.alloc o).alloc o').drew.cell? ⟨w.heap.size + 1 + 1 + 1 + 1 + 1, 1, none⟩ = some (.int .i64 3) := fun o o' => cell_old (World.block_lt_of_cell? _ _ (o1 o)) (o1 o) o'
  have z2 : WA.drew.cell? ⟨w.heap.size + 1 + 1 + 1 + 1 + 1, 2, none⟩ = some (.string ⟨#[]⟩) := y2
  have o2' : ∀ o : Obj, (WA.alloc o).drew.cell? ⟨w.heap.size + 1 + 1 + 1 + 1 + 1, 2, none⟩ = some (.string ⟨#[]⟩) := fun o => o2 o
  have s2 : ∀ o o' : Obj, ((WA.alloc o).alloc o').drew.cell? ⟨w.heap.size + 1 + 1 + 1 + 1 + 1, 2, none⟩ = some (.string ⟨#[]⟩) := fun o o' => cell_old (World.block_lt_of_cell? _ _ (o2 o)) (o2 o) o'
  clear o0 o1 o2 h5
  have q0 := heap_alloc_new WA (.cells #[.int .i64 4, .int .i64 3, .string ⟨#[]⟩] 47)
  have q1 := heap_alloc_new (WA.alloc (.cells #[.int .i64 4, .int .i64 3, .string ⟨#[]⟩] 47)) (.cells #[.int .i64 4, .int .i64 3, .string ⟨#[]⟩] 47)
  have q2 := heap_alloc_new ((WA.alloc (.cells #[.int .i64 4, .int .i64 3, .string ⟨#[]⟩] 47)).alloc (.cells #[.int .i64 4, .int .i64 3, .string ⟨#[]⟩] 47)) (.cells #[.int .i64 4, .int .i64 3, .string ⟨#[]⟩] 47)
  have hz1 : (WA.alloc (.cells #[.int .i64 4, .int .i64 3, .string ⟨#[]⟩] 47)).heap.size = WA.heap.size + 1 := by simp
  have hz2 : ((WA.alloc (.cells #[.int .i64 4, .int .i64 3, .string ⟨#[]⟩] 47)).alloc (.cells #[.int .i64 4, .int .i64 3, .string ⟨#[]⟩] 47)).heap.size = WA.heap.size + 1 + 1 := by simp
  rw [hz1] at q1
  rw [hz2] at q2
  have q0' := (Lib.alloc_old ((WA.alloc (.cells #[.int .i64 4, .int .i64 3, .string ⟨#[]⟩] 47)).alloc (.cells #[.int .i64 4, .int .i64 3, .string ⟨#[]⟩] 47)) (.cells #[.int .i64 4, .int .i64 3, .string ⟨#[]⟩] 47) WA.heap.size (by rw [hz2]; omega)).trans ((Lib.alloc_old (WA.alloc (.cells #[.int .i64 4, .int .i64 3, .string ⟨#[]⟩] 47)) (.cells #[.int .i64 4, .int .i64 3, .string ⟨#[]⟩] 47) WA.heap.size (by rw [hz1]; omega)).trans q0)
  have q1' := (Lib.alloc_old ((WA.alloc (.cells #[.int .i64 4, .int .i64 3, .string ⟨#[]⟩] 47)).alloc (.cells #[.int .i64 4, .int .i64 3, .string ⟨#[]⟩] 47)) (.cells #[.int .i64 4, .int .i64 3, .string ⟨#[]⟩] 47) (WA.heap.size + 1) (by rw [hz2]; omega)).trans q1
  have hbB : Below WA.heap.size WA (((WA.alloc (.cells #[.int .i64 4, .int .i64 3, .string ⟨#[]⟩] 47)).alloc (.cells #[.int .i64 4, .int .i64 3, .string ⟨#[]⟩] 47)).alloc (.cells #[.int .i64 4, .int .i64 3, .string ⟨#[]⟩] 47)).drew := ((((Below.refl _ _).alloc (Nat.le_refl _) _).alloc (by rw [hz1]; omega) _).alloc (by rw [hz2]; omega) _).drew
  have TS0 : Hid (TS WA (((WA.alloc (.cells #[.int .i64 4, .int .i64 3, .string ⟨#[]⟩] 47)).alloc (.cells #[.int .i64 4, .int .i64 3, .string ⟨#[]⟩] 47)).alloc (.cells #[.int .i64 4, .int .i64 3, .string ⟨#[]⟩] 47)).drew 4 3 4 3 4 3) := Lib.hid ⟨hbB, q0', q1', q2⟩
  clear q0 q1 q2 q0' q1' hbB y0 y1 y2 hz1 hz2
  go_region
  · skip
    have HC6 := Lib.hid (fun W (hb : Below WA.heap.size WA W) => (HIN.out.keep hb).c6)
    have HC7 := Lib.hid (fun W (hb : Below WA.heap.size WA W) => (HIN.out.keep hb).c7)
    go_upto_region 10 with fail
    generalize (((WA.alloc (.cells #[.int .i64 4, .int .i64 3, .string ⟨#[]⟩] 47)).alloc (.cells #[.int .i64 4, .int .i64 3, .string ⟨#[]⟩] 47)).alloc (.cells #[.int .i64 4, .int .i64 3, .string ⟨#[]⟩] 47)).drew = WB at *
    clear z0 z1 z2 o0' o1' o2' s0 s1 s2
    obtain ⟨a0, a1, a2⟩ : WB.cell? ⟨w.heap.size + 1, 0, none⟩ = some (.int .i64 2) ∧ WB.cell? ⟨w.heap.size + 1, 1, none⟩ = some (.int .i64 0) ∧ WB.cell? ⟨w.heap.size + 1, 2, none⟩ = some (.string ⟨#[]⟩) := HC6.out WB TS0.out.below
    obtain ⟨b0, b1, b2⟩ : WB.cell? ⟨w.heap.size + 1 + 1, 0, none⟩ = some (.int .i64 2) ∧ WB.cell? ⟨w.heap.size + 1 + 1, 1, none⟩ = some (.int .i64 0) ∧ WB.cell? ⟨w.heap.size + 1 + 1, 2, none⟩ = some (.string ⟨#[]⟩) := HC7.out WB TS0.out.below
    go_wp2_with fail
    refine (truth9_any true WB).mono ?_
    rintro r V1 ⟨rfl, hb1⟩
    have TC1 := Lib.hid (TS0.out.call hb1)
    have HV1 : valV (vBool true) = .agg #[.int .i64 2, .int .i64 1, .string ⟨#[]⟩] := rfl
    rw [HV1]
    obtain ⟨⟨x0, x1, x2⟩, y0, y1, y2⟩ := three_all TC1.out.h2
    clear a0 a1 a2 b0 b1 b2 HV1
    obtain ⟨a0, a1, a2⟩ : V1.cell? ⟨w.heap.size + 1, 0, none⟩ = some (.int .i64 2) ∧ V1.cell? ⟨w.heap.size + 1, 1, none⟩ = some (.int .i64 0) ∧ V1.cell? ⟨w.heap.size + 1, 2, none⟩ = some (.string ⟨#[]⟩) := HC6.out V1 TC1.out.below
    clear a0 a1 a2 hb1
    go_upto_region 12 with fail
    generalize hX : World.setCell (World.setCell (World.setCell _ _ _) _ _) _ _ = X1 at *
    have TS1 : Hid (TS WA X1 4 3 4 3 2 1) := Lib.hid (by rw [← hX]; exact TC1.out.set2 2 1)
    clear hX x0 x1 x2 y0 y1 y2 TC1 TS0
    obtain ⟨a0, a1, a2⟩ : X1.cell? ⟨w.heap.size + 1, 0, none⟩ = some (.int .i64 2) ∧ X1.cell? ⟨w.heap.size + 1, 1, none⟩ = some (.int .i64 0) ∧ X1.cell? ⟨w.heap.size + 1, 2, none⟩ = some (.string ⟨#[]⟩) := HC6.out X1 TS1.out.below
    obtain ⟨b0, b1, b2⟩ : X1.cell? ⟨w.heap.size + 1 + 1, 0, none⟩ = some (.int .i64 2) ∧ X1.cell? ⟨w.heap.size + 1 + 1, 1, none⟩ = some (.int .i64 0) ∧ X1.cell? ⟨w.heap.size + 1 + 1, 2, none⟩ = some (.string ⟨#[]⟩) := HC7.out X1 TS1.out.below
    go_wp2_with fail
    refine (truth9_any false X1).mono ?_
    rintro r V2 ⟨rfl, hb2⟩
    have TC2 := Lib.hid (TS1.out.call hb2)
    have HV2 : valV (vBool false) = .agg #[.int .i64 2, .int .i64 0, .string ⟨#[]⟩] := rfl
    rw [HV2]
    obtain ⟨⟨x0, x1, x2⟩, y0, y1, y2⟩ := three_all TC2.out.h0
    clear a0 a1 a2 b0 b1 b2 HV2
    obtain ⟨a0, a1, a2⟩ : V2.cell? ⟨w.heap.size + 1, 0, none⟩ = some (.int .i64 2) ∧ V2.cell? ⟨w.heap.size + 1, 1, none⟩ = some (.int .i64 0) ∧ V2.cell? ⟨w.heap.size + 1, 2, none⟩ = some (.string ⟨#[]⟩) := HC6.out V2 TC2.out.below
    clear a0 a1 a2 hb2
    go_upto_region 16 with fail
    generalize hX : World.setCell (World.setCell (World.setCell _ _ _) _ _) _ _ = X2 at *
    have TS2 : Hid (TS WA X2 2 0 4 3 2 1) := Lib.hid (by rw [← hX]; exact TC2.out.set0 2 0)
    clear hX x0 x1 x2 y0 y1 y2 TC2 TS1
    obtain ⟨a0, a1, a2⟩ : X2.cell? ⟨w.heap.size + 1, 0, none⟩ = some (.int .i64 2) ∧ X2.cell? ⟨w.heap.size + 1, 1, none⟩ = some (.int .i64 0) ∧ X2.cell? ⟨w.heap.size + 1, 2, none⟩ = some (.string ⟨#[]⟩) := HC6.out X2 TS2.out.below
    obtain ⟨b0, b1, b2⟩ : X2.cell? ⟨w.heap.size + 1 + 1, 0, none⟩ = some (.int .i64 2) ∧ X2.cell? ⟨w.heap.size + 1 + 1, 1, none⟩ = some (.int .i64 0) ∧ X2.cell? ⟨w.heap.size + 1 + 1, 2, none⟩ = some (.string ⟨#[]⟩) := HC7.out X2 TS2.out.below
    obtain ⟨⟨x0, x1, x2⟩, y0, y1, y2⟩ := three_all TS2.out.h1
    go_upto_region 20 with fail
    generalize hX : World.setCell (World.setCell (World.setCell _ _ _) _ _) _ _ = X3 at *
    have TS3 : Hid (TS WA X3 2 0 2 0 2 1) := Lib.hid (by rw [← hX]; exact TS2.out.set1 2 0)
    clear hX x0 x1 x2 y0 y1 y2 a0 a1 a2 b0 b1 b2 TS2
    obtain ⟨a0, a1, a2⟩ : X3.cell? ⟨w.heap.size + 1, 0, none⟩ = some (.int .i64 2) ∧ X3.cell? ⟨w.heap.size + 1, 1, none⟩ = some (.int .i64 0) ∧ X3.cell? ⟨w.heap.size + 1, 2, none⟩ = some (.string ⟨#[]⟩) := HC6.out X3 TS3.out.below
    obtain ⟨b0, b1, b2⟩ : X3.cell? ⟨w.heap.size + 1 + 1, 0, none⟩ = some (.int .i64 2) ∧ X3.cell? ⟨w.heap.size + 1 + 1, 1, none⟩ = some (.int .i64 0) ∧ X3.cell? ⟨w.heap.size + 1 + 1, 2, none⟩ = some (.string ⟨#[]⟩) := HC7.out X3 TS3.out.below
    clear a0 a1 a2 b0 b1 b2 HC6 HC7
    have hinF := fun W (hb : Below X3.heap.size X3 W) => HIN.out.keep ((TS3.out.below).seq hb)
    have hc16 : ∀ W, Below X3.heap.size X3 W → Calls Tryz.prog 46 #[.int .i64 16, .pointer (some ⟨w.heap.size + 1 + 1 + 1 + 1, 0, none⟩), .pointer (some ⟨w.heap.size + 1, 0, none⟩), .pointer (some ⟨w.heap.size + 1 + 1, 0, none⟩)] W (fun e w' => e = .returned (.agg #[.int .i64 2, .int .i64 0, .string ⟨#[]⟩]) ∧ Below W.heap.size W w') := fun W hb => by
      have h := truths_clo 16 (vOf 0) (vOf 0) _ _ _ _ W (by decide) (hinF W hb)
      have e := (truths_plain 0 0 (by decide) (by decide)).1
      rw [show ((16 : Nat) : Int) = 16 from rfl, e] at h
      exact h
    have hc17 : ∀ W, Below X3.heap.size X3 W → Calls Tryz.prog 46 #[.int .i64 17, .pointer (some ⟨w.heap.size + 1 + 1 + 1 + 1, 0, none⟩), .pointer (some ⟨w.heap.size + 1, 0, none⟩), .pointer (some ⟨w.heap.size + 1 + 1, 0, none⟩)] W (fun e w' => e = .returned (.agg #[.int .i64 2, .int .i64 0, .string ⟨#[]⟩]) ∧ Below W.heap.size W w') := fun W hb => by
      have h := truths_clo 17 (vOf 0) (vOf 0) _ _ _ _ W (by decide) (hinF W hb)
      have e := (truths_plain 0 0 (by decide) (by decide)).2.1
      rw [show ((17 : Nat) : Int) = 17 from rfl, e] at h
      exact h
    obtain ⟨rk, rn, r16k, r17k, r16n, r17n⟩ : ∃ rk rn : Int → Int, rk 16 = 2 ∧ rk 17 = 2 ∧ rn 16 = 0 ∧ rn 17 = 0 := ⟨fun o => if o = 16 then 2 else 2, fun o => if o = 16 then 0 else 0, rfl, rfl, rfl, rfl⟩
    have hcc : ∀ op : Int, op = 16 ∨ op = 17 → ∀ W, Below X3.heap.size X3 W → Calls Tryz.prog 46 #[.int .i64 op, .pointer (some ⟨w.heap.size + 1 + 1 + 1 + 1, 0, none⟩), .pointer (some ⟨w.heap.size + 1, 0, none⟩), .pointer (some ⟨w.heap.size + 1 + 1, 0, none⟩)] W (fun e w' => e = .returned (.agg #[.int .i64 (rk op), .int .i64 (rn op), .string ⟨#[]⟩]) ∧ Below W.heap.size W w') := by
      rintro op (rfl | rfl) W hb
      · rw [r16k, r16n]; exact hc16 W hb
      · rw [r17k, r17n]; exact hc17 W hb
    have HQ := Lib.hid hcc
    have hk : ∀ W, Below X3.heap.size X3 W → (W.cell? ⟨WA.heap.size, 0, none⟩ = some (.int .i64 2) ∧ W.cell? ⟨WA.heap.size, 1, none⟩ = some (.int .i64 0) ∧ W.cell? ⟨WA.heap.size, 2, none⟩ = some (.string ⟨#[]⟩)) ∧ (W.cell? ⟨WA.heap.size + 1, 0, none⟩ = some (.int .i64 2) ∧ W.cell? ⟨WA.heap.size + 1, 1, none⟩ = some (.int .i64 0) ∧ W.cell? ⟨WA.heap.size + 1, 2, none⟩ = some (.string ⟨#[]⟩)) ∧ (W.cell? ⟨WA.heap.size + 1 + 1, 0, none⟩ = some (.int .i64 2) ∧ W.cell? ⟨WA.heap.size + 1 + 1, 1, none⟩ = some (.int .i64 1) ∧ W.cell? ⟨WA.heap.size + 1 + 1, 2, none⟩ = some (.string ⟨#[]⟩)) ∧ (W.cell? ⟨W7.heap.size, 0, none⟩ = some (.int .i64 2) ∧ W.cell? ⟨W7.heap.size, 1, none⟩ = some (.int .i64 1) ∧ W.cell? ⟨W7.heap.size, 2, none⟩ = some (.string ⟨#[]⟩)) := fun W hb =>
      let T := TS3.out.call hb
      ⟨(three_all T.h0).1, (three_all T.h1).1, (three_all T.h2).1, (three_all ((T.below.block _ (by have := HS7.out; omega)).trans HZA.out)).1⟩
    have HK := Lib.hid hk
    have hbe : Below X3.heap.size X3 X3.drew := (Below.refl _ _).drew
    have hbx : Below w.heap.size w X3.drew := (HB.out.seq TS3.out.below).seq hbe
    obtain ⟨⟨g0, g1, g2⟩, ⟨g3, g4, g5⟩, ⟨g6, g7, g8⟩, g9, g10, g11⟩ := hk X3.drew hbe
    have HAW := Lib.hid (fun w hL => awake9 w hL)
    clear hk hc16 hc17 hcc hinF
    go_region_held3 (fun w' => ((w'.cell? ⟨WA.heap.size, 0, none⟩ = some (.int .i64 2) ∧ w'.cell? ⟨WA.heap.size, 1, none⟩ = some (.int .i64 0) ∧ w'.cell? ⟨WA.heap.size, 2, none⟩ = some (.string ⟨#[]⟩)) ∧ (w'.cell? ⟨WA.heap.size + 1, 0, none⟩ = some (.int .i64 2) ∧ w'.cell? ⟨WA.heap.size + 1, 1, none⟩ = some (.int .i64 0) ∧ w'.cell? ⟨WA.heap.size + 1, 2, none⟩ = some (.string ⟨#[]⟩)) ∧ (w'.cell? ⟨WA.heap.size + 1 + 1, 0, none⟩ = some (.int .i64 2) ∧ w'.cell? ⟨WA.heap.size + 1 + 1, 1, none⟩ = some (.int .i64 1) ∧ w'.cell? ⟨WA.heap.size + 1 + 1, 2, none⟩ = some (.string ⟨#[]⟩)) ∧ (w'.cell? ⟨W7.heap.size, 0, none⟩ = some (.int .i64 2) ∧ w'.cell? ⟨W7.heap.size, 1, none⟩ = some (.int .i64 1) ∧ w'.cell? ⟨W7.heap.size, 2, none⟩ = some (.string ⟨#[]⟩)))) (go_keep)
      ((first
        | (go_at_call 46; refine (HQ.out _ (by decide) _ hbe).mono ?_; rintro r W8 ⟨rfl, hb8⟩; have hbx := hbx.seq hb8; have hbe := hbe.seq hb8; have hg := HK.out W8 hbe; obtain ⟨⟨g0, g1, g2⟩, ⟨g3, g4, g5⟩, ⟨g6, g7, g8⟩, g9, g10, g11⟩ := hg; clear hb8)
        | (go_at_call 35; refine (HAW.out _ (HL.out.below hbx)).mono ?_; rintro r W8 ⟨rfl, hb8⟩; have hbx := hbx.seq hb8; have hbe := hbe.seq hb8; have hg := HK.out W8 hbe; obtain ⟨⟨g0, g1, g2⟩, ⟨g3, g4, g5⟩, ⟨g6, g7, g8⟩, g9, g10, g11⟩ := hg; clear hb8)))
    all_goals
      go_wp2
      go_ret
      exact ⟨rfl, hbx⟩
  · skip
    have HC6 := Lib.hid (fun W (hb : Below WA.heap.size WA W) => (HIN.out.keep hb).c6)
    have HC7 := Lib.hid (fun W (hb : Below WA.heap.size WA W) => (HIN.out.keep hb).c7)
    go_upto_region 10 with fail
    generalize (((WA.alloc (.cells #[.int .i64 4, .int .i64 3, .string ⟨#[]⟩] 47)).alloc (.cells #[.int .i64 4, .int .i64 3, .string ⟨#[]⟩] 47)).alloc (.cells #[.int .i64 4, .int .i64 3, .string ⟨#[]⟩] 47)).drew = WB at *
    clear z0 z1 z2 o0' o1' o2' s0 s1 s2
    obtain ⟨a0, a1, a2⟩ : WB.cell? ⟨w.heap.size + 1, 0, none⟩ = some (.int .i64 2) ∧ WB.cell? ⟨w.heap.size + 1, 1, none⟩ = some (.int .i64 0) ∧ WB.cell? ⟨w.heap.size + 1, 2, none⟩ = some (.string ⟨#[]⟩) := HC6.out WB TS0.out.below
    obtain ⟨b0, b1, b2⟩ : WB.cell? ⟨w.heap.size + 1 + 1, 0, none⟩ = some (.int .i64 2) ∧ WB.cell? ⟨w.heap.size + 1 + 1, 1, none⟩ = some (.int .i64 0) ∧ WB.cell? ⟨w.heap.size + 1 + 1, 2, none⟩ = some (.string ⟨#[]⟩) := HC7.out WB TS0.out.below
    go_wp2_with fail
    refine (truth9_any true WB).mono ?_
    rintro r V1 ⟨rfl, hb1⟩
    have TC1 := Lib.hid (TS0.out.call hb1)
    have HV1 : valV (vBool true) = .agg #[.int .i64 2, .int .i64 1, .string ⟨#[]⟩] := rfl
    rw [HV1]
    obtain ⟨⟨x0, x1, x2⟩, y0, y1, y2⟩ := three_all TC1.out.h2
    clear a0 a1 a2 b0 b1 b2 HV1
    obtain ⟨a0, a1, a2⟩ : V1.cell? ⟨w.heap.size + 1, 0, none⟩ = some (.int .i64 2) ∧ V1.cell? ⟨w.heap.size + 1, 1, none⟩ = some (.int .i64 0) ∧ V1.cell? ⟨w.heap.size + 1, 2, none⟩ = some (.string ⟨#[]⟩) := HC6.out V1 TC1.out.below
    clear a0 a1 a2 hb1
    go_upto_region 12 with fail
    generalize hX : World.setCell (World.setCell (World.setCell _ _ _) _ _) _ _ = X1 at *
    have TS1 : Hid (TS WA X1 4 3 4 3 2 1) := Lib.hid (by rw [← hX]; exact TC1.out.set2 2 1)
    clear hX x0 x1 x2 y0 y1 y2 TC1 TS0
    obtain ⟨a0, a1, a2⟩ : X1.cell? ⟨w.heap.size + 1, 0, none⟩ = some (.int .i64 2) ∧ X1.cell? ⟨w.heap.size + 1, 1, none⟩ = some (.int .i64 0) ∧ X1.cell? ⟨w.heap.size + 1, 2, none⟩ = some (.string ⟨#[]⟩) := HC6.out X1 TS1.out.below
    obtain ⟨b0, b1, b2⟩ : X1.cell? ⟨w.heap.size + 1 + 1, 0, none⟩ = some (.int .i64 2) ∧ X1.cell? ⟨w.heap.size + 1 + 1, 1, none⟩ = some (.int .i64 0) ∧ X1.cell? ⟨w.heap.size + 1 + 1, 2, none⟩ = some (.string ⟨#[]⟩) := HC7.out X1 TS1.out.below
    go_wp2_with fail
    refine (truth9_any false X1).mono ?_
    rintro r V2 ⟨rfl, hb2⟩
    have TC2 := Lib.hid (TS1.out.call hb2)
    have HV2 : valV (vBool false) = .agg #[.int .i64 2, .int .i64 0, .string ⟨#[]⟩] := rfl
    rw [HV2]
    obtain ⟨⟨x0, x1, x2⟩, y0, y1, y2⟩ := three_all TC2.out.h1
    clear a0 a1 a2 b0 b1 b2 HV2
    obtain ⟨a0, a1, a2⟩ : V2.cell? ⟨w.heap.size + 1, 0, none⟩ = some (.int .i64 2) ∧ V2.cell? ⟨w.heap.size + 1, 1, none⟩ = some (.int .i64 0) ∧ V2.cell? ⟨w.heap.size + 1, 2, none⟩ = some (.string ⟨#[]⟩) := HC6.out V2 TC2.out.below
    clear a0 a1 a2 hb2
    go_upto_region 16 with fail
    generalize hX : World.setCell (World.setCell (World.setCell _ _ _) _ _) _ _ = X2 at *
    have TS2 : Hid (TS WA X2 4 3 2 0 2 1) := Lib.hid (by rw [← hX]; exact TC2.out.set1 2 0)
    clear hX x0 x1 x2 y0 y1 y2 TC2 TS1
    obtain ⟨a0, a1, a2⟩ : X2.cell? ⟨w.heap.size + 1, 0, none⟩ = some (.int .i64 2) ∧ X2.cell? ⟨w.heap.size + 1, 1, none⟩ = some (.int .i64 0) ∧ X2.cell? ⟨w.heap.size + 1, 2, none⟩ = some (.string ⟨#[]⟩) := HC6.out X2 TS2.out.below
    obtain ⟨b0, b1, b2⟩ : X2.cell? ⟨w.heap.size + 1 + 1, 0, none⟩ = some (.int .i64 2) ∧ X2.cell? ⟨w.heap.size + 1 + 1, 1, none⟩ = some (.int .i64 0) ∧ X2.cell? ⟨w.heap.size + 1 + 1, 2, none⟩ = some (.string ⟨#[]⟩) := HC7.out X2 TS2.out.below
    obtain ⟨⟨x0, x1, x2⟩, y0, y1, y2⟩ := three_all TS2.out.h0
    go_upto_region 20 with fail
    generalize hX : World.setCell (World.setCell (World.setCell _ _ _) _ _) _ _ = X3 at *
    have TS3 : Hid (TS WA X3 2 0 2 0 2 1) := Lib.hid (by rw [← hX]; exact TS2.out.set0 2 0)
    clear hX x0 x1 x2 y0 y1 y2 a0 a1 a2 b0 b1 b2 TS2
    obtain ⟨a0, a1, a2⟩ : X3.cell? ⟨w.heap.size + 1, 0, none⟩ = some (.int .i64 2) ∧ X3.cell? ⟨w.heap.size + 1, 1, none⟩ = some (.int .i64 0) ∧ X3.cell? ⟨w.heap.size + 1, 2, none⟩ = some (.string ⟨#[]⟩) := HC6.out X3 TS3.out.below
    obtain ⟨b0, b1, b2⟩ : X3.cell? ⟨w.heap.size + 1 + 1, 0, none⟩ = some (.int .i64 2) ∧ X3.cell? ⟨w.heap.size + 1 + 1, 1, none⟩ = some (.int .i64 0) ∧ X3.cell? ⟨w.heap.size + 1 + 1, 2, none⟩ = some (.string ⟨#[]⟩) := HC7.out X3 TS3.out.below
    clear a0 a1 a2 b0 b1 b2 HC6 HC7
    have hinF := fun W (hb : Below X3.heap.size X3 W) => HIN.out.keep ((TS3.out.below).seq hb)
    have hc16 : ∀ W, Below X3.heap.size X3 W → Calls Tryz.prog 46 #[.int .i64 16, .pointer (some ⟨w.heap.size + 1 + 1 + 1 + 1, 0, none⟩), .pointer (some ⟨w.heap.size + 1, 0, none⟩), .pointer (some ⟨w.heap.size + 1 + 1, 0, none⟩)] W (fun e w' => e = .returned (.agg #[.int .i64 2, .int .i64 0, .string ⟨#[]⟩]) ∧ Below W.heap.size W w') := fun W hb => by
      have h := truths_clo 16 (vOf 0) (vOf 0) _ _ _ _ W (by decide) (hinF W hb)
      have e := (truths_plain 0 0 (by decide) (by decide)).1
      rw [show ((16 : Nat) : Int) = 16 from rfl, e] at h
      exact h
    have hc17 : ∀ W, Below X3.heap.size X3 W → Calls Tryz.prog 46 #[.int .i64 17, .pointer (some ⟨w.heap.size + 1 + 1 + 1 + 1, 0, none⟩), .pointer (some ⟨w.heap.size + 1, 0, none⟩), .pointer (some ⟨w.heap.size + 1 + 1, 0, none⟩)] W (fun e w' => e = .returned (.agg #[.int .i64 2, .int .i64 0, .string ⟨#[]⟩]) ∧ Below W.heap.size W w') := fun W hb => by
      have h := truths_clo 17 (vOf 0) (vOf 0) _ _ _ _ W (by decide) (hinF W hb)
      have e := (truths_plain 0 0 (by decide) (by decide)).2.1
      rw [show ((17 : Nat) : Int) = 17 from rfl, e] at h
      exact h
    obtain ⟨rk, rn, r16k, r17k, r16n, r17n⟩ : ∃ rk rn : Int → Int, rk 16 = 2 ∧ rk 17 = 2 ∧ rn 16 = 0 ∧ rn 17 = 0 := ⟨fun o => if o = 16 then 2 else 2, fun o => if o = 16 then 0 else 0, rfl, rfl, rfl, rfl⟩
    have hcc : ∀ op : Int, op = 16 ∨ op = 17 → ∀ W, Below X3.heap.size X3 W → Calls Tryz.prog 46 #[.int .i64 op, .pointer (some ⟨w.heap.size + 1 + 1 + 1 + 1, 0, none⟩), .pointer (some ⟨w.heap.size + 1, 0, none⟩), .pointer (some ⟨w.heap.size + 1 + 1, 0, none⟩)] W (fun e w' => e = .returned (.agg #[.int .i64 (rk op), .int .i64 (rn op), .string ⟨#[]⟩]) ∧ Below W.heap.size W w') := by
      rintro op (rfl | rfl) W hb
      · rw [r16k, r16n]; exact hc16 W hb
      · rw [r17k, r17n]; exact hc17 W hb
    have HQ := Lib.hid hcc
    have hk : ∀ W, Below X3.heap.size X3 W → (W.cell? ⟨WA.heap.size, 0, none⟩ = some (.int .i64 2) ∧ W.cell? ⟨WA.heap.size, 1, none⟩ = some (.int .i64 0) ∧ W.cell? ⟨WA.heap.size, 2, none⟩ = some (.string ⟨#[]⟩)) ∧ (W.cell? ⟨WA.heap.size + 1, 0, none⟩ = some (.int .i64 2) ∧ W.cell? ⟨WA.heap.size + 1, 1, none⟩ = some (.int .i64 0) ∧ W.cell? ⟨WA.heap.size + 1, 2, none⟩ = some (.string ⟨#[]⟩)) ∧ (W.cell? ⟨WA.heap.size + 1 + 1, 0, none⟩ = some (.int .i64 2) ∧ W.cell? ⟨WA.heap.size + 1 + 1, 1, none⟩ = some (.int .i64 1) ∧ W.cell? ⟨WA.heap.size + 1 + 1, 2, none⟩ = some (.string ⟨#[]⟩)) ∧ (W.cell? ⟨W7.heap.size, 0, none⟩ = some (.int .i64 2) ∧ W.cell? ⟨W7.heap.size, 1, none⟩ = some (.int .i64 1) ∧ W.cell? ⟨W7.heap.size, 2, none⟩ = some (.string ⟨#[]⟩)) := fun W hb =>
      let T := TS3.out.call hb
      ⟨(three_all T.h0).1, (three_all T.h1).1, (three_all T.h2).1, (three_all ((T.below.block _ (by have := HS7.out; omega)).trans HZA.out)).1⟩
    have HK := Lib.hid hk
    have hbe : Below X3.heap.size X3 X3.drew := (Below.refl _ _).drew
    have hbx : Below w.heap.size w X3.drew := (HB.out.seq TS3.out.below).seq hbe
    obtain ⟨⟨g0, g1, g2⟩, ⟨g3, g4, g5⟩, ⟨g6, g7, g8⟩, g9, g10, g11⟩ := hk X3.drew hbe
    have HAW := Lib.hid (fun w hL => awake9 w hL)
    clear hk hc16 hc17 hcc hinF
    go_region_held3 (fun w' => ((w'.cell? ⟨WA.heap.size, 0, none⟩ = some (.int .i64 2) ∧ w'.cell? ⟨WA.heap.size, 1, none⟩ = some (.int .i64 0) ∧ w'.cell? ⟨WA.heap.size, 2, none⟩ = some (.string ⟨#[]⟩)) ∧ (w'.cell? ⟨WA.heap.size + 1, 0, none⟩ = some (.int .i64 2) ∧ w'.cell? ⟨WA.heap.size + 1, 1, none⟩ = some (.int .i64 0) ∧ w'.cell? ⟨WA.heap.size + 1, 2, none⟩ = some (.string ⟨#[]⟩)) ∧ (w'.cell? ⟨WA.heap.size + 1 + 1, 0, none⟩ = some (.int .i64 2) ∧ w'.cell? ⟨WA.heap.size + 1 + 1, 1, none⟩ = some (.int .i64 1) ∧ w'.cell? ⟨WA.heap.size + 1 + 1, 2, none⟩ = some (.string ⟨#[]⟩)) ∧ (w'.cell? ⟨W7.heap.size, 0, none⟩ = some (.int .i64 2) ∧ w'.cell? ⟨W7.heap.size, 1, none⟩ = some (.int .i64 1) ∧ w'.cell? ⟨W7.heap.size, 2, none⟩ = some (.string ⟨#[]⟩)))) (go_keep)
      ((first
        | (go_at_call 46; refine (HQ.out _ (by decide) _ hbe).mono ?_; rintro r W8 ⟨rfl, hb8⟩; have hbx := hbx.seq hb8; have hbe := hbe.seq hb8; have hg := HK.out W8 hbe; obtain ⟨⟨g0, g1, g2⟩, ⟨g3, g4, g5⟩, ⟨g6, g7, g8⟩, g9, g10, g11⟩ := hg; clear hb8)
        | (go_at_call 35; refine (HAW.out _ (HL.out.below hbx)).mono ?_; rintro r W8 ⟨rfl, hb8⟩; have hbx := hbx.seq hb8; have hbe := hbe.seq hb8; have hg := HK.out W8 hbe; obtain ⟨⟨g0, g1, g2⟩, ⟨g3, g4, g5⟩, ⟨g6, g7, g8⟩, g9, g10, g11⟩ := hg; clear hb8)))
    all_goals
      go_wp2
      go_ret
      exact ⟨rfl, hbx⟩
end Go.Proofs.YtdgcgogeidnmoaaGreatDoor
