/- The walk of palaverlaw09.EvalWords, where the two are one text. Conditions: the tables hold what they are laid with; the number is an int64's. -/
import Derived.Test.YtdgcgogeidnmoaaGreatDoorE25
import Derived.Test.YtdgcgogeidnmoaaGreatDoorR4
set_option linter.unusedSimpArgs false
set_option linter.unusedVariables false
set_option linter.unusedSectionVars false
namespace Go.Proofs.YtdgcgogeidnmoaaGreatDoor
open Go.RowKit Pal
theorem Kept.over9 {w W W' : World} {l : List (Nat × Obj)} {B : Nat} (h : Kept w W l) (hB : W.heap.size = B) {x0 x1 x2 : Value} {T : TypeId} (g : Kept w W' ((B, .cells #[x0, x1, x2] T) :: l)) (y0 y1 y2 : Value) :
    Kept w (((W'.setCell ⟨B, 0, none⟩ y0).setCell ⟨B, 1, none⟩ y1).setCell ⟨B, 2, none⟩ y2) ((B, .cells #[y0, y1, y2] T) :: l) := by
  subst hB
  refine ⟨below_set3 g.below h.below.size _ _ _, fun x hx => ?_⟩
  rcases List.mem_cons.1 hx with rfl | hx
  · exact set3_heap g.at0 _ _ _
  · have hl := (Array.getElem?_eq_some_iff.1 (h.mem x hx)).1
    exact (set3_other (by omega) _ _ _).trans (g.mem x (.tail _ hx))
theorem keep19 {W : World} {b B i j : Nat} {v x : Value} (hne : B ≠ b) (h : W.cell? ⟨B, i, none⟩ = some x) : (W.setCell ⟨b, j, none⟩ v).cell? ⟨B, i, none⟩ = some x := by
  unfold World.cell? at *
  rw [Below.heap_setCell _ _ _ _ (fun e => hne e)]
  exact h
theorem keep39 {W : World} {b B i j k l : Nat} {v u z x : Value} (hne : B ≠ b) (h : W.cell? ⟨B, i, none⟩ = some x) : (((W.setCell ⟨b, j, none⟩ v).setCell ⟨b, k, none⟩ u).setCell ⟨b, l, none⟩ z).cell? ⟨B, i, none⟩ = some x := keep19 hne (keep19 hne (keep19 hne h))
/-- Three blocks more. -/
theorem Kept.new3 {w W : World} {l : List (Nat × Obj)} (h : Kept w W l) (a b c : Obj) : Kept w (((W.alloc a).alloc b).alloc c) ((W.heap.size + 1 + 1, c) :: (W.heap.size + 1, b) :: (W.heap.size, a) :: l) :=
  (h.new2 a b).newAt c (by simp)
theorem size3 (W : World) (a b c : Obj) : (((W.alloc a).alloc b).alloc c).heap.size = W.heap.size + 1 + 1 + 1 := by simp
theorem with9 {p q : Prop} (h : p) (k : Hid p → q) : q := k (Lib.hid h)
theorem alloc_at9 {W : World} {b : Nat} {o : Obj} (h : b = W.heap.size) : (W.alloc o).heap[b]? = some o := by subst h; exact heap_alloc_new W o
theorem alloc_lo9 {W : World} {b : Nat} {o x : Obj} (h : W.heap[b]? = some x) : (W.alloc o).heap[b]? = some x := (Lib.alloc_old W o _ (Array.getElem?_eq_some_iff.1 h).1).trans h
theorem drew_lo9 {W : World} {b : Nat} {x : Obj} (h : W.heap[b]? = some x) : W.drew.heap[b]? = some x := h
theorem call_lo9 {W W' : World} {b : Nat} {x : Obj} (hb : Hid (Below W.heap.size W W')) (h : W.heap[b]? = some x) : W'.heap[b]? = some x := (hb.out.block _ (Array.getElem?_eq_some_iff.1 h).1).trans h
theorem set_lo9 {W : World} {b B i : Nat} {v : Value} {x : Obj} (hne : b ≠ B) (h : W.heap[b]? = some x) : (W.setCell ⟨B, i, none⟩ v).heap[b]? = some x := (Below.heap_setCell _ _ _ _ hne).trans h
theorem below_alloc9 {w W : World} {o : Obj} (h : Below w.heap.size w W) : Below w.heap.size w (W.alloc o) := h.alloc h.size o
set_option maxRecDepth 1000000 in
set_option maxHeartbeats 8000000 in
theorem words_short (s t : ByteArray) (n ls lt : Int) (w : World) (hL : Lay (gh w)) (q1 : decide ((400:Int) < s.size) = false) (q2 : decide ((400:Int) < t.size) = false) (qs : decide ((100:Int) < wrap64 (ls + lt)) = false) (u y : ByteArray) (hu : s ++ t = u) (h9 : ¬ 9223372036854775807 < s.size + t.size)
    (qy : decide ((y.size : Int) ≤ s.size) = true) (hy : y.size ≤ s.size) (hpre : s.extract 0 y.size = y)
    (M1 : Hid (MayAt s true)) (M2 : Hid (MayAt t true)) (T1 : Hid (TextAt s)) (T2 : Hid (TextAt t)) (A1 : Hid (LenAt s ls)) (A2 : Hid (LenAt t lt)) (A3 : Hid (CatAt s t 3 0 u)) (T3 : Hid (TextAt u)) (A4 : Hid (CutAt u ls s)) (A5 : Hid (CutAt s n y)) :
    Calls Tryz.prog 15 #[.string s, .string t, .int .i64 n] w (yesPost w) := by
  have HAW := Lib.hid (fun W (hb : Below w.heap.size w W) => awake9 W (hL.below hb))
  have HL := Lib.hid (fun W (hb : Below w.heap.size w W) => hL.below hb)
  have HPRE := Lib.hid hpre
  unfold TextAt at T3
  clear hL hpre
  go_enter Tryz.func15, Tryz.ntmps15
  go_wp2_with fail
  refine (M1.out _).mono ?_
  rintro r W1 ⟨rfl, hb⟩
  have K1 := Lib.hid ((Kept.start w).call hb)
  clear hb
  go_wp2_with fail
  refine (M2.out _).mono ?_
  rintro r W2 ⟨rfl, hb⟩
  have K2 := Lib.hid (K1.out.call hb)
  clear hb K1
  go_wp2_with fail
  refine (T1.out _).mono ?_
  rintro r W3 ⟨rfl, hb⟩
  have K3 := Lib.hid (K2.out.call hb)
  clear hb K2
  go_wp2_with fail
  refine (A1.out W3 (HL.out _ K3.out.below)).mono ?_
  rintro r W4 ⟨rfl, hb⟩
  have K4 := Lib.hid ((K3.out.call hb).new (.cells #[.int .i64 1, .int .i64 ls, .string ⟨#[]⟩] 47))
  clear hb K3
  go_upto_region 4 with fail
  generalize W4.alloc (.cells #[.int .i64 1, .int .i64 ls, .string ⟨#[]⟩] 47) = WA at *
  generalize W4.heap.size = bA at *
  go_wp2_with fail
  refine (T2.out _).mono ?_
  rintro r W5 ⟨rfl, hb⟩
  have K5 := Lib.hid (K4.out.call hb)
  clear hb K4
  go_wp2_with fail
  refine (A2.out W5 (HL.out _ K5.out.below)).mono ?_
  rintro r W6 ⟨rfl, hb⟩
  have K6 := Lib.hid ((K5.out.call hb).new (.cells #[.int .i64 1, .int .i64 lt, .string ⟨#[]⟩] 47))
  clear hb K5
  go_upto_region 5 with fail
  generalize W6.alloc (.cells #[.int .i64 1, .int .i64 lt, .string ⟨#[]⟩] 47) = WB at *
  generalize W6.heap.size = bB at *
  go_wp2_with fail
  refine (T1.out _).mono ?_
  rintro r W7 ⟨rfl, hb⟩
  have K7 := Lib.hid (K6.out.call hb)
  clear hb K6
  go_wp2_with fail
  refine (T2.out _).mono ?_
  rintro r W8 ⟨rfl, hb⟩
  have K8 := Lib.hid (K7.out.call hb)
  clear hb K7
  go_wp2_with fail
  refine (A3.out W8 (HL.out _ K8.out.below)).mono ?_
  rintro r W9 ⟨rfl, hb⟩
  have K9 := Lib.hid ((K8.out.call hb).new (.cells #[.int .i64 3, .int .i64 0, .string u] 47))
  clear hb K8
  go_upto_region 6 with fail
  generalize W9.alloc (.cells #[.int .i64 3, .int .i64 0, .string u] 47) = WC at *
  generalize W9.heap.size = bC at *
  obtain ⟨⟨c0, c1, c2⟩, -⟩ := three_all K9.out.at0
  obtain ⟨⟨b0, b1, b2⟩, -⟩ := three_all K9.out.tail.at0
  obtain ⟨⟨a0, a1, a2⟩, -⟩ := three_all K9.out.tail.tail.at0
  go_upto_region 10 with fail
  clear q1 q2 qs b0 b1 b2 a0 a2 c0 c1 c2 A1 A2 A3 T2 M1 M2
  have HBC : Hid (Below w.heap.size w WC) := Lib.hid K9.out.below
  have HAC : Hid (WC.heap[bA]? = some (.cells #[.int .i64 1, .int .i64 ls, .string ⟨#[]⟩] 47)) := Lib.hid K9.out.tail.tail.at0
  have HKA : Hid (∀ W : World, W.heap[bA]? = some (.cells #[.int .i64 1, .int .i64 ls, .string ⟨#[]⟩] 47) → W.cell? ⟨bA, 1, none⟩ = some (.int .i64 ls)) := Lib.hid (fun W h => (three_all h).1.2.1)
  unfold CutAt at A4
  clear K9
  go_cut [10] from 12 (fun s10 wc => ∃ bX, s10 = .pointer (some ⟨bX, 0, none⟩) ∧ Kept w wc ((bX, (.cells #[.int .i64 3, .int .i64 0, .string s] 47)) :: []))
  case first =>
    go_region_held3 (fun w' => (w'.cell? ⟨bA, 1, none⟩ = some (.int .i64 ls))) ((first | (with_reducible exact a1) | (with_reducible refine HKA.out _ ?_ ; (repeat (first | (exact HAC.out) | (with_reducible exact HAD.out) | (with_reducible exact HAE.out) | (with_reducible refine alloc_at9 ?_ ; (first | rfl | (simp; done))) | (with_reducible refine alloc_lo9 ?_) | (with_reducible refine drew_lo9 ?_) | (with_reducible refine call_lo9 HCD ?_) | (with_reducible refine call_lo9 HCE ?_) | (with_reducible refine set_lo9 hne ?_))); done) | go_keep | (with_reducible exact keep39 hne a1)))
      ((first
        | (go_at_call 44; ((with_reducible refine (T3.out _).mono ?_)); rintro r WD ⟨rfl, hb⟩; have HCD := Lib.hid hb; have HBD : Hid (Below w.heap.size w WD) := Lib.hid (Below.seq (by (repeat (first | (with_reducible exact HBC.out) | (with_reducible exact HBD.out) | (with_reducible exact HBE.out) | (with_reducible refine below_alloc9 ?_) | (with_reducible refine Below.drew ?_)))) hb); have HAD : Hid (WD.heap[bA]? = some (.cells #[.int .i64 1, .int .i64 ls, .string ⟨#[]⟩] 47)) := Lib.hid (by (repeat (first | (exact HAC.out) | (with_reducible exact HAD.out) | (with_reducible exact HAE.out) | (with_reducible refine alloc_at9 ?_ ; (first | rfl | (simp; done))) | (with_reducible refine alloc_lo9 ?_) | (with_reducible refine drew_lo9 ?_) | (with_reducible refine call_lo9 HCD ?_) | (with_reducible refine call_lo9 HCE ?_) | (with_reducible refine set_lo9 hne ?_)))); have a1 : WD.cell? ⟨bA, 1, none⟩ = some (.int .i64 ls) := (three_all HAD.out).1.2.1; clear hb)
        | (go_at_call 36; ((with_reducible refine (A4.out _ _ _ _ ?_ ?_ ?_ ?_).mono ?_)); (focus (refine HL.out _ ?_; (repeat (first | (with_reducible exact HBC.out) | (with_reducible exact HBD.out) | (with_reducible exact HBE.out) | (with_reducible refine below_alloc9 ?_) | (with_reducible refine Below.drew ?_))))); (focus (repeat (first | (exact HAC.out) | (with_reducible exact HAD.out) | (with_reducible exact HAE.out) | (with_reducible refine alloc_at9 ?_ ; (first | rfl | (simp; done))) | (with_reducible refine alloc_lo9 ?_) | (with_reducible refine drew_lo9 ?_) | (with_reducible refine call_lo9 HCD ?_) | (with_reducible refine call_lo9 HCE ?_) | (with_reducible refine set_lo9 hne ?_)))); (focus (repeat (first | (exact HAC.out) | (with_reducible exact HAD.out) | (with_reducible exact HAE.out) | (with_reducible refine alloc_at9 ?_ ; (first | rfl | (simp; done))) | (with_reducible refine alloc_lo9 ?_) | (with_reducible refine drew_lo9 ?_) | (with_reducible refine call_lo9 HCD ?_) | (with_reducible refine call_lo9 HCE ?_) | (with_reducible refine set_lo9 hne ?_)))); (focus (repeat (first | (exact HAC.out) | (with_reducible exact HAD.out) | (with_reducible exact HAE.out) | (with_reducible refine alloc_at9 ?_ ; (first | rfl | (simp; done))) | (with_reducible refine alloc_lo9 ?_) | (with_reducible refine drew_lo9 ?_) | (with_reducible refine call_lo9 HCD ?_) | (with_reducible refine call_lo9 HCE ?_) | (with_reducible refine set_lo9 hne ?_)))); rintro r WE ⟨rfl, hb⟩; have HCE := Lib.hid hb; have HBE : Hid (Below w.heap.size w WE) := Lib.hid (Below.seq (by (repeat (first | (with_reducible exact HBC.out) | (with_reducible exact HBD.out) | (with_reducible exact HBE.out) | (with_reducible refine below_alloc9 ?_) | (with_reducible refine Below.drew ?_)))) hb); have HAE : Hid (WE.heap[bA]? = some (.cells #[.int .i64 1, .int .i64 ls, .string ⟨#[]⟩] 47)) := Lib.hid (by (repeat (first | (exact HAC.out) | (with_reducible exact HAD.out) | (with_reducible exact HAE.out) | (with_reducible refine alloc_at9 ?_ ; (first | rfl | (simp; done))) | (with_reducible refine alloc_lo9 ?_) | (with_reducible refine drew_lo9 ?_) | (with_reducible refine call_lo9 HCD ?_) | (with_reducible refine call_lo9 HCE ?_) | (with_reducible refine set_lo9 hne ?_)))); have a1 : WE.cell? ⟨bA, 1, none⟩ = some (.int .i64 ls) := (three_all HAE.out).1.2.1; clear hb; (first | ((with_reducible refine with9 (p := WE.heap[WD.heap.size]? = some (.cells #[.int .i64 0, .int .i64 0, .string ⟨#[]⟩] 47)) ?_ ?_); (focus ((repeat (first | (exact HAC.out) | (with_reducible exact HAD.out) | (with_reducible exact HAE.out) | (with_reducible refine alloc_at9 ?_ ; (first | rfl | (simp; done))) | (with_reducible refine alloc_lo9 ?_) | (with_reducible refine drew_lo9 ?_) | (with_reducible refine call_lo9 HCD ?_) | (with_reducible refine call_lo9 HCE ?_) | (with_reducible refine set_lo9 hne ?_))); done)); intro HZ; have hne : bA ≠ WD.heap.size := (by have := (Array.getElem?_eq_some_iff.1 HAD.out).1; have := (Array.getElem?_eq_some_iff.1 HAC.out).1; omega); have hle : w.heap.size ≤ WD.heap.size := (by have := HBD.out.size; have := HBC.out.size; omega); obtain ⟨⟨v0, v1, v2⟩, vf0, vf1, vf2⟩ := three_all HZ.out; generalize WD.heap.size = bX at *) | ((with_reducible refine with9 (p := WE.heap[WD.heap.size + 1]? = some (.cells #[.int .i64 0, .int .i64 0, .string ⟨#[]⟩] 47)) ?_ ?_); (focus ((repeat (first | (exact HAC.out) | (with_reducible exact HAD.out) | (with_reducible exact HAE.out) | (with_reducible refine alloc_at9 ?_ ; (first | rfl | (simp; done))) | (with_reducible refine alloc_lo9 ?_) | (with_reducible refine drew_lo9 ?_) | (with_reducible refine call_lo9 HCD ?_) | (with_reducible refine call_lo9 HCE ?_) | (with_reducible refine set_lo9 hne ?_))); done)); intro HZ; have hne : bA ≠ WD.heap.size + 1 := (by have := (Array.getElem?_eq_some_iff.1 HAD.out).1; have := (Array.getElem?_eq_some_iff.1 HAC.out).1; omega); have hle : w.heap.size ≤ WD.heap.size + 1 := (by have := HBD.out.size; have := HBC.out.size; omega); obtain ⟨⟨v0, v1, v2⟩, vf0, vf1, vf2⟩ := three_all HZ.out; generalize WD.heap.size + 1 = bX at *) | ((with_reducible refine with9 (p := WE.heap[WD.heap.size + 1 + 1]? = some (.cells #[.int .i64 0, .int .i64 0, .string ⟨#[]⟩] 47)) ?_ ?_); (focus ((repeat (first | (exact HAC.out) | (with_reducible exact HAD.out) | (with_reducible exact HAE.out) | (with_reducible refine alloc_at9 ?_ ; (first | rfl | (simp; done))) | (with_reducible refine alloc_lo9 ?_) | (with_reducible refine drew_lo9 ?_) | (with_reducible refine call_lo9 HCD ?_) | (with_reducible refine call_lo9 HCE ?_) | (with_reducible refine set_lo9 hne ?_))); done)); intro HZ; have hne : bA ≠ WD.heap.size + 1 + 1 := (by have := (Array.getElem?_eq_some_iff.1 HAD.out).1; have := (Array.getElem?_eq_some_iff.1 HAC.out).1; omega); have hle : w.heap.size ≤ WD.heap.size + 1 + 1 := (by have := HBD.out.size; have := HBC.out.size; omega); obtain ⟨⟨v0, v1, v2⟩, vf0, vf1, vf2⟩ := three_all HZ.out; generalize WD.heap.size + 1 + 1 = bX at *) | ((with_reducible refine with9 (p := WE.heap[WD.heap.size + 1 + 1 + 1]? = some (.cells #[.int .i64 0, .int .i64 0, .string ⟨#[]⟩] 47)) ?_ ?_); (focus ((repeat (first | (exact HAC.out) | (with_reducible exact HAD.out) | (with_reducible exact HAE.out) | (with_reducible refine alloc_at9 ?_ ; (first | rfl | (simp; done))) | (with_reducible refine alloc_lo9 ?_) | (with_reducible refine drew_lo9 ?_) | (with_reducible refine call_lo9 HCD ?_) | (with_reducible refine call_lo9 HCE ?_) | (with_reducible refine set_lo9 hne ?_))); done)); intro HZ; have hne : bA ≠ WD.heap.size + 1 + 1 + 1 := (by have := (Array.getElem?_eq_some_iff.1 HAD.out).1; have := (Array.getElem?_eq_some_iff.1 HAC.out).1; omega); have hle : w.heap.size ≤ WD.heap.size + 1 + 1 + 1 := (by have := HBD.out.size; have := HBC.out.size; omega); obtain ⟨⟨v0, v1, v2⟩, vf0, vf1, vf2⟩ := three_all HZ.out; generalize WD.heap.size + 1 + 1 + 1 = bX at *) | ((with_reducible refine with9 (p := WE.heap[WC.heap.size]? = some (.cells #[.int .i64 0, .int .i64 0, .string ⟨#[]⟩] 47)) ?_ ?_); (focus ((repeat (first | (exact HAC.out) | (with_reducible exact HAD.out) | (with_reducible exact HAE.out) | (with_reducible refine alloc_at9 ?_ ; (first | rfl | (simp; done))) | (with_reducible refine alloc_lo9 ?_) | (with_reducible refine drew_lo9 ?_) | (with_reducible refine call_lo9 HCD ?_) | (with_reducible refine call_lo9 HCE ?_) | (with_reducible refine set_lo9 hne ?_))); done)); intro HZ; have hne : bA ≠ WC.heap.size := (by have := (Array.getElem?_eq_some_iff.1 HAD.out).1; have := (Array.getElem?_eq_some_iff.1 HAC.out).1; omega); have hle : w.heap.size ≤ WC.heap.size := (by have := HBD.out.size; have := HBC.out.size; omega); obtain ⟨⟨v0, v1, v2⟩, vf0, vf1, vf2⟩ := three_all HZ.out; generalize WC.heap.size = bX at *) | ((with_reducible refine with9 (p := WE.heap[WC.heap.size + 1]? = some (.cells #[.int .i64 0, .int .i64 0, .string ⟨#[]⟩] 47)) ?_ ?_); (focus ((repeat (first | (exact HAC.out) | (with_reducible exact HAD.out) | (with_reducible exact HAE.out) | (with_reducible refine alloc_at9 ?_ ; (first | rfl | (simp; done))) | (with_reducible refine alloc_lo9 ?_) | (with_reducible refine drew_lo9 ?_) | (with_reducible refine call_lo9 HCD ?_) | (with_reducible refine call_lo9 HCE ?_) | (with_reducible refine set_lo9 hne ?_))); done)); intro HZ; have hne : bA ≠ WC.heap.size + 1 := (by have := (Array.getElem?_eq_some_iff.1 HAD.out).1; have := (Array.getElem?_eq_some_iff.1 HAC.out).1; omega); have hle : w.heap.size ≤ WC.heap.size + 1 := (by have := HBD.out.size; have := HBC.out.size; omega); obtain ⟨⟨v0, v1, v2⟩, vf0, vf1, vf2⟩ := three_all HZ.out; generalize WC.heap.size + 1 = bX at *) | ((with_reducible refine with9 (p := WE.heap[WC.heap.size + 1 + 1]? = some (.cells #[.int .i64 0, .int .i64 0, .string ⟨#[]⟩] 47)) ?_ ?_); (focus ((repeat (first | (exact HAC.out) | (with_reducible exact HAD.out) | (with_reducible exact HAE.out) | (with_reducible refine alloc_at9 ?_ ; (first | rfl | (simp; done))) | (with_reducible refine alloc_lo9 ?_) | (with_reducible refine drew_lo9 ?_) | (with_reducible refine call_lo9 HCD ?_) | (with_reducible refine call_lo9 HCE ?_) | (with_reducible refine set_lo9 hne ?_))); done)); intro HZ; have hne : bA ≠ WC.heap.size + 1 + 1 := (by have := (Array.getElem?_eq_some_iff.1 HAD.out).1; have := (Array.getElem?_eq_some_iff.1 HAC.out).1; omega); have hle : w.heap.size ≤ WC.heap.size + 1 + 1 := (by have := HBD.out.size; have := HBC.out.size; omega); obtain ⟨⟨v0, v1, v2⟩, vf0, vf1, vf2⟩ := three_all HZ.out; generalize WC.heap.size + 1 + 1 = bX at *) | skip))))
    all_goals
      go_wp2
      go_meet
      case rel =>
        first
          | exact ⟨bX, rfl, below_set3 HBE.out hle _ _ _, fun x hx => by obtain rfl := List.mem_singleton.1 hx; exact set3_heap HZ.out _ _ _⟩
          | exact ⟨_, rfl, HBE.out.alloc HBE.out.size _, fun x hx => by obtain rfl := List.mem_singleton.1 hx; exact heap_alloc_new WE _⟩
  case rest =>
    obtain ⟨bX, rfl, KF0⟩ := hcut
    have KF := Lib.hid KF0
    clear KF0 HBC HAC
    go_wp2_with fail
    refine (T1.out _).mono ?_
    rintro r V1 ⟨rfl, hb⟩
    have KG := Lib.hid (KF.out.call hb)
    clear hb KF
    have KH := KG.out.new3 (.cells #[.int .i64 2, .int .i64 0, .string s, .slice none 0 0, .int .i64 4, .int .i64 0, .string ⟨#[110]⟩, .slice none 0 0] 24) (.cells #[.string ⟨#[110]⟩] 9) (.cells #[.int .i64 1, .int .i64 n, .string ⟨#[]⟩] 47)
    have hx := A5.out _ _ _ _ (HL.out _ KH.below) KH.tail.tail.at0 KH.tail.at0 KH.at0
    have HX := Lib.hid hx
    have KI := Lib.hid KH
    clear hx KH
    go_wp2_with fail
    refine HX.out.mono ?_
    rintro r V2 ⟨rfl, hb⟩
    have KJ := Lib.hid ((KI.out.call hb).new (.cells #[.int .i64 3, .int .i64 0, .string y] 47))
    clear hb KI HX
    go_upto_region 12 with fail
    generalize V2.alloc (.cells #[.int .i64 3, .int .i64 0, .string y] 47) = V3 at *
    generalize V2.heap.size = bY at *
    have KL := Lib.hid KJ.out.drew
    have HS : Hid (∀ W, Kept w W ((bY, .cells #[.int .i64 3, .int .i64 0, .string y] 47) :: (V1.heap.size + 1 + 1, (.cells #[.int .i64 1, .int .i64 n, .string ⟨#[]⟩] 47)) :: (V1.heap.size + 1, (.cells #[.string ⟨#[110]⟩] 9)) :: (V1.heap.size, (.cells #[.int .i64 2, .int .i64 0, .string s, .slice none 0 0, .int .i64 4, .int .i64 0, .string ⟨#[110]⟩, .slice none 0 0] 24)) :: (bX, .cells #[.int .i64 3, .int .i64 0, .string s] 47) :: []) →
      ((W.cell? ⟨bX, 0, none⟩ = some (.int .i64 3) ∧ W.cell? ⟨bX, 1, none⟩ = some (.int .i64 0) ∧ W.cell? ⟨bX, 2, none⟩ = some (.string s)) ∧ (W.cell? ⟨bY, 0, none⟩ = some (.int .i64 3) ∧ W.cell? ⟨bY, 1, none⟩ = some (.int .i64 0) ∧ W.cell? ⟨bY, 2, none⟩ = some (.string y)))) := Lib.hid (fun W h => ⟨(three_all h.tail.tail.tail.tail.at0).1, (three_all h.at0).1⟩)
    obtain ⟨⟨x0, x1, x2⟩, y0, y1, y2⟩ := HS.out _ KL.out
    have hpre := HPRE.out
    go_region_held3 (fun w' => ((w'.cell? ⟨bX, 0, none⟩ = some (.int .i64 3) ∧ w'.cell? ⟨bX, 1, none⟩ = some (.int .i64 0) ∧ w'.cell? ⟨bX, 2, none⟩ = some (.string s)) ∧ (w'.cell? ⟨bY, 0, none⟩ = some (.int .i64 3) ∧ w'.cell? ⟨bY, 1, none⟩ = some (.int .i64 0) ∧ w'.cell? ⟨bY, 2, none⟩ = some (.string y)))) (go_keep)
      ((first
        | (go_at_call 35; refine (HAW.out _ KL.out.below).mono ?_; rintro r V4 ⟨rfl, hb⟩; have KL := Lib.hid (KL.out.call hb); have hg := HS.out _ KL.out; obtain ⟨⟨x0, x1, x2⟩, y0, y1, y2⟩ := hg; clear hb)))
    all_goals
      have hbx := KL.out.below
      go_wp2
      go_ret
      exact ⟨rfl, hbx⟩
end Go.Proofs.YtdgcgogeidnmoaaGreatDoor
