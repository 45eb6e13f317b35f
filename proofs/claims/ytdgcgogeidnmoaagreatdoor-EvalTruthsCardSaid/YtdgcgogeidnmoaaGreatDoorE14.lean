/- The walk of eval.Eval: it comes to what the plain law says. Conditions: the expression's texts, the values' texts are no longer than any may be; the tables hold what they are laid with. -/
import Derived.Test.YtdgcgogeidnmoaaGreatDoorE13
set_option linter.unusedSimpArgs false
set_option linter.unusedVariables false
set_option linter.unusedSectionVars false
namespace Go.Proofs.YtdgcgogeidnmoaaGreatDoor
open Go.RowKit Pal
def valPost (v : Val) (w : World) (e : Ending) (w' : World) : Prop := e = .returned (valV v) ∧ Below w.heap.size w w'
theorem set3_size {W : World} {B : Nat} (y0 y1 y2 : Value) : (((W.setCell ⟨B, 0, none⟩ y0).setCell ⟨B, 1, none⟩ y1).setCell ⟨B, 2, none⟩ y2).heap.size = W.heap.size := by simp [World.setCell]
set_option maxRecDepth 1000000 in
set_option maxHeartbeats 8000000 in
theorem Eval_any (e : Ex) (names : List Bs) (vals : List Val) (v nv vv : Value) (w : World) (hF : Fine e) (hV : VFine vals) (hL : Lay (gh w)) (hE : EV (gh w) v e) (hN : StrsV (gh w) nv names) (hA : ValsV (gh w) vv vals) :
    Calls Tryz.prog 36 #[v, nv, vv] w (valPost (evalM e names vals) w) := by
  obtain ⟨kv, rfl, hK⟩ := hE
  obtain ⟨a, cap, rfl⟩ := hK.form
  obtain ⟨na, nc, rfl⟩ := hN.form
  obtain ⟨va, vc, rfl, -⟩ := hA.form
  have hb0 := ((Below.refl w.heap.size w).alloc (Nat.le_refl _) (.cells #[.int .i64 e.op, .int .i64 e.n, .string ⟨e.s.toArray⟩, .slice a e.ks.length cap] 24)).alloc (by simp) (.cells #[.int .i64 0, .int .i64 0, .string ⟨#[]⟩] 47)
  have hz0 : ((w.alloc (.cells #[.int .i64 e.op, .int .i64 e.n, .string ⟨e.s.toArray⟩, .slice a e.ks.length cap] 24)).alloc (.cells #[.int .i64 0, .int .i64 0, .string ⟨#[]⟩] 47)).heap[w.heap.size + 1]? = some (.cells #[.int .i64 0, .int .i64 0, .string ⟨#[]⟩] 47 (0, 0)) := by
    have := heap_alloc_new (w.alloc (.cells #[.int .i64 e.op, .int .i64 e.n, .string ⟨e.s.toArray⟩, .slice a e.ks.length cap] 24)) (.cells #[.int .i64 0, .int .i64 0, .string ⟨#[]⟩] 47)
    simpa using this
  have hx0 : ((w.alloc (.cells #[.int .i64 e.op, .int .i64 e.n, .string ⟨e.s.toArray⟩, .slice a e.ks.length cap] 24)).alloc (.cells #[.int .i64 0, .int .i64 0, .string ⟨#[]⟩] 47)).heap[w.heap.size]? = some (.cells #[.int .i64 e.op, .int .i64 e.n, .string ⟨e.s.toArray⟩, .slice a e.ks.length cap] 24 (0, 0)) := by
    rw [Lib.alloc_old _ _ _ (by simp)]; exact heap_alloc_new w _
  have hck := parseCheck_any e (exV e.op e.n e.s (.slice a e.ks.length cap)) _ hF (hL.below hb0) ⟨_, rfl, hK.keep hb0⟩
  have hev : ∀ W, Below w.heap.size w W → check e = true → ∀ p, W.heap[p]? = some (.cells #[.slice na names.length nc, .slice va vals.length vc] 90 (0, 0)) →
      Calls Tryz.prog 66 #[.pointer (some ⟨p, 0, none⟩), exV e.op e.n e.s (.slice a e.ks.length cap)] W (boxPost (ev (look names vals) e) W) := fun W hb hc p hp =>
    eval_all names vals e (check_good hF hc) _ W p ⟨hL.below hb, hV, _, _, hp, hN.mono (below_gh hb), hA.mono (below_gh hb)⟩ (hK.keep hb)
  have hvo : check e = true → VOk (ev (look names vals) e) := fun hc => ev_ok (fun s => look_ok names vals s (fun v hv => (hV v hv).1)) e (check_good hF hc)
  have hevm : evalM e names vals = if check e = true then ev (look names vals) e else vNil := rfl
  have HEM := Lib.hid hevm
  have HVO := Lib.hid hvo
  have HEV := Lib.hid hev
  have HCK := Lib.hid hck
  have HB0 := Lib.hid hb0
  have HZ0 := Lib.hid hz0
  have HX0 := Lib.hid hx0
  have HL := Lib.hid hL
  clear hck hev hvo hevm hb0 hz0 hx0 hL hF hV hK hN hA
  unfold exV strV at *
  cases hc : check e with
  | false =>
    have HM : Hid (evalM e names vals = vNil) := Lib.hid (by rw [HEM.out, hc]; rfl)
    rw [hc] at HCK
    clear HEM HVO HEV hc
    go_enter Tryz.func36, Tryz.ntmps36
    go_wp2_with fail
    refine HCK.out.mono ?_
    rintro r W ⟨rfl, hb⟩
    have hbW := HB0.out.seq hb
    have hzW := (hb.block _ (by simp)).trans HZ0.out
    obtain ⟨⟨c0, c1, c2⟩, f0, f1, f2⟩ := three_all hzW
    have HZ := Lib.hid hzW
    have HB := Lib.hid hbW
    clear hb hbW hzW HB0 HZ0 HX0 HCK
    go_wp2
    have hh := three_all (set3_heap HZ.out (.int .i64 0) (.int .i64 0) (.string ⟨#[]⟩))
    refine bodyPost_ret (v := valV vNil) (by simp [results, Tryz.results36, go_sem, valV, strV, vNil, hh.1]) rfl ⟨by rw [HM.out], below_set3 HB.out (by omega) _ _ _⟩
  | true =>
    have hvv := HVO.out hc
    have HM : Hid (evalM e names vals = ev (look names vals) e) := Lib.hid (by rw [HEM.out, hc]; rfl)
    have HEV2 := Lib.hid (fun W hb => HEV.out W hb hc)
    rw [hc] at HCK
    generalize ev (look names vals) e = x at *
    have hub := fun w hL => unbox_any hvv w hL
    unfold unboxPost valV strV at hub
    have HUB := Lib.hid hub
    clear HEM HVO HEV hc hub hvv
    unfold boxPost at HEV2
    generalize boxV x = bx at *
    go_enter Tryz.func36, Tryz.ntmps36
    go_wp2_with fail
    refine HCK.out.mono ?_
    rintro r W ⟨rfl, hb⟩
    have hbW := HB0.out.seq hb
    have hzW := (hb.block _ (by simp)).trans HZ0.out
    have hxW := (hb.block _ (by simp; omega)).trans HX0.out
    have hlt : w.heap.size + 1 < W.heap.size := (Array.getElem?_eq_some_iff.1 hzW).1
    obtain ⟨d0, d1, d2, d3⟩ := four_cells hxW
    obtain ⟨⟨m0, m1, m2, m3⟩, -⟩ := four_new hxW
    have hbA := hbW.alloc hbW.size (.cells #[.slice na names.length nc, .slice va vals.length vc] 90)
    have hev := HEV2.out _ hbA W.heap.size (heap_alloc_new W _)
    have hbn : Below W.heap.size W (W.alloc (.cells #[.slice na names.length nc, .slice va vals.length vc] 90)) := (Below.refl _ _).alloc (Nat.le_refl _) _
    have hzA := (hbn.block _ hlt).trans hzW
    have HZA := Lib.hid hzA
    have HEA := Lib.hid hev
    have HBA := Lib.hid hbA
    clear hb hbW hzW hxW HB0 HZ0 HX0 HCK HEV2 hbA hev hbn hzA
    go_wp2_with fail
    refine HEA.out.mono ?_
    rintro r W2 ⟨rfl, hb2⟩
    have hbB := HBA.out.seq hb2
    have hzB := (hb2.block _ (by simp; omega)).trans HZA.out
    have HZB := Lib.hid hzB
    have HBB := Lib.hid hbB
    clear hb2 hbB hzB HEA HBA HZA
    go_wp2_with fail
    refine (HUB.out _ (HL.out.below HBB.out)).mono ?_
    rintro r W3 ⟨rfl, hb3⟩
    have hbC := HBB.out.seq hb3
    have hltB : w.heap.size + 1 < W2.heap.size := (Array.getElem?_eq_some_iff.1 HZB.out).1
    have hzC := (hb3.block _ hltB).trans HZB.out
    have hltC : w.heap.size + 1 < W3.heap.size := (Array.getElem?_eq_some_iff.1 hzC).1
    obtain ⟨⟨c0, c1, c2⟩, f0, f1, f2⟩ := three_all hzC
    have HZC := Lib.hid hzC
    have HBC := Lib.hid hbC
    have HLC := Lib.hid hltC
    clear hb3 hbC hzC HZB HBB HUB hlt hltB d0 d1 d2 d3
    go_wp2
    have hzD := (Lib.alloc_old (((W3.setCell ⟨w.heap.size + 1, 0, none⟩ (.int .i64 x.k)).setCell ⟨w.heap.size + 1, 1, none⟩ (.int .i64 x.n)).setCell ⟨w.heap.size + 1, 2, none⟩ (.string ⟨x.s.toArray⟩)) (.cells #[.int .i64 x.k, .int .i64 x.n, .string ⟨x.s.toArray⟩] 47) (w.heap.size + 1) (by rw [set3_size]; exact HLC.out)).trans (set3_heap HZC.out (.int .i64 x.k) (.int .i64 x.n) (.string ⟨x.s.toArray⟩))
    have hh := three_all hzD
    have hbD := below_set3 HBC.out (show w.heap.size ≤ w.heap.size + 1 by omega) (.int .i64 x.k) (.int .i64 x.n) (.string ⟨x.s.toArray⟩)
    refine bodyPost_ret (v := valV x) (by simp [results, Tryz.results36, go_sem, valV, strV, hh.1]) rfl ⟨by rw [HM.out], hbD.alloc hbD.size _⟩
end Go.Proofs.YtdgcgogeidnmoaaGreatDoor
