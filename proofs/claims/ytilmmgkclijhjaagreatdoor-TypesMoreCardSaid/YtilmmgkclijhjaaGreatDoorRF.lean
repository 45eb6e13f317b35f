/- The document's lexer in memory; the walks of its class, here. Condition: the text is no longer than any may be. -/
import Derived.Test.YtilmmgkclijhjaaGreatDoorRD
import Derived.RegionTactic
import Derived.ChangeAlike
import Derived.Deep.QuietTactic
import Derived.BigQuiet
set_option linter.unusedSimpArgs false
set_option linter.unusedVariables false
set_option linter.unusedSectionVars false
namespace Go.Proofs.YtilmmgkclijhjaaGreatDoor
open Go.RowKit Pal
/-- The lexer: its text, the pieces, which one is next (it begins at byte p). -/
structure LSt (W : World) (B : Nat) (s : Bs) (pv : Value) (k p : Nat) : Prop where
  cell : W.heap[B]? = some (.cells #[.string ⟨s.toArray⟩, pv, .int .i64 k] 91 (0, 0))
  at' : AtP s k p
theorem LSt.cells {W : World} {B : Nat} {s : Bs} {pv : Value} {k p : Nat} (h : LSt W B s pv k p) :
    W.cell? ⟨B, 0, none⟩ = some (.string ⟨s.toArray⟩) ∧ W.cell? ⟨B, 1, none⟩ = some pv ∧ W.cell? ⟨B, 2, none⟩ = some (.int .i64 k) ∧ W.frozen? ⟨B, 2, none⟩ = false ∧ B < W.heap.size := by
  have h := h.cell
  exact ⟨by simp [World.cell?, h], by simp [World.cell?, h], by simp [World.cell?, h], by simp [World.frozen?, h], (Array.getElem?_eq_some_iff.1 h).1⟩
theorem LSt.keep {W W' : World} {B : Nat} {s : Bs} {pv : Value} {k p : Nat} (h : LSt W B s pv k p) (hb : Below W.heap.size W W') : LSt W' B s pv k p :=
  ⟨by rw [hb.block _ (Array.getElem?_eq_some_iff.1 h.cell).1]; exact h.cell, h.at'⟩
theorem LSt.set {W : World} {B : Nat} {s : Bs} {pv : Value} {k p : Nat} (h : LSt W B s pv k p) (x : Int) {k' p' : Nat} (e : x = k') (ha : AtP s k' p') : LSt (W.setCell ⟨B, 2, none⟩ (.int .i64 x)) B s pv k' p' := by
  subst e
  refine ⟨?_, ha⟩
  have := h.cell
  simp [World.setCell, Array.getElem?_modify, this]
theorem LSt.other {W : World} {B : Nat} {s : Bs} {pv : Value} {k p : Nat} (h : LSt W B s pv k p) {a : Addr} (ha : a.block ≠ B) (v : Value) : LSt (W.setCell a v) B s pv k p :=
  ⟨by rw [Below.heap_setCell _ _ _ _ (fun e => ha e.symm)]; exact h.cell, h.at'⟩
theorem LSt.alloc {W : World} {B : Nat} {s : Bs} {pv : Value} {k p : Nat} (h : LSt W B s pv k p) (o : Obj) : LSt (W.alloc o) B s pv k p := h.keep ((Below.refl _ _).alloc (Nat.le_refl _) _)
/-- A token that is being made. -/
def TkB (W : World) (b : Nat) (kd : Int) (ts : Bs) (n : Int) (p : Nat) : Prop := W.heap[b]? = some (.cells #[.int .i64 kd, .string ⟨ts.toArray⟩, .int .i64 n, .int .i64 p] 59 (0, 0))
theorem TkB.cells {W : World} {b : Nat} {kd : Int} {ts : Bs} {n : Int} {p : Nat} (h : TkB W b kd ts n p) :
    (W.cell? ⟨b, 0, none⟩ = some (.int .i64 kd) ∧ W.cell? ⟨b, 1, none⟩ = some (.string ⟨ts.toArray⟩) ∧ W.cell? ⟨b, 2, none⟩ = some (.int .i64 n) ∧ W.cell? ⟨b, 3, none⟩ = some (.int .i64 p)) ∧ W.frozen? ⟨b, 1, none⟩ = false ∧ W.frozen? ⟨b, 2, none⟩ = false ∧ b < W.heap.size := by
  unfold TkB at h
  exact ⟨⟨by simp [World.cell?, h], by simp [World.cell?, h], by simp [World.cell?, h], by simp [World.cell?, h]⟩, by simp [World.frozen?, h], by simp [World.frozen?, h], (Array.getElem?_eq_some_iff.1 h).1⟩
theorem TkB.keep {W W' : World} {b : Nat} {kd : Int} {ts : Bs} {n : Int} {p : Nat} (h : TkB W b kd ts n p) (hb : Below W.heap.size W W') : TkB W' b kd ts n p := by
  unfold TkB at *
  rw [hb.block _ (Array.getElem?_eq_some_iff.1 h).1]; exact h
theorem TkB.but {W W' : World} {B b : Nat} {kd : Int} {ts : Bs} {n : Int} {p : Nat} (h : TkB W b kd ts n p) (hb : But B W W') (hne : b ≠ B) : TkB W' b kd ts n p := by
  unfold TkB at *
  rw [hb.block _ (Array.getElem?_eq_some_iff.1 h).1 hne]; exact h
theorem TkB.other {W : World} {b : Nat} {kd : Int} {ts : Bs} {n : Int} {p : Nat} (h : TkB W b kd ts n p) {a : Addr} (ha : a.block ≠ b) (v : Value) : TkB (W.setCell a v) b kd ts n p := by
  unfold TkB at *
  rw [Below.heap_setCell _ _ _ _ (fun e => ha e.symm)]; exact h
theorem TkB.setN {W : World} {b : Nat} {kd : Int} {ts : Bs} {n : Int} {p : Nat} (h : TkB W b kd ts n p) (m : Int) : TkB (W.setCell ⟨b, 2, none⟩ (.int .i64 m)) b kd ts m p := by
  unfold TkB at *
  simp [World.setCell, Array.getElem?_modify, h]
theorem TkB.setS {W : World} {b : Nat} {kd : Int} {ts : Bs} {n : Int} {p : Nat} (h : TkB W b kd ts n p) (us : Bs) : TkB (W.setCell ⟨b, 1, none⟩ (.string ⟨us.toArray⟩)) b kd us n p := by
  unfold TkB at *
  simp [World.setCell, Array.getElem?_modify, h]
def clsAt (s : Bs) (p : Nat) : Int := if p < s.length then cls (rn (s.drop p)) else -1
theorem clsAt_in {s : Bs} {p : Nat} (h : p < s.length) : clsAt s p = cls (rn (s.drop p)) := if_pos h
theorem clsAt_out {s : Bs} {p : Nat} (h : ¬ p < s.length) : clsAt s p = -1 := if_neg h
theorem clsAt_nn {s : Bs} {p : Nat} {c : Int} (h : clsAt s p = c) (hc : 0 ≤ c) : p < s.length ∧ cls (rn (s.drop p)) = c := by
  unfold clsAt at h
  split at h
  · exact ⟨by assumption, h⟩
  · omega
set_option maxRecDepth 1000000 in
set_option maxHeartbeats 1000000 in
theorem lclass_any (s : Bs) (B k p : Nat) (pv : Value) (w : World) (hs : s.length ≤ 1000000) (h : LSt w B s pv k p) (hP : PsV (gb B w) pv s) :
    Calls Tryz.prog 51 #[.pointer (some ⟨B, 0, none⟩)] w fun e w' => e = .returned (.int .i64 (clsAt s p)) ∧ Below w.heap.size w w' := by
  obtain ⟨c0, c1, c2, -, -⟩ := h.cells
  obtain ⟨a, cap, rfl⟩ := hP.form
  have hlt' := h.at'.lt
  have hcl := cnt_le s
  have hPg : PsV (gh w) (.slice a (cnt s) cap) s := hP.mono (gb_gh B w)
  by_cases hp : p < s.length
  · have hk : k < cnt s := hlt'.2 hp
    obtain ⟨b, off, rfl, d0, d1, d2, d3⟩ := hPg.at h.at' hp
    have HE := Lib.hid (clsAt_in hp)
    have hbc := badB_cls (l := s.drop p)
    have hrr := rn_range (s.drop p)
    generalize rn (s.drop p) = r at *
    generalize cnt s = n at *
    have hkn : k ≤ 1000000 := by omega
    have HCL := Lib.hid (fun w => class01_any r w (by omega))
    clear h hP hlt' hPg hp d0 d1 c0
    cases hbd : badB (s.drop p) with
    | true =>
      have HZ : Hid (clsAt s p = 0) := Lib.hid (by rw [HE.out]; exact hbc hbd)
      rw [hbd] at d3
      clear hbc hbd HE
      go_enter Tryz.func51, Tryz.ntmps51
      go_wp2
      go_region
      go_wp2
      go_region
      go_wp2
      go_ret
      exact ⟨by rw [HZ.out]; rfl, (Below.refl _ _).drew.drew⟩
    | false =>
      rw [hbd] at d3
      clear hbc hbd
      go_enter Tryz.func51, Tryz.ntmps51
      go_wp2
      go_region
      go_wp2
      go_region
      go_wp2
      go_quiet ((go_at_call 70; exact (HCL.out _).mono fun _ _ ⟨he, hw⟩ => ⟨he, _, hw⟩))
      go_wp2
      go_ret
      exact ⟨by rw [HE.out]; rfl, below_drewN ((Below.refl _ _).drew.drew) _⟩
  · have hk : ¬ k < cnt s := fun x => hp (hlt'.1 x)
    have HZ := Lib.hid (clsAt_out hp)
    generalize cnt s = n at *
    clear h hP hlt' hPg hp c0
    go_enter Tryz.func51, Tryz.ntmps51
    go_wp2
    go_region
    go_wp2
    go_ret
    exact ⟨by rw [HZ.out]; rfl, (Below.refl _ _).drew⟩
set_option maxRecDepth 1000000 in
set_option maxHeartbeats 1000000 in
theorem lhere_any (s : Bs) (B k p : Nat) (pv : Value) (w : World) (hs : s.length ≤ 1000000) (h : LSt w B s pv k p) (hP : PsV (gb B w) pv s) :
    Calls Tryz.prog 71 #[.pointer (some ⟨B, 0, none⟩)] w fun e w' => e = .returned (.int .i64 p) ∧ Below w.heap.size w w' := by
  obtain ⟨c0, c1, c2, -, -⟩ := h.cells
  obtain ⟨a, cap, rfl⟩ := hP.form
  have hlt' := h.at'.lt
  have hcl := cnt_le s
  have hle := h.at'.le
  have hPg : PsV (gh w) (.slice a (cnt s) cap) s := hP.mono (gb_gh B w)
  by_cases hp : p < s.length
  · have hk : k < cnt s := hlt'.2 hp
    obtain ⟨b, off, rfl, d0, d1, d2, d3⟩ := hPg.at h.at' hp
    generalize cnt s = n at *
    have hkn : k ≤ 1000000 := by omega
    clear h hP hlt' hPg hp d1 d2 d3 hle
    go_enter Tryz.func71, Tryz.ntmps71
    go_wp2
    go_region
    go_wp2
    go_region
    go_wp2
    go_ret
    exact ⟨rfl, (Below.refl _ _).drew.drew⟩
  · have hk : ¬ k < cnt s := fun x => hp (hlt'.1 x)
    have HE : Hid (s.length = p) := Lib.hid (by omega)
    generalize cnt s = n at *
    clear h hP hlt' hPg hp hle
    go_enter Tryz.func71, Tryz.ntmps71
    go_wp2
    go_region
    go_wp2
    go_ret
    refine ⟨?_, (Below.refl _ _).drew⟩
    have := HE.out
    simp [ByteArray.size, this]
end Go.Proofs.YtilmmgkclijhjaaGreatDoor
