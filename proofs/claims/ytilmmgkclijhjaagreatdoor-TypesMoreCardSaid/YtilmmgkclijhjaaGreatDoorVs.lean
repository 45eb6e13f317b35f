/- The walk of parse.sign. The walk of value.quoted. The walks of slices.EqualFunc (over parts), parse.same, parse.Same. -/
import Derived.Test.YtilmmgkclijhjaaGreatDoorVb
import Derived.Test.YtilmmgkclijhjaaGreatDoorPl
import Derived.Test.YtilmmgkclijhjaaGreatDoorVa
import Derived.Lib.QuoteBits
set_option linter.unusedSimpArgs false
set_option linter.unusedVariables false
set_option linter.unusedSectionVars false
namespace Go.Proofs.YtilmmgkclijhjaaGreatDoor
open Go.RowKit Pal
end Go.Proofs.YtilmmgkclijhjaaGreatDoor
namespace Go.Proofs.YtilmmgkclijhjaaGreatDoor
open Go.RowKit Pal
theorem quoteF_end (f : Nat) (l : Bs) (h : l = []) : quoteF f l = [] := by
  subst h
  cases f <;> simp [quoteF]
theorem quoteF_go {f : Nat} {l : Bs} (h : l ≠ []) : quoteF (f + 1) l = quote1 (rn l) ++ quoteF f (l.drop (wd l)) := by
  conv => lhs; unfold quoteF
  rw [if_neg h]
theorem hex_arr (n : Nat) (h : n < (⟨#[48, 49, 50, 51, 52, 53, 54, 55, 56, 57, 97, 98, 99, 100, 101, 102]⟩ : ByteArray).size) : ((⟨#[48, 49, 50, 51, 52, 53, 54, 55, 56, 57, 97, 98, 99, 100, 101, 102]⟩ : ByteArray)[n]'h).toNat = (hexB n).toNat := by
  have : n < 16 := h
  rcases (by omega : n = 0 ∨ n = 1 ∨ n = 2 ∨ n = 3 ∨ n = 4 ∨ n = 5 ∨ n = 6 ∨ n = 7 ∨ n = 8 ∨ n = 9 ∨ n = 10 ∨ n = 11 ∨ n = 12 ∨ n = 13 ∨ n = 14 ∨ n = 15) with rfl | rfl | rfl | rfl | rfl | rfl | rfl | rfl | rfl | rfl | rfl | rfl | rfl | rfl | rfl | rfl <;> rfl
theorem ucells {T e : TypeId} {B b : Nat} {acc : Bs} {x : Nat} {W : World} (h : Lib.IsBuilderF T e B b (Lib.byteCells acc ++ Lib.strCells ⟨#[92, 117, 48, 48]⟩ ++ [Value.int .u8 ((hexB ((x : Int) / 16).toNat).toNat : Int)] ++ [Value.int .u8 ((hexB (x % 16)).toNat : Int)]) W) :
    Lib.IsBuilderF T e B b (Lib.byteCells (acc ++ [92, 117, 48, 48, hexB (x / 16), hexB (x % 16)])) W := by
  have h1 : ((x : Int) / 16).toNat = x / 16 := by omega
  rw [h1] at h
  have hc : Lib.byteCells (acc ++ [92, 117, 48, 48, hexB (x / 16), hexB (x % 16)]) = Lib.byteCells acc ++ Lib.strCells ⟨#[92, 117, 48, 48]⟩ ++ [Value.int .u8 ((hexB (x / 16)).toNat : Int)] ++ [Value.int .u8 ((hexB (x % 16)).toNat : Int)] := by
    rw [Lib.byteCells_append, List.append_assoc, List.append_assoc]
    rfl
  rw [hc]; exact h
theorem qcells {T e : TypeId} {B b : Nat} {acc : Bs} {r : Int} {W : World} (h : Lib.IsBuilderF T e B b (Lib.byteCells acc ++ [Value.int .u8 92] ++ Lib.runeCells r) W) : Lib.IsBuilderF T e B b (Lib.byteCells (acc ++ (92 :: Lib.encodeRune r))) W := by
  have hc : Lib.byteCells acc ++ [Value.int .u8 92] ++ Lib.runeCells r = Lib.byteCells (acc ++ (92 :: Lib.encodeRune r)) := by
    rw [show acc ++ (92 :: Lib.encodeRune r) = (acc ++ [92]) ++ Lib.encodeRune r by simp, ← byteCells_snoc, Lib.byteCells_append]
    rfl
  rw [← hc]; exact h
end Go.Proofs.YtilmmgkclijhjaaGreatDoor
namespace Go.Proofs.YtilmmgkclijhjaaGreatDoor
open Go.RowKit Pal
mutual
/-- The same, part by part. -/
def sameX : Ex → Ex → Bool
  | .mk o n s ks, e => decide (o = e.op) && (decide (n = e.n) && (decide (s = e.s) && sameL ks e.ks))
def sameL : List Ex → List Ex → Bool
  | [], l => l.isEmpty
  | a :: l, m => match m with | [] => false | b :: r => sameX a b && sameL l r
end
theorem sameX_mk (o n : Int) (s : Bs) (ks : List Ex) (e : Ex) : sameX (.mk o n s ks) e = (decide (o = e.op) && (decide (n = e.n) && (decide (s = e.s) && sameL ks e.ks))) := by rw [sameX]
theorem sameL_nil (l : List Ex) : sameL [] l = l.isEmpty := by rw [sameL]
theorem sameL_cons (a b : Ex) (l r : List Ex) : sameL (a :: l) (b :: r) = (sameX a b && sameL l r) := by rw [sameL]
theorem sameX_iff (e : Ex) : ∀ e', sameX e e' = true ↔ e = e' := by
  refine Ex.ind (P := fun e => ∀ e', sameX e e' = true ↔ e = e') ?_ e
  intro o n s ks ih e'
  have go : ∀ (l : List Ex), (∀ k ∈ l, k ∈ ks) → ∀ m, sameL l m = true ↔ l = m := by
    intro l
    induction l with
    | nil => intro _ m; rw [sameL_nil]; cases m <;> simp
    | cons a l ihl =>
      intro hm m
      cases m with
      | nil => simp [sameL]
      | cons b r =>
        rw [sameL_cons, Bool.and_eq_true, ih a (hm a (by simp)), ihl (fun k hk => hm k (by simp [hk]))]
        simp
  cases e' with
  | mk o' n' s' ks' =>
    rw [sameX_mk]
    simp only [Ex.op, Ex.n, Ex.s, Ex.ks, Bool.and_eq_true, Ex.mk.injEq]
    rw [go ks (fun _ h => h) ks']
    exact ⟨fun h => ⟨of_decide_eq_true h.1, of_decide_eq_true h.2.1, of_decide_eq_true h.2.2.1, h.2.2.2⟩, fun h => ⟨decide_eq_true h.1, decide_eq_true h.2.1, decide_eq_true h.2.2.1, h.2.2.2⟩⟩
theorem sameL_len {l m : List Ex} (h : l.length ≠ m.length) : sameL l m = false := by
  induction l generalizing m with
  | nil => rw [sameL_nil]; cases m with | nil => simp at h | cons a b => rfl
  | cons a l ih =>
    cases m with
    | nil => rw [sameL]
    | cons b r => rw [sameL_cons, ih (by simpa using h), Bool.and_false]
def boolPost (b : Bool) (w : World) (e : Ending) (w' : World) : Prop := e = .returned (.bool b) ∧ Below w.heap.size w w'
end Go.Proofs.YtilmmgkclijhjaaGreatDoor
