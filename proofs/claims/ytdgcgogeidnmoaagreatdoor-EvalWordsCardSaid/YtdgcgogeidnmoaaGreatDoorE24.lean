/- What EvalWords asks of Eval. Conditions: the texts may be; the tables hold what they are laid with. -/
import Derived.Test.YtdgcgogeidnmoaaGreatDoorE22
import Derived.Test.YtdgcgogeidnmoaaGreatDoorE23
set_option linter.unusedSimpArgs false
set_option linter.unusedVariables false
set_option linter.unusedSectionVars false
namespace Go.Proofs.YtdgcgogeidnmoaaGreatDoor
open Go.RowKit Pal
theorem StrsV_nil9 (h : GH) : StrsV h (.slice none 0 0) [] := ⟨none, 0, rfl, fun _ => rfl, by simp, by simp [maxLen], fun j x hx => by simp at hx⟩
theorem strX_fine {s : Bs} (h : textOk s = true) : Fine (strX s) := .mk _ _ _ _ (by decide) (by decide) (by have := (textOk_iff h).1; omega) (fun k hk => by cases hk)
def evPost (v : Val) (B : Nat) (w : World) (e : Ending) (w' : World) : Prop := e = .returned (.agg #[.int .i64 v.k, .int .i64 v.n, .string ⟨v.s.toArray⟩]) ∧ Below B w w'
theorem ask_len {s : Bs} (hs : textOk s = true) (W : World) (hL : Lay (gh W)) :
    Calls Tryz.prog 36 #[.agg #[.int .i64 19, .int .i64 0, .string ⟨#[]⟩, .slice (some ⟨W.heap.size, 0, none⟩) 1 1], .slice none 0 0, .slice none 0 0] (W.alloc (.cells #[.int .i64 2, .int .i64 0, .string ⟨s.toArray⟩, .slice none 0 0] 24)) (evPost (vInt (cnt s)) W.heap.size W) := by
  have hb0 := (Below.refl W.heap.size W).alloc (Nat.le_refl _) (.cells #[.int .i64 2, .int .i64 0, .string ⟨s.toArray⟩, .slice none 0 0] 24)
  have hkv := KV.one (h := gh (W.alloc (.cells #[.int .i64 2, .int .i64 0, .string ⟨s.toArray⟩, .slice none 0 0] 24))) (a := strX s) (heap_alloc_new W _) (KV.nil _)
  have hf : Fine (lenX s) := .mk _ _ _ _ (by decide) (by decide) (by decide) (fun k hk => by obtain rfl := List.mem_singleton.1 hk; exact strX_fine hs)
  have hev := Eval_any (lenX s) [] [] _ _ _ _ hf (fun v hv => by cases hv) (hL.below hb0) ⟨_, rfl, hkv⟩ (StrsV_nil9 _) (ValsV_nil _)
  rw [ev_lenX hs] at hev
  refine hev.mono ?_
  rintro e w' ⟨rfl, hb⟩
  exact ⟨rfl, hb0.seq hb⟩
theorem ask_cat {s t : Bs} (hs : textOk s = true) (ht : textOk t = true) (W : World) (hL : Lay (gh W)) :
    Calls Tryz.prog 36 #[.agg #[.int .i64 20, .int .i64 0, .string ⟨#[]⟩, .slice (some ⟨W.heap.size, 0, none⟩) 2 2], .slice none 0 0, .slice none 0 0] (W.alloc (.cells #[.int .i64 2, .int .i64 0, .string ⟨s.toArray⟩, .slice none 0 0, .int .i64 2, .int .i64 0, .string ⟨t.toArray⟩, .slice none 0 0] 24)) (evPost (longM (s ++ t)) W.heap.size W) := by
  have hb0 := (Below.refl W.heap.size W).alloc (Nat.le_refl _) (.cells #[.int .i64 2, .int .i64 0, .string ⟨s.toArray⟩, .slice none 0 0, .int .i64 2, .int .i64 0, .string ⟨t.toArray⟩, .slice none 0 0] 24)
  have hkv := KV.two (h := gh (W.alloc (.cells #[.int .i64 2, .int .i64 0, .string ⟨s.toArray⟩, .slice none 0 0, .int .i64 2, .int .i64 0, .string ⟨t.toArray⟩, .slice none 0 0] 24))) (a := strX s) (c := strX t) (heap_alloc_new W _) (KV.nil _) (KV.nil _)
  have hf : Fine (catX s t) := .mk _ _ _ _ (by decide) (by decide) (by decide) (fun k hk => by
    rcases List.mem_cons.1 hk with rfl | hk
    · exact strX_fine hs
    · obtain rfl := List.mem_singleton.1 hk; exact strX_fine ht)
  have hev := Eval_any (catX s t) [] [] _ _ _ _ hf (fun v hv => by cases hv) (hL.below hb0) ⟨_, rfl, hkv⟩ (StrsV_nil9 _) (ValsV_nil _)
  rw [ev_catX hs ht] at hev
  refine hev.mono ?_
  rintro e w' ⟨rfl, hb⟩
  exact ⟨rfl, hb0.seq hb⟩
theorem ask_cut {s : Bs} (hs : textOk s = true) (m : Int) (hm : -9223372036854775808 ≤ m ∧ m ≤ 9223372036854775807) (W : World) (kb nb vb : Nat) (hL : Lay (gh W))
    (hk : W.heap[kb]? = some (.cells #[.int .i64 2, .int .i64 0, .string ⟨s.toArray⟩, .slice none 0 0, .int .i64 4, .int .i64 0, .string ⟨#[110]⟩, .slice none 0 0] 24 (0, 0)))
    (hn : W.heap[nb]? = some (.cells #[.string ⟨#[110]⟩] 9 (0, 0))) (hv : W.heap[vb]? = some (.cells #[.int .i64 1, .int .i64 m, .string ⟨#[]⟩] 47 (0, 0))) :
    Calls Tryz.prog 36 #[.agg #[.int .i64 21, .int .i64 0, .string ⟨#[]⟩, .slice (some ⟨kb, 0, none⟩) 2 2], .slice (some ⟨nb, 0, none⟩) 1 1, .slice (some ⟨vb, 0, none⟩) 1 1] W (evPost (vText (takeP m.toNat s)) W.heap.size W) := by
  have hkv := KV.two (h := gh W) (a := strX s) (c := .mk 4 0 [110] []) hk (KV.nil _) (KV.nil _)
  have hf : Fine (cutX s) := .mk _ _ _ _ (by decide) (by decide) (by decide) (fun k hk => by
    rcases List.mem_cons.1 hk with rfl | hk
    · exact strX_fine hs
    · obtain rfl := List.mem_singleton.1 hk; exact .mk _ _ _ _ (by decide) (by decide) (by decide) (fun k hk => by cases hk))
  have hsv := StrsV.lay (w := W) [[110]] 9 hn (by simp [maxLen])
  have hvv := ValsV.one (w := W) (x := vInt m) hv
  have hev := Eval_any (cutX s) [[110]] [vInt m] _ _ _ _ hf (fun v hv => by obtain rfl := List.mem_singleton.1 hv; exact ⟨hm, by simp [vInt]⟩) hL ⟨_, rfl, hkv⟩ hsv hvv
  rw [ev_cutX hs] at hev
  exact hev
end Go.Proofs.YtdgcgogeidnmoaaGreatDoor
