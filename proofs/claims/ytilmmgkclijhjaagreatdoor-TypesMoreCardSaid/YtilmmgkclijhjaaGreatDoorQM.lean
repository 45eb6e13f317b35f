/- The walk of palaverlaw08.TypesMore. Conditions: the tables hold what they are laid with; the arguments read as data. -/
import Derived.Test.YtilmmgkclijhjaaGreatDoorNM
import Derived.Test.YtilmmgkclijhjaaGreatDoorG9
import Derived.Test.YtilmmgkclijhjaaGreatDoorR1
import Derived.Test.YtilmmgkclijhjaaGreatDoorPx
import Derived.Deep.RegionHeld3
import Derived.Deep.RegionLaw
import Derived.Deep.RegionHeldLaw
import Derived.Deep.DrawnRows
import Derived.Deep.CutRange
set_option linter.unusedSimpArgs false
set_option linter.unusedVariables false
set_option linter.unusedSectionVars false
namespace Go.Proofs.YtilmmgkclijhjaaGreatDoor
open Go.RowKit Pal
attribute [local go_sem ↓] Go.wp_at_zero Go.wp_at_succ
/-- append of cells that lie somewhere, as one step of a region that draws. -/
theorem step_append_src {P : Program} {t : Tag} {w : World} {ops : Array Oper} {o : Oper} {a : Act} {K : Act → World → Prop} {Q : Exit → Act → World → Prop} {E : Prop} (hgd : o.guard = none) (s x : Operand) (st : TypeId)
    (ho : o.op = .call { callee := .builtin .append, args := #[s, x], argTypes := #[st, st] })
    (e : TypeId) (i : TypeInfo) (z : Value) (size bytes : Nat) (ht : P.underlying st = some (.slice e)) (hi : P.info? e = some i) (hz : i.zero = some z)
    (hsize : i.size = size) (hby : i.bytes = bytes) (hzs : z.cells.size = size) (hsz : 0 < size)
    {k : Nat} {v : Value} {n : Nat} {xs : List Value} (hs : a.eval s = v) (hown : Row t k w e size v n xs)
    (ad : Option Addr) (m c : Nat) (news : List Value) (hx : a.eval x = .slice ad m c) (hnil : ad = none → m = 0 ∧ c = 0) (hl : news.length = m * size) (hnews : ∀ j u, news[j]? = some u → ∃ A, ad = some A ∧ w.cell? (A.add j) = some u) (h1 : ∀ u ∈ news, u.oneCell' = true)
    (h63 : n + m ≤ maxLen) (hbytes : (n + m) * bytes ≤ 140737488355328)
    (h : ∀ v' t' w', Row t' k w' e size v' (n + m) (xs ++ news) → Evo t w t' w' (· = k) → K (a.put o.dst v') w') :
    if Region.wanted o (yielded ops a.tmps) = true then Oper.wp P o a w K Q else E := by
  have hw : Region.wanted o (yielded ops a.tmps) = true := by simp [Region.wanted, hgd]
  rw [if_pos hw]
  cases ad with
  | none =>
    obtain ⟨rfl, rfl⟩ := hnil rfl
    have hn : news = [] := List.eq_nil_of_length_eq_zero (by simpa using hl)
    subst hn
    have hrun := run_append_owned_none (P := P) (w := w) 0 st o.type e i size ht hi v n xs hown.own
    have hK := h v t w (by simpa using hown) (Evo.refl _ _ _)
    unfold Oper.wp
    simp [execOp, ho, resolve, invoke, builtin, hs, hx, hrun, Result.andThen]
    exact hK
  | some A =>
    obtain ⟨v', t', w', hrun, hr, he, _⟩ := run_append_row (P := P) o.type st e i z size bytes ht hi hz hsize hby hzs hsz hown A m c news hl (fun j u hj => by obtain ⟨A', hA, hc⟩ := hnews j u hj; cases hA; exact hc) h1 h63 hbytes
    have hK := h v' t' w' hr he
    unfold Oper.wp
    simp [execOp, ho, resolve, invoke, builtin, hs, hx, hrun, Result.andThen]
    exact hK
/-- What a region makes on its way: a row of texts, a row of numbers, their sources. -/
structure Pk (mo : ByteArray) (tt : Int) (W V : World) (tau : Tag) (oa ob : Option (Value × Nat × List Value)) (oc od : Option Nat) : Prop where
  ev : Evo T0 W tau V (· ≠ 0)
  ra : ∀ x, oa = some x → Row tau 1 V 9 1 x.1 x.2.1 x.2.2
  rb : ∀ x, ob = some x → Row tau 2 V 3 1 x.1 x.2.1 x.2.2
  sc : ∀ g, oc = some g → V.heap[g]? = some (.cells #[.string mo] 9 (0, 0)) ∧ tau g = 3
  sd : ∀ g, od = some g → V.heap[g]? = some (.cells #[.int .i64 tt] 3 (0, 0)) ∧ tau g = 3
section
variable {mo : ByteArray} {tt : Int} {W V V' : World} {tau t' : Tag} {oa ob : Option (Value × Nat × List Value)} {oc od : Option Nat} {v v' : Value} {n n' : Nat} {xs xs' : List Value}
theorem Pk.start (mo : ByteArray) (tt : Int) (W : World) : Pk mo tt W W T0 none none none none := ⟨Evo.refl _ _ _, (fun _ h => by cases h), (fun _ h => by cases h), (fun _ h => by cases h), (fun _ h => by cases h)⟩
theorem Pk.evo {K : Nat → Prop} (h : Pk mo tt W V tau oa ob oc od) (he : Evo tau V t' V' K) (h0 : ¬ K 0) (h1 : ¬ K 1) (h2 : ¬ K 2) (h3 : ¬ K 3) : Pk mo tt W V' t' oa ob oc od :=
  ⟨h.ev.trans (he.mono (fun x hx e => h0 (by rw [← e]; exact hx))), fun x hx => (h.ra x hx).keep he h1, fun x hx => (h.rb x hx).keep he h2,
    fun g hg => by
      obtain ⟨a, b⟩ := h.sc g hg
      have hl := (Array.getElem?_eq_some_iff.1 a).1
      exact ⟨(he.block g hl (by rw [b]; exact h3)).trans a, (he.tag g hl).trans b⟩,
    fun g hg => by
      obtain ⟨a, b⟩ := h.sd g hg
      have hl := (Array.getElem?_eq_some_iff.1 a).1
      exact ⟨(he.block g hl (by rw [b]; exact h3)).trans a, (he.tag g hl).trans b⟩⟩
theorem Pk.drew (h : Pk mo tt W V tau oa ob oc od) : Pk mo tt W V.drew tau oa ob oc od := h.evo (K := fun _ => False) (Evo.refl tau V _).drew (by simp) (by simp) (by simp) (by simp)
theorem Pk.below (h : Pk mo tt W V tau oa ob oc od) : Below W.heap.size W V := h.ev.toBelow (by simp)
theorem Pk.allocA (h : Pk mo tt W V tau none ob oc od) : Pk mo tt W (V.alloc (.cells #[.string mo] 9)) (tau.set V.heap.size 1) (some (.slice (some ⟨V.heap.size, 0, none⟩) 1 1, 1, [.string mo])) ob oc od := by
  have h0 := h.evo (K := fun _ => False) ((Evo.refl tau V _).alloc 1 (.cells #[.string mo] 9)) (by simp) (by simp) (by simp) (by simp)
  refine ⟨h.ev.alloc 1 _, fun x hx => ?_, h0.rb, h0.sc, h0.sd⟩
  obtain rfl := Option.some.inj hx
  exact Row.fresh 1 #[.string mo] 1 (Nat.le_refl _) (by simp [maxLen]) rfl rfl
theorem Pk.allocB (h : Pk mo tt W V tau oa none oc od) : Pk mo tt W (V.alloc (.cells #[.int .i64 tt] 3)) (tau.set V.heap.size 2) oa (some (.slice (some ⟨V.heap.size, 0, none⟩) 1 1, 1, [.int .i64 tt])) oc od := by
  have h0 := h.evo (K := fun _ => False) ((Evo.refl tau V _).alloc 2 (.cells #[.int .i64 tt] 3)) (by simp) (by simp) (by simp) (by simp)
  refine ⟨h.ev.alloc 2 _, h0.ra, fun x hx => ?_, h0.sc, h0.sd⟩
  obtain rfl := Option.some.inj hx
  exact Row.fresh 2 #[.int .i64 tt] 1 (Nat.le_refl _) (by simp [maxLen]) rfl rfl
theorem Pk.allocC (h : Pk mo tt W V tau oa ob none od) : Pk mo tt W (V.alloc (.cells #[.string mo] 9)) (tau.set V.heap.size 3) oa ob (some V.heap.size) od := by
  have h0 := h.evo (K := fun _ => False) ((Evo.refl tau V _).alloc 3 (.cells #[.string mo] 9)) (by simp) (by simp) (by simp) (by simp)
  refine ⟨h.ev.alloc 3 _, h0.ra, h0.rb, fun g hg => ?_, h0.sd⟩
  obtain rfl := Option.some.inj hg
  exact ⟨heap_alloc_new V _, Tag.set_same _ _ _⟩
theorem Pk.allocD (h : Pk mo tt W V tau oa ob oc none) : Pk mo tt W (V.alloc (.cells #[.int .i64 tt] 3)) (tau.set V.heap.size 3) oa ob oc (some V.heap.size) := by
  have h0 := h.evo (K := fun _ => False) ((Evo.refl tau V _).alloc 3 (.cells #[.int .i64 tt] 3)) (by simp) (by simp) (by simp) (by simp)
  refine ⟨h.ev.alloc 3 _, h0.ra, h0.rb, h0.sc, fun g hg => ?_⟩
  obtain rfl := Option.some.inj hg
  exact ⟨heap_alloc_new V _, Tag.set_same _ _ _⟩
theorem Pk.appA (h : Pk mo tt W V tau (some (v, n, xs)) ob oc od) (hr : Row t' 1 V' 9 1 v' n' xs') (he : Evo tau V t' V' (· = 1)) : Pk mo tt W V' t' (some (v', n', xs')) ob oc od :=
  ⟨h.ev.trans (he.mono (fun x hx => by omega)), fun x hx => by obtain rfl := Option.some.inj hx; exact hr, fun x hx => (h.rb x hx).keep he (by omega),
    fun g hg => by
      obtain ⟨a, b⟩ := h.sc g hg
      have hl := (Array.getElem?_eq_some_iff.1 a).1
      exact ⟨(he.block g hl (by rw [b]; omega)).trans a, (he.tag g hl).trans b⟩,
    fun g hg => by
      obtain ⟨a, b⟩ := h.sd g hg
      have hl := (Array.getElem?_eq_some_iff.1 a).1
      exact ⟨(he.block g hl (by rw [b]; omega)).trans a, (he.tag g hl).trans b⟩⟩
theorem Pk.appB (h : Pk mo tt W V tau oa (some (v, n, xs)) oc od) (hr : Row t' 2 V' 3 1 v' n' xs') (he : Evo tau V t' V' (· = 2)) : Pk mo tt W V' t' oa (some (v', n', xs')) oc od :=
  ⟨h.ev.trans (he.mono (fun x hx => by omega)), fun x hx => (h.ra x hx).keep he (by omega), fun x hx => by obtain rfl := Option.some.inj hx; exact hr,
    fun g hg => by
      obtain ⟨a, b⟩ := h.sc g hg
      have hl := (Array.getElem?_eq_some_iff.1 a).1
      exact ⟨(he.block g hl (by rw [b]; omega)).trans a, (he.tag g hl).trans b⟩,
    fun g hg => by
      obtain ⟨a, b⟩ := h.sd g hg
      have hl := (Array.getElem?_eq_some_iff.1 a).1
      exact ⟨(he.block g hl (by rw [b]; omega)).trans a, (he.tag g hl).trans b⟩⟩
theorem Pk.call (h : Pk mo tt W V tau oa ob oc od) (hb : Below V.heap.size V V') : Pk mo tt W V' tau oa ob oc od := h.evo (K := fun _ => False) (Evo.below hb fun _ _ => rfl) (by simp) (by simp) (by simp) (by simp)
theorem Pk.ownA (h : Pk mo tt W V tau none ob oc od) (hb : Below V.heap.size V V') (ho : V'.ownsRow V.heap.size 9 1 v n xs) : ∃ t', Pk mo tt W V' t' (some (v, n, xs)) ob oc od := by
  obtain ⟨t', hr, he⟩ := Row.ofOwn tau 1 (fun _ => False) hb ho
  have h1 := h.evo he (by simp) (by simp) (by simp) (by simp)
  exact ⟨t', h1.ev, fun x hx => by obtain rfl := Option.some.inj hx; exact hr, h1.rb, h1.sc, h1.sd⟩
theorem Pk.ownB (h : Pk mo tt W V tau oa none oc od) (hb : Below V.heap.size V V') (ho : V'.ownsRow V.heap.size 3 1 v n xs) : ∃ t', Pk mo tt W V' t' oa (some (v, n, xs)) oc od := by
  obtain ⟨t', hr, he⟩ := Row.ofOwn tau 2 (fun _ => False) hb ho
  have h1 := h.evo he (by simp) (by simp) (by simp) (by simp)
  exact ⟨t', h1.ev, h1.ra, fun x hx => by obtain rfl := Option.some.inj hx; exact hr, h1.sc, h1.sd⟩
theorem Pk.strs {l : List Bs} (h : Pk mo tt W V tau (some (v, l.length, cellsS l)) ob oc od) : StrsV (gh V) v l := strsV_ofSl (SlV.ofRow (fun s => [strV s]) l ([] : Bs) (by decide) (fun _ => rfl) (h.ra _ rfl))
theorem Pk.ints {l : List Int} (h : Pk mo tt W V tau oa (some (v, l.length, l.map (Value.int .i64))) oc od) (hl : l.length ≤ 1000) : IntsV (gh V) v l := IntsV.ofOwn (h.rb _ rfl).own (by omega)
theorem four_new2 {B : Nat} {x0 x1 x2 x3 : Value} {T : TypeId} (h : W.heap[B]? = some (.cells #[x0, x1, x2, x3] T (0, 0))) :
    ((∀ o o' : Obj, ((W.alloc o).alloc o').cell? ⟨B, 0, none⟩ = some x0) ∧ (∀ o o' : Obj, ((W.alloc o).alloc o').cell? ⟨B, 1, none⟩ = some x1) ∧ (∀ o o' : Obj, ((W.alloc o).alloc o').cell? ⟨B, 2, none⟩ = some x2) ∧ (∀ o o' : Obj, ((W.alloc o).alloc o').cell? ⟨B, 3, none⟩ = some x3)) ∧ True := by
  have hl := (Array.getElem?_eq_some_iff.1 h).1
  have A := fun o : Obj => (four_new (W := W.alloc o) ((Lib.alloc_old W o _ hl).trans h)).1
  exact ⟨⟨fun o => (A o).1, fun o => (A o).2.1, fun o => (A o).2.2.1, fun o => (A o).2.2.2⟩, trivial⟩
theorem strs_news {l : List Bs} {a : Option Addr} {m c : Nat} (h : StrsV (gh V) (.slice a m c) l) : ∀ j u, (cellsS l)[j]? = some u → ∃ A, a = some A ∧ V.cell? (A.add j) = some u := by
  intro j u hj
  obtain ⟨a', c', hv, _, _, _, hx⟩ := h
  simp only [Value.slice.injEq] at hv
  rw [cellsS_map, List.getElem?_map] at hj
  obtain ⟨x, hx2, rfl⟩ := Option.map_eq_some_iff.1 hj
  obtain ⟨b, off, ha, hcc⟩ := hx j x hx2
  rw [gh_cell] at hcc
  rw [hv.1]
  exact ⟨_, ha, by rw [Go.WideShapes.add_plain]; exact hcc⟩
theorem ints_news {l : List Int} {a : Option Addr} {m c : Nat} (h : IntsV (gh V) (.slice a m c) l) : ∀ j u, (l.map (Value.int .i64))[j]? = some u → ∃ A, a = some A ∧ V.cell? (A.add j) = some u := by
  intro j u hj
  obtain ⟨a', c', hv, _, _, hx⟩ := h
  simp only [Value.slice.injEq] at hv
  rw [List.getElem?_map] at hj
  obtain ⟨x, hx2, rfl⟩ := Option.map_eq_some_iff.1 hj
  obtain ⟨b, off, ha, hcc⟩ := hx j x hx2
  rw [gh_cell] at hcc
  rw [hv.1]
  exact ⟨_, ha, by rw [Go.WideShapes.add_plain]; exact hcc⟩
theorem one_news {g : Nat} {x : Value} {T : TypeId} (h : V.heap[g]? = some (.cells #[x] T (0, 0))) : ∀ j u, ([x] : List Value)[j]? = some u → ∃ A, (some ⟨g, 0, none⟩ : Option Addr) = some A ∧ V.cell? (A.add j) = some u := by
  intro j u hj
  match j with
  | 0 =>
    simp at hj
    subst hj
    refine ⟨_, rfl, ?_⟩
    rw [Go.WideShapes.add_plain]
    simp [World.cell?, h]
  | j + 1 => simp at hj
theorem Pk.rowA (h : Pk mo tt W V tau (some (v, n, xs)) ob oc od) : Row tau 1 V 9 1 v n xs := h.ra _ rfl
theorem Pk.rowB (h : Pk mo tt W V tau oa (some (v, n, xs)) oc od) : Row tau 2 V 3 1 v n xs := h.rb _ rfl
theorem Pk.strsOf {l : List Bs} (h : Pk mo tt W V tau (some (v, n, xs)) ob oc od) (hn : n = l.length) (hx : xs = cellsS l) : StrsV (gh V) v l := by subst hn; subst hx; exact h.strs
theorem Pk.intsOf {l : List Int} (h : Pk mo tt W V tau oa (some (v, n, xs)) oc od) (hn : n = l.length) (hx : xs = l.map (Value.int .i64)) (hl : l.length ≤ 1000) : IntsV (gh V) v l := by subst hn; subst hx; exact h.ints hl
section
variable {w : World} {ops : Array Oper} {o : Oper} {a : Act} {K : Act → World → Prop} {Q : Exit → Act → World → Prop} {E : Prop}
theorem stepS10 (hgd : o.guard = none) (s x : Operand) (ho : o.op = .call { callee := .builtin .append, args := #[s, x], argTypes := #[25, 25] }) (pk : Pk mo tt W w tau (some (v, n, xs)) ob oc od) (hs : a.eval s = v)
    (ad : Option Addr) (m c : Nat) (l : List Bs) (hN : StrsV (gh W) (.slice ad m c) l) (hnil : NilV (.slice ad m c)) (hm : l.length = m) (hx : a.eval x = .slice ad m c) (hnm : n + m ≤ 1000)
    (h : ∀ v' t' w', Pk mo tt W w' t' (some (v', n + m, xs ++ cellsS l)) ob oc od → K (a.put o.dst v') w') : if Region.wanted o (yielded ops a.tmps) = true then Oper.wp Tryz.prog o a w K Q else E := by
  obtain ⟨i0, hi, hz0, hz1, hz2⟩ := info_parts infoS
  exact step_append_src hgd s x 25 ho 9 i0 _ 1 16 Tryz.underlying25 hi hz0 hz1 hz2 rfl (by decide) hs pk.rowA ad m c (cellsS l) hx (fun e => by subst e; exact hnil _ _ rfl) (by rw [cellsS_len, hm, Nat.mul_one]) (strs_news (hN.mono (below_gh pk.below))) (cellsS_one l) (by unfold maxLen; omega) (by omega) (fun v' t' w' hr he => h v' t' w' (pk.appA hr he))
theorem stepI10 (hgd : o.guard = none) (s x : Operand) (ho : o.op = .call { callee := .builtin .append, args := #[s, x], argTypes := #[26, 26] }) (pk : Pk mo tt W w tau oa (some (v, n, xs)) oc od) (hs : a.eval s = v)
    (ad : Option Addr) (m c : Nat) (l : List Int) (hN : IntsV (gh W) (.slice ad m c) l) (hm : l.length = m) (hx : a.eval x = .slice ad m c) (hnm : n + m ≤ 1000)
    (h : ∀ v' t' w', Pk mo tt W w' t' oa (some (v', n + m, xs ++ l.map (Value.int .i64))) oc od → K (a.put o.dst v') w') : if Region.wanted o (yielded ops a.tmps) = true then Oper.wp Tryz.prog o a w K Q else E := by
  obtain ⟨i0, hi, hz0, hz1, hz2⟩ := info_parts infoI
  have hnil : ad = none → m = 0 ∧ c = 0 := fun e => by
    obtain ⟨a', c', hv, hn, _⟩ := hN
    simp only [Value.slice.injEq] at hv
    have := hn (by rw [← hv.1]; exact e)
    rw [← hm, hv.2.2, this.1]
    exact ⟨rfl, this.2⟩
  exact step_append_src hgd s x 26 ho 3 i0 _ 1 8 Tryz.underlying26 hi hz0 hz1 hz2 rfl (by decide) hs pk.rowB ad m c (l.map (Value.int .i64)) hx hnil (by rw [List.length_map, hm, Nat.mul_one]) (ints_news (hN.mono (below_gh pk.below))) (by intro u hu; obtain ⟨x, _, rfl⟩ := List.mem_map.1 hu; rfl) (by unfold maxLen; omega) (by omega) (fun v' t' w' hr he => h v' t' w' (pk.appB hr he))
theorem stepS11 (hgd : o.guard = none) (s x : Operand) (ho : o.op = .call { callee := .builtin .append, args := #[s, x], argTypes := #[25, 25] }) {g : Nat} (pk : Pk mo tt W w tau (some (v, n, xs)) ob (some g) od) (hs : a.eval s = v)
    (hx : a.eval x = .slice (some ⟨g, 0, none⟩) 1 1) (hnm : n + 1 ≤ 1000)
    (h : ∀ v' t' w', Pk mo tt W w' t' (some (v', n + 1, xs ++ [.string mo])) ob (some g) od → K (a.put o.dst v') w') : if Region.wanted o (yielded ops a.tmps) = true then Oper.wp Tryz.prog o a w K Q else E := by
  obtain ⟨i0, hi, hz0, hz1, hz2⟩ := info_parts infoS
  exact step_append_src hgd s x 25 ho 9 i0 _ 1 16 Tryz.underlying25 hi hz0 hz1 hz2 rfl (by decide) hs pk.rowA _ 1 1 [.string mo] hx (fun e => by cases e) rfl (one_news (pk.sc _ rfl).1) (by intro u hu; simp at hu; subst hu; rfl) (by unfold maxLen; omega) (by omega) (fun v' t' w' hr he => h v' t' w' (pk.appA hr he))
theorem stepI11 (hgd : o.guard = none) (s x : Operand) (ho : o.op = .call { callee := .builtin .append, args := #[s, x], argTypes := #[26, 26] }) {g : Nat} (pk : Pk mo tt W w tau oa (some (v, n, xs)) oc (some g)) (hs : a.eval s = v)
    (hx : a.eval x = .slice (some ⟨g, 0, none⟩) 1 1) (hnm : n + 1 ≤ 1000)
    (h : ∀ v' t' w', Pk mo tt W w' t' oa (some (v', n + 1, xs ++ [.int .i64 tt])) oc (some g) → K (a.put o.dst v') w') : if Region.wanted o (yielded ops a.tmps) = true then Oper.wp Tryz.prog o a w K Q else E := by
  obtain ⟨i0, hi, hz0, hz1, hz2⟩ := info_parts infoI
  exact step_append_src hgd s x 26 ho 3 i0 _ 1 8 Tryz.underlying26 hi hz0 hz1 hz2 rfl (by decide) hs pk.rowB _ 1 1 [.int .i64 tt] hx (fun e => by cases e) rfl (one_news (pk.sd _ rfl).1) (by intro u hu; simp at hu; subst hu; rfl) (by unfold maxLen; omega) (by omega) (fun v' t' w' hr he => h v' t' w' (pk.appB hr he))
end
end
set_option maxRecDepth 1000000 in
set_option maxHeartbeats 16000000 in
theorem Texts_own (l : List Bs) (v : Value) (w : World) (hT : StrsV (gh w) v l) (hnil : NilV v) (hl : l.length ≤ 50) : Calls Tryz.prog 10 #[v] w fun e w' => Below w.heap.size w w' ∧ ∃ v, e = .returned v ∧ w'.ownsRow w.heap.size 9 1 v l.length (cellsS l) := by
  obtain ⟨i0, hi, hz0, hz1, hz2⟩ := info_parts infoS
  obtain ⟨a, cap, rfl⟩ := hT.form
  have HN : Hid (a = none → l.length = 0 ∧ cap = 0) := Lib.hid (fun h => by subst h; exact hnil _ _ rfl)
  have HW := Lib.hid (strs_news hT)
  obtain ⟨len, hlen⟩ : ∃ n, l.length = n := ⟨_, rfl⟩
  have HLEN := Lib.hid hlen
  rw [hlen] at HN hl ⊢
  clear hT hlen hnil
  go_enter Tryz.func10, Tryz.ntmps10
  go_wp2_with (at_builtin; refine wpList_append_src rfl _ _ 25 rfl 9 i0 _ 1 16 Tryz.underlying25 hi hz0 hz1 hz2 rfl (by decide) rfl (Row.nil T0 1 w 9 1) a len cap (cellsS l) rfl HN.out ?cl HW.out ?c1 ?c2 ?c3 ?_)
  case cl => rw [cellsS_len, HLEN.out, Nat.mul_one]
  case c1 => exact cellsS_one l
  case c2 => unfold maxLen; omega
  case c3 => omega
  intro v' t' w' hr he
  have HP := Lib.hid (And.intro (he.toBelow (by decide)) (hr.toOwn he (by decide)))
  clear hr he
  go_wp2
  go_ret
  refine ⟨HP.out.1, _, rfl, ?_⟩
  simpa using HP.out.2
set_option maxRecDepth 1000000 in
set_option maxHeartbeats 16000000 in
theorem Ints_own (l : List Int) (v : Value) (w : World) (hT : IntsV (gh w) v l) (hl : l.length ≤ 50) : Calls Tryz.prog 11 #[v] w fun e w' => Below w.heap.size w w' ∧ ∃ v, e = .returned v ∧ w'.ownsRow w.heap.size 3 1 v l.length (l.map (Value.int .i64)) := by
  obtain ⟨i0, hi, hz0, hz1, hz2⟩ := info_parts infoI
  have hT2 := hT
  obtain ⟨a, cap, rfl, hn, -, -⟩ := hT2
  have HN : Hid (a = none → l.length = 0 ∧ cap = 0) := Lib.hid (fun h => by rw [(hn h).1]; exact ⟨rfl, (hn h).2⟩)
  have HW := Lib.hid (ints_news hT)
  obtain ⟨len, hlen⟩ : ∃ n, l.length = n := ⟨_, rfl⟩
  have HLEN := Lib.hid hlen
  rw [hlen] at HN hl ⊢
  clear hT hlen hn
  go_enter Tryz.func11, Tryz.ntmps11
  go_wp2_with (at_builtin; refine wpList_append_src rfl _ _ 26 rfl 3 i0 _ 1 8 Tryz.underlying26 hi hz0 hz1 hz2 rfl (by decide) rfl (Row.nil T0 1 w 3 1) a len cap (l.map (Value.int .i64)) rfl HN.out ?cl HW.out ?c1 ?c2 ?c3 ?_)
  case cl => rw [List.length_map, HLEN.out, Nat.mul_one]
  case c1 => intro u hu; obtain ⟨x, _, rfl⟩ := List.mem_map.1 hu; rfl
  case c2 => unfold maxLen; omega
  case c3 => omega
  intro v' t' w' hr he
  have HP := Lib.hid (And.intro (he.toBelow (by decide)) (hr.toOwn he (by decide)))
  clear hr he
  go_wp2
  go_ret
  refine ⟨HP.out.1, _, rfl, ?_⟩
  simpa using HP.out.2
def twoPost8 (t f : Int) (W : World) (r : Ending) (w' : World) : Prop := r = .returned (.tuple #[.int .i64 t, .int .i64 f]) ∧ Below W.heap.size W w'
set_option maxRecDepth 1000000 in
set_option maxHeartbeats 16000000 in
theorem typesmore_walk (e : Ex) (v : Value) (names : List Bs) (nv : Value) (types : List Int) (tv : Value) (mo : ByteArray) (tt : Int) (w : World) (hL : Lay2 w) (hE : EV (gh w) v e) (hF0 : Fine0 e)
    (hN : StrsV (gh w) nv names) (hNs : ∀ s ∈ names, s.length ≤ 9223372036854775807) (hNn : NilV nv) (hT : NumsV (gh w) tv types) (hTs : ∀ s ∈ types, I64 s) (hmo : mo.size ≤ 9223372036854775807) (htt : I64 tt) :
    Calls Tryz.prog 3 #[v, nv, tv, .string mo, .int .i64 tt] w (yesPost w) := by
  have HL := Lib.hid hL
  have HE := Lib.hid hE
  have HN := Lib.hid hN
  have HT := Lib.hid hT
  have HNN := Lib.hid hNn
  obtain ⟨kv, rfl, hK⟩ := hE
  obtain ⟨a, cap, rfl⟩ := hK.form
  obtain ⟨na, nc, rfl⟩ := hN.form
  obtain ⟨ta, tc, rfl, htl⟩ := hT.form
  have K0 := Lib.hid ((Kept.start w).new (.cells #[.int .i64 e.op, .int .i64 e.n, .string ⟨e.s.toArray⟩, .slice a e.ks.length cap] 24))
  obtain ⟨te, hte⟩ : ∃ b, tiny e = b := ⟨_, rfl⟩
  obtain ⟨ce, hce⟩ : ∃ b, check e = b := ⟨_, rfl⟩
  obtain ⟨fw, hfw⟩ : ∃ b, few8 names types = b := ⟨_, rfl⟩
  obtain ⟨t, f, htf⟩ : ∃ t f, typeOf e names types = (t, f) := ⟨_, _, rfl⟩
  have HTE := Lib.hid (fun W (hb : Below w.heap.size w W) => hte ▸ Tiny_any e _ W hF0 (HE.out.keep hb))
  have HS : Hid (te = true → Slim e 0) := Lib.hid (fun h => tiny_slim (hte.trans h))
  have HF : Hid (te = true → Fine e) := Lib.hid (fun h => (HS.out h).fine hF0)
  have HCE := Lib.hid (fun (h : te = true) W (hb : Below w.heap.size w W) => hce ▸ refCheck7_any e _ W (HF.out h) (HE.out.keep hb))
  have HFW := Lib.hid (fun W => hfw ▸ few8_any names types na ta nc tc W hN.len htl)
  have HIV : Hid (fw = true → IntsV (gh w) (.slice ta types.length tc) types) := Lib.hid (fun h => HT.out.ints (few8_len (hfw.trans h)).2)
  have HFL : Hid (fw = true → names.length ≤ 50 ∧ types.length ≤ 50) := Lib.hid (fun h => few8_len (hfw.trans h))
  have HNM := Lib.hid (fun (h : ce = true) W (hb : Below w.heap.size w W) => names_of e _ W (hce.trans h) (HE.out.mono (below_gh hb)))
  have HGD : Hid (te = true → ce = true → Good e) := Lib.hid (fun h h1 => check_good (HF.out h) (hce.trans h1))
  have HOF : Hid (te = true → ∀ ns ts v nv tv W, typeOf e ns ts = (t, f) → Below w.heap.size w W → EV (gh W) v e → StrsV (gh W) nv ns → IntsV (gh W) tv ts → Calls Tryz.prog 9 #[v, nv, tv] W (twoPost8 t f W)) := Lib.hid (fun h ns ts v nv tv W hq hb hE hN hT => by
    have h := typesOf_any e v nv tv ns ts W (HF.out h) (HL.out.below hb).lay hE hN hT
    rw [hq] at h
    exact h)
  have HTF := Lib.hid htf
  have HAW := Lib.hid (fun W (hb : Below w.heap.size w W) => awake8 W (HL.out.below hb).lay)
  have HCM : Hid (ce = true → check e = true) := Lib.hid (fun h => hce.trans h)
  obtain ⟨ms, hms⟩ : ∃ ms : Bs, mo.data.toList = ms := ⟨_, rfl⟩
  have hmo2 : mo = ⟨ms.toArray⟩ := by rw [← hms]
  subst hmo2
  obtain ⟨nl, hnl⟩ : ∃ n, names.length = n := ⟨_, rfl⟩
  obtain ⟨tl, htl2⟩ : ∃ n, types.length = n := ⟨_, rfl⟩
  have HNL := Lib.hid hnl
  have HTLN := Lib.hid htl2
  rw [hnl] at HN HFW HFL
  rw [htl2] at HT HFW HIV HFL
  rw [hnl, htl2]
  unfold exV strV at HTE HCE HNM
  unfold twoPost8 at HOF
  have hKE := Lib.hid hK
  clear hL hN hNs hNn hT hTs hK hte hce hfw htf hF0 htl hnl htl2 hms hmo
  obtain ⟨⟨e0, e1, e2, e3⟩, -⟩ := four_all K0.out.at0
  unfold exV strV
  go_enter Tryz.func3, Tryz.ntmps3
  go_wp2_with fail
  refine (HTE.out _ K0.out.below).mono ?_
  generalize w.alloc (.cells #[.int .i64 e.op, .int .i64 e.n, .string ⟨e.s.toArray⟩, .slice a e.ks.length cap] 24) = W0 at *
  clear e0 e1 e2 e3
  rintro r W1 ⟨rfl, hb⟩
  have K1 := Lib.hid (K0.out.call hb)
  clear hb
  cases te with
  | false =>
    go_wp2_with fail
    refine (HAW.out _ K1.out.below).mono ?_
    rintro r V ⟨rfl, hbv⟩
    have hbv := K1.out.below.seq hbv
    go_wp2
    go_ret
    exact ⟨rfl, hbv⟩
  | true =>
    obtain ⟨⟨e0, e1, e2, e3⟩, -⟩ := four_all K1.out.at0
    go_wp2_with fail
    refine (HCE.out (by first | rfl | trivial) _ K1.out.below).mono ?_
    rintro r W2 ⟨rfl, hb⟩
    have K2 := Lib.hid (K1.out.call hb)
    clear hb e0 e1 e2 e3
    cases ce with
    | false =>
      go_wp2_with fail
      refine (HAW.out _ K2.out.below).mono ?_
      rintro r V ⟨rfl, hbv⟩
      have hbv := K2.out.below.seq hbv
      go_wp2
      go_ret
      exact ⟨rfl, hbv⟩
    | true =>
      go_wp2_with fail
      refine (HFW.out _).mono ?_
      rintro r W3 ⟨rfl, rfl⟩
      cases fw with
      | false =>
        go_wp2_with fail
        refine (HAW.out _ K2.out.below).mono ?_
        rintro r V ⟨rfl, hbv⟩
        have hbv := K2.out.below.seq hbv
        go_wp2
        go_ret
        exact ⟨rfl, hbv⟩
      | true =>
        have hfl := HFL.out (by first | rfl | trivial)
        by_cases hlen : nl = tl
        · subst hlen
          have q1 : ((nl : Int) != nl) = false := by simp
          have h50 : nl ≤ 50 := hfl.1
          have HNM2 := Lib.hid (HNM.out (by first | rfl | trivial))
          have HOF2 := Lib.hid (HOF.out (by first | rfl | trivial))
          have HIV2 := Lib.hid (HIV.out (by first | rfl | trivial))
          have HGD2 := Lib.hid (HGD.out (by first | rfl | trivial) (by first | rfl | trivial))
          obtain ⟨used, hus⟩ : ∃ l, namesM e = l := ⟨_, rfl⟩
          have HUS := Lib.hid hus
          rw [hus] at HNM2
          unfold namePost at HNM2
          clear hfl HNM HOF HIV HTE HCE HFW HFL HS HF HGD HCM hus K0 K1
          obtain ⟨⟨e0, e1, e2, e3⟩, -⟩ := four_all K2.out.at0
          go_wp2_with fail
          refine (HNM2.out _ K2.out.below).mono ?_
          rintro r W4 ⟨hb4, u4, rfl, hu⟩
          have K4 := Lib.hid (K2.out.call hb4)
          obtain ⟨ua, uc, rfl⟩ := hu.strs.form
          obtain ⟨ul, hul⟩ : ∃ n, used.length = n := ⟨_, rfl⟩
          have hu2 := hu.strs
          have hul2 : ul ≤ 9223372036854775807 := by rw [← hul]; exact hu2.len
          rw [hul] at hu2 ⊢
          have HU4 := Lib.hid hu2
          have HUL := Lib.hid hul
          clear hu hu2 hul hb4 e0 e1 e2 e3 K2 HNM2
          go_wp2
          go_loopg [12] ul (fun g i wr => ∃ k : Nat, i = .int .i64 k ∧ k + g = ul ∧ wr = W4 ∧ Hid (∀ j s, j < k → used[j]? = some s → s ≠ ms))
          case atStart => exact ⟨0, rfl, by omega, rfl, Lib.hid (fun j s hj => by omega)⟩
          case round =>
            obtain ⟨k, rfl, hg, rfl, HD⟩ := hrel
            by_cases hlt : k < ul
            · skip
              have hku : k < used.length := by have := HUL.out; omega
              obtain ⟨b1, o1, rfl, c0⟩ := HU4.out.at (List.getElem?_eq_getElem hku)
              unfold strV at c0
              have HG := Lib.hid (List.getElem?_eq_getElem hku)
              generalize used[k] = s at *
              by_cases hs : s = ms
              · have q2 : (s == ms) = true := by simp [hs]
                clear hs
                go_wp2_with fail
                refine (HAW.out _ K4.out.below).mono ?_
                rintro r V ⟨rfl, hbv⟩
                have hbv := K4.out.below.seq hbv
                go_wp2
                go_ret
                exact ⟨rfl, hbv⟩
              · have q2 : (s == ms) = false := beq_eq_false_iff_ne.2 hs
                have HD2 : Hid (∀ j x, j < k + 1 → used[j]? = some x → x ≠ ms) := Lib.hid (fun j x hj hx => by
                  by_cases e : j = k
                  · subst e
                    rw [HG.out] at hx
                    cases hx
                    exact hs
                  · exact HD.out j x (by omega) hx)
                clear hs
                go_wp2
                go_roundg (gk - 1)
                case rel => exact ⟨k + 1, by go_num, by omega, rfl, HD2⟩
                case measure => omega
            · have hno : ¬ Occ e ms := fun h => by
                have hm := occ_names e HGD2.out ms h
                rw [HUS.out] at hm
                obtain ⟨j, hj, hx⟩ := List.getElem_of_mem hm
                exact HD.out j ms (by have := HUL.out; omega) (by rw [List.getElem?_eq_getElem hj, hx]) rfl
              have hq := more_plain (names := names) (types := types) (t := tt) hno (by have := HNL.out; have := HTLN.out; omega)
              rw [HTF.out] at hq
              have HQ := Lib.hid hq
              clear hno hq HD HUS HUL HU4 HGD2
              obtain ⟨⟨e0, e1, e2, e3⟩, -⟩ := four_all K4.out.at0
              go_wp2_with fail
              refine (HOF2.out names types _ _ _ _ HTF.out K4.out.below ⟨_, rfl, hKE.out.keep K4.out.below⟩ (HN.out.mono (below_gh K4.out.below)) (HIV2.out.mono (below_gh K4.out.below))).mono ?_
              rintro r W5 ⟨rfl, hb⟩
              have K5 := Lib.hid (K4.out.call hb)
              clear hb e0 e1 e2 e3 K4
              have KX := K5
              generalize W5 = WX at *
              have HN5 := Lib.hid (HN.out.mono (below_gh KX.out.below))
              have HNN5 : Hid (NilV (.slice na nl nc)) := Lib.hid (by rw [← HNL.out]; exact HNN.out)
              have HI5 := Lib.hid (HIV2.out.mono (below_gh KX.out.below))
              clear K5
              go_upto_region 10 with fail
              have HBX := Lib.hid KX.out.at0
              have HLT := Lib.hid KX.out.lt
              have HP := Lib.hid (Pk.start (⟨ms.toArray⟩ : ByteArray) tt WX)
              have hbk := (HP.out.below.block _ HLT.out).trans HBX.out
              obtain ⟨⟨e0, e1, e2, e3⟩, -⟩ := four_all hbk
              obtain ⟨⟨m0, m1, m2, m3⟩, -⟩ := four_new hbk
              obtain ⟨⟨n0, n1, n2, n3⟩, -⟩ := four_new2 hbk
              clear hbk
              go_cut [15, 16] from 63 (fun s15 s16 wv => s15 = .int .i64 t ∧ s16 = .int .i64 f ∧ Kept w wv ((w.heap.size, (.cells #[.int .i64 e.op, .int .i64 e.n, .string ⟨e.s.toArray⟩, .slice a e.ks.length cap] 24)) :: []))
              case first =>
                go_region_held_law (fun w' => w'.cell? ⟨w.heap.size, 0, none⟩ = some (.int .i64 e.op) ∧ w'.cell? ⟨w.heap.size, 1, none⟩ = some (.int .i64 e.n) ∧ w'.cell? ⟨w.heap.size, 2, none⟩ = some (.string ⟨e.s.toArray⟩) ∧ w'.cell? ⟨w.heap.size, 3, none⟩ = some (.slice a e.ks.length cap)) (go_keep) (first | (apply @stepS10 ⟨ms.toArray⟩ tt WX; (case hgd => rfl); (case ho => rfl); (case pk => (repeat (first | (with_reducible exact HP.out) | (with_reducible apply Pk.drew) | (with_reducible apply Pk.allocA) | (with_reducible apply Pk.allocB)))); (case hs => (first | rfl | (show Value.slice (some ⟨_, _, _⟩) _ _ = Value.slice (some ⟨_, _, _⟩) _ _; simp))); (case hN => exact HN5.out); (case hnil => exact HNN5.out); (case hm => exact HNL.out); (case hx => (first | rfl | (show Value.slice (some ⟨_, _, _⟩) _ _ = Value.slice (some ⟨_, _, _⟩) _ _; simp))); (case hnm => omega); intro v' t' w' pk'; replace HP := Lib.hid pk'; have hbk := (HP.out.below.block _ HLT.out).trans HBX.out; obtain ⟨⟨e0, e1, e2, e3⟩, -⟩ := four_all hbk; obtain ⟨⟨m0, m1, m2, m3⟩, -⟩ := four_new hbk; obtain ⟨⟨n0, n1, n2, n3⟩, -⟩ := four_new2 hbk; clear hbk) | (apply @stepI10 ⟨ms.toArray⟩ tt WX; (case hgd => rfl); (case ho => rfl); (case pk => (repeat (first | (with_reducible exact HP.out) | (with_reducible apply Pk.drew) | (with_reducible apply Pk.allocA) | (with_reducible apply Pk.allocB)))); (case hs => (first | rfl | (show Value.slice (some ⟨_, _, _⟩) _ _ = Value.slice (some ⟨_, _, _⟩) _ _; simp))); (case hN => exact HI5.out); (case hm => exact HTLN.out); (case hx => (first | rfl | (show Value.slice (some ⟨_, _, _⟩) _ _ = Value.slice (some ⟨_, _, _⟩) _ _; simp))); (case hnm => omega); intro v' t' w' pk'; replace HP := Lib.hid pk'; have hbk := (HP.out.below.block _ HLT.out).trans HBX.out; obtain ⟨⟨e0, e1, e2, e3⟩, -⟩ := four_all hbk; obtain ⟨⟨m0, m1, m2, m3⟩, -⟩ := four_new hbk; obtain ⟨⟨n0, n1, n2, n3⟩, -⟩ := four_new2 hbk; clear hbk) | (go_simp; go_at_call 9; refine (HOF2.out (ms :: names) (tt :: types) _ _ _ _ HQ.out.1 (KX.out.below.seq HP.out.below) ⟨_, rfl, (hKE.out.keep KX.out.below).keep HP.out.below⟩ (HP.out.strsOf (by simp; have := HNL.out; omega) rfl) (HP.out.intsOf (by simp; have := HTLN.out; omega) rfl (by simp; have := HTLN.out; omega))).mono ?_; rintro r W6 ⟨rfl, hb⟩; have KZ := Lib.hid (KX.out.call (HP.out.below.seq hb)); obtain ⟨⟨e0, e1, e2, e3⟩, -⟩ := four_all KZ.out.at0; clear hb))
                all_goals
                  go_wp2
                  go_meet
                  case rel => exact ⟨rfl, rfl, KZ.out⟩
              case rest =>
              obtain ⟨rfl, rfl, KW⟩ := hcut
              clear KX HP HBX HLT HN5 HI5 e0 e1 e2 e3 m0 m1 m2 m3 n0 n1 n2 n3
              have KX := Lib.hid KW
              clear KW
              generalize wc = WY at *
              have HN5 := Lib.hid (HN.out.mono (below_gh KX.out.below))
              have HI5 := Lib.hid (HIV2.out.mono (below_gh KX.out.below))
              have HTX : Hid (∀ V tau ob oc od, Pk (⟨ms.toArray⟩ : ByteArray) tt WY V tau none ob oc od → Calls Tryz.prog 10 #[.slice na nl nc] V fun e w' => ∃ v t', e = .returned v ∧ Pk (⟨ms.toArray⟩ : ByteArray) tt WY w' t' (some (v, nl, cellsS names)) ob oc od) := Lib.hid (fun V tau ob oc od pk =>
                (Texts_own names _ V (HN5.out.mono (below_gh pk.below)) HNN5.out (by have := HNL.out; omega)).mono (fun e w' ⟨hb, v, he, ho⟩ => by
                  obtain ⟨t', h⟩ := pk.ownA hb ho
                  rw [HNL.out] at h
                  exact ⟨v, t', he, h⟩))
              have HIX : Hid (∀ V tau oa oc od, Pk (⟨ms.toArray⟩ : ByteArray) tt WY V tau oa none oc od → Calls Tryz.prog 11 #[.slice ta nl tc] V fun e w' => ∃ v t', e = .returned v ∧ Pk (⟨ms.toArray⟩ : ByteArray) tt WY w' t' oa (some (v, nl, types.map (Value.int .i64))) oc od) := Lib.hid (fun V tau oa oc od pk =>
                (Ints_own types _ V (HI5.out.mono (below_gh pk.below)) (by have := HTLN.out; omega)).mono (fun e w' ⟨hb, v, he, ho⟩ => by
                  obtain ⟨t', h⟩ := pk.ownB hb ho
                  rw [HTLN.out] at h
                  exact ⟨v, t', he, h⟩))
              go_upto_region 11 with fail
              have HBX := Lib.hid KX.out.at0
              have HLT := Lib.hid KX.out.lt
              have HP := Lib.hid (Pk.start (⟨ms.toArray⟩ : ByteArray) tt WY)
              have hbk := (HP.out.below.block _ HLT.out).trans HBX.out
              obtain ⟨⟨e0, e1, e2, e3⟩, -⟩ := four_all hbk
              obtain ⟨⟨m0, m1, m2, m3⟩, -⟩ := four_new hbk
              obtain ⟨⟨n0, n1, n2, n3⟩, -⟩ := four_new2 hbk
              clear hbk
              go_cut [17, 18] from 76 (fun s17 s18 wv => s17 = .int .i64 t ∧ s18 = .int .i64 f ∧ Kept w wv ((w.heap.size, (.cells #[.int .i64 e.op, .int .i64 e.n, .string ⟨e.s.toArray⟩, .slice a e.ks.length cap] 24)) :: []))
              case first =>
                go_region_held_law (fun w' => w'.cell? ⟨w.heap.size, 0, none⟩ = some (.int .i64 e.op) ∧ w'.cell? ⟨w.heap.size, 1, none⟩ = some (.int .i64 e.n) ∧ w'.cell? ⟨w.heap.size, 2, none⟩ = some (.string ⟨e.s.toArray⟩) ∧ w'.cell? ⟨w.heap.size, 3, none⟩ = some (.slice a e.ks.length cap)) (go_keep) (first | (apply @stepS11 ⟨ms.toArray⟩ tt WY; (case hgd => rfl); (case ho => rfl); (case pk => (repeat (first | (with_reducible exact HP.out) | (with_reducible apply Pk.drew) | (with_reducible apply Pk.allocC) | (with_reducible apply Pk.allocD)))); (case hs => (first | rfl | (show Value.slice (some ⟨_, _, _⟩) _ _ = Value.slice (some ⟨_, _, _⟩) _ _; simp))); (case hx => (first | rfl | (show Value.slice (some ⟨_, _, _⟩) _ _ = Value.slice (some ⟨_, _, _⟩) _ _; simp))); (case hnm => omega); intro v' t' w' pk'; replace HP := Lib.hid pk'; have hbk := (HP.out.below.block _ HLT.out).trans HBX.out; obtain ⟨⟨e0, e1, e2, e3⟩, -⟩ := four_all hbk; obtain ⟨⟨m0, m1, m2, m3⟩, -⟩ := four_new hbk; obtain ⟨⟨n0, n1, n2, n3⟩, -⟩ := four_new2 hbk; clear hbk) | (apply @stepI11 ⟨ms.toArray⟩ tt WY; (case hgd => rfl); (case ho => rfl); (case pk => (repeat (first | (with_reducible exact HP.out) | (with_reducible apply Pk.drew) | (with_reducible apply Pk.allocC) | (with_reducible apply Pk.allocD)))); (case hs => (first | rfl | (show Value.slice (some ⟨_, _, _⟩) _ _ = Value.slice (some ⟨_, _, _⟩) _ _; simp))); (case hx => (first | rfl | (show Value.slice (some ⟨_, _, _⟩) _ _ = Value.slice (some ⟨_, _, _⟩) _ _; simp))); (case hnm => omega); intro v' t' w' pk'; replace HP := Lib.hid pk'; have hbk := (HP.out.below.block _ HLT.out).trans HBX.out; obtain ⟨⟨e0, e1, e2, e3⟩, -⟩ := four_all hbk; obtain ⟨⟨m0, m1, m2, m3⟩, -⟩ := four_new hbk; obtain ⟨⟨n0, n1, n2, n3⟩, -⟩ := four_new2 hbk; clear hbk) | (go_simp; go_at_call 10; apply Calls.mono; (case h => (apply HTX.out; (repeat (first | (with_reducible exact HP.out) | (with_reducible apply Pk.drew) | (with_reducible apply Pk.allocC) | (with_reducible apply Pk.allocD))))); rintro r W7 ⟨v7, t7, rfl, pk'⟩; replace HP := Lib.hid pk'; have hbk := (HP.out.below.block _ HLT.out).trans HBX.out; obtain ⟨⟨e0, e1, e2, e3⟩, -⟩ := four_all hbk; obtain ⟨⟨m0, m1, m2, m3⟩, -⟩ := four_new hbk; obtain ⟨⟨n0, n1, n2, n3⟩, -⟩ := four_new2 hbk; clear hbk) | (go_simp; go_at_call 11; apply Calls.mono; (case h => (apply HIX.out; (repeat (first | (with_reducible exact HP.out) | (with_reducible apply Pk.drew) | (with_reducible apply Pk.allocC) | (with_reducible apply Pk.allocD))))); rintro r W7 ⟨v8, t7, rfl, pk'⟩; replace HP := Lib.hid pk'; have hbk := (HP.out.below.block _ HLT.out).trans HBX.out; obtain ⟨⟨e0, e1, e2, e3⟩, -⟩ := four_all hbk; obtain ⟨⟨m0, m1, m2, m3⟩, -⟩ := four_new hbk; obtain ⟨⟨n0, n1, n2, n3⟩, -⟩ := four_new2 hbk; clear hbk) | (go_simp; go_at_call 9; refine (HOF2.out (names ++ [ms]) (types ++ [tt]) _ _ _ _ HQ.out.2 (KX.out.below.seq HP.out.below) ⟨_, rfl, (hKE.out.keep KX.out.below).keep HP.out.below⟩ (HP.out.strsOf (by simp; have := HNL.out; omega) (by rw [cellsS_app]; rfl)) (HP.out.intsOf (by simp; have := HTLN.out; omega) (by simp) (by simp; have := HTLN.out; omega))).mono ?_; rintro r W6 ⟨rfl, hb⟩; have KZ := Lib.hid (KX.out.call (HP.out.below.seq hb)); obtain ⟨⟨e0, e1, e2, e3⟩, -⟩ := four_all KZ.out.at0; clear hb))
                all_goals
                  go_wp2
                  go_meet
                  case rel => exact ⟨rfl, rfl, KZ.out⟩
              case rest =>
              obtain ⟨rfl, rfl, KW⟩ := hcut
              clear KX HP HBX HLT HN5 HI5 HTX HIX e0 e1 e2 e3 m0 m1 m2 m3 n0 n1 n2 n3
              have KX := Lib.hid KW
              clear KW
              generalize wc = WZ at *
              have r1 : (t == t) = true := beq_self_eq_true t
              have r2 : (f == f) = true := beq_self_eq_true f
              go_wp2_with fail
              refine (HAW.out _ KX.out.below).mono ?_
              rintro r V ⟨rfl, hbv⟩
              have hbv := KX.out.below.seq hbv
              go_wp2
              go_ret
              exact ⟨rfl, hbv⟩
        · have q1 : ((nl : Int) != tl) = true := by rw [bne_iff_ne]; omega
          have q3 : (nl != tl) = true := by rw [bne_iff_ne]; omega
          clear hfl hlen
          go_wp2_with fail
          refine (HAW.out _ K2.out.below).mono ?_
          rintro r V ⟨rfl, hbv⟩
          have hbv := K2.out.below.seq hbv
          go_wp2
          go_ret
          exact ⟨rfl, hbv⟩
end Go.Proofs.YtilmmgkclijhjaaGreatDoor
