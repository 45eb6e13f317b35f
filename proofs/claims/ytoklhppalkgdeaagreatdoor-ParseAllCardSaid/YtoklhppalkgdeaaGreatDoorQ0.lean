/- The document's parser in memory; the walks of its tok, sign, wrong, must, two. No condition. -/
import Derived.Test.YtoklhppalkgdeaaGreatDoorVd
set_option linter.unusedSimpArgs false
set_option linter.unusedVariables false
set_option linter.unusedSectionVars false
namespace Go.Proofs.YtoklhppalkgdeaaGreatDoor
open Go.RowKit Pal
/-- The document's parser: its tokens, which one is next, where it is wrong (below 0: nowhere). -/
def XS (W : World) (B : Nat) (tv : Value) (p : Nat) (q : Int) : Prop := W.heap[B]? = some (.cells #[tv, .int .i64 p, .int .i64 q, .int .i64 0] 58 (0, 0))
abbrev XQ (W : World) (B : Nat) (tv : Value) (p : Nat) : Prop := XS W B tv p (-1)
section
variable {W W' : World} {B : Nat} {tv : Value} {p : Nat} {q : Int}
theorem XS.cells (h : XS W B tv p q) :
    W.cell? ⟨B, 0, none⟩ = some tv ∧ W.cell? ⟨B, 1, none⟩ = some (.int .i64 p) ∧ W.cell? ⟨B, 2, none⟩ = some (.int .i64 q) ∧ W.frozen? ⟨B, 1, none⟩ = false ∧ W.frozen? ⟨B, 2, none⟩ = false ∧ B < W.heap.size := by
  unfold XS at h
  exact ⟨by simp [World.cell?, h], by simp [World.cell?, h], by simp [World.cell?, h], by simp [World.frozen?, h], by simp [World.frozen?, h], (Array.getElem?_eq_some_iff.1 h).1⟩
theorem XS.keep (h : XS W B tv p q) (hb : Below W.heap.size W W') : XS W' B tv p q := by
  unfold XS at *
  rw [hb.block _ (Array.getElem?_eq_some_iff.1 h).1]; exact h
theorem XS.setI (h : XS W B tv p q) (x : Int) {p' : Nat} (e : x = p') : XS (W.setCell ⟨B, 1, none⟩ (.int .i64 x)) B tv p' q := by
  subst e
  unfold XS at *
  simp [World.setCell, Array.getElem?_modify, h]
theorem XS.setQ (h : XS W B tv p q) (x : Int) : XS (W.setCell ⟨B, 2, none⟩ (.int .i64 x)) B tv p x := by
  unfold XS at *
  simp [World.setCell, Array.getElem?_modify, h]
theorem XS.set4 (h : XS W B tv p q) {b : Nat} (hB : B ≠ b) (y0 y1 y2 y3 : Value) : XS ((((W.setCell ⟨b, 0, none⟩ y0).setCell ⟨b, 1, none⟩ y1).setCell ⟨b, 2, none⟩ y2).setCell ⟨b, 3, none⟩ y3) B tv p q := by
  unfold XS at *
  rw [set4_other hB]; exact h
theorem XS.other (h : XS W B tv p q) {a : Addr} (ha : a.block ≠ B) (v : Value) : XS (W.setCell a v) B tv p q := by
  unfold XS at *
  rw [Below.heap_setCell _ _ _ _ (fun e => ha e.symm)]; exact h
theorem XS.alloc (h : XS W B tv p q) (o : Obj) : XS (W.alloc o) B tv p q := h.keep ((Below.refl _ _).alloc (Nat.le_refl _) _)
end
theorem Below.set4 {n : Nat} {a W : World} (h : Below n a W) {b : Nat} (hb : n ≤ b) (y0 y1 y2 y3 : Value) : Below n a ((((W.setCell ⟨b, 0, none⟩ y0).setCell ⟨b, 1, none⟩ y1).setCell ⟨b, 2, none⟩ y2).setCell ⟨b, 3, none⟩ y3) :=
  (((h.setCell (p := ⟨b, 0, none⟩) hb _).setCell (p := ⟨b, 1, none⟩) hb _).setCell (p := ⟨b, 2, none⟩) hb _).setCell (p := ⟨b, 3, none⟩) hb _
def Junk (v : Value) : Prop := ∃ o n s a l c, v = exV o n s (.slice a l c)
/-- How a call of the document's parser ends. -/
def RRes (B : Nat) (tv : Value) (toks : List Tok) (x : PR) (w : World) (e : Ending) (w' : World) : Prop :=
  But B w w' ∧ (match x with
    | .ok ex r => (∃ v, e = .returned v ∧ EV (gn w.heap.size w') v ex) ∧ ∃ p', toks.drop p' = r ∧ XS w' B tv p' (-1)
    | .bad q => (∃ v, e = .returned v ∧ Junk v) ∧ ∃ p', XS w' B tv p' q
    | .out => False)
section
variable {B : Nat} {tv : Value} {toks : List Tok} {w W : World} {r : List Tok} {p' q : Nat}
theorem rres_ok {op n : Int} {s : Bs} {kv : Value} {ks : List Ex} (hB : But B w W) (hpl : B < w.heap.size) (hK : KV (gp (fun b => w.heap.size < b) W) kv ks) (hP : XS W B tv p' (-1)) (hd : toks.drop p' = r) (y0 y1 y2 y3 : Value) :
    RRes B tv toks (.ok (.mk op n s ks) r) w (.returned (exV op n s kv)) ((((W.setCell ⟨w.heap.size, 0, none⟩ y0).setCell ⟨w.heap.size, 1, none⟩ y1).setCell ⟨w.heap.size, 2, none⟩ y2).setCell ⟨w.heap.size, 3, none⟩ y3) :=
  ⟨hB.set4 (Nat.le_refl _) _ _ _ _, ⟨_, rfl, kv, rfl, hK.mono (gp_le fun b hb _ => ⟨by omega, set4_other (by omega) _ _ _ _⟩)⟩, p', hd, hP.set4 (by omega) _ _ _ _⟩
theorem rres_bad {o n : Int} {s : Bs} {a : Option Addr} {l c : Nat} (hB : But B w W) (hpl : B < w.heap.size) (hP : XS W B tv p' q) (y0 y1 y2 y3 : Value) :
    RRes B tv toks (.bad q) w (.returned (exV o n s (.slice a l c))) ((((W.setCell ⟨w.heap.size, 0, none⟩ y0).setCell ⟨w.heap.size, 1, none⟩ y1).setCell ⟨w.heap.size, 2, none⟩ y2).setCell ⟨w.heap.size, 3, none⟩ y3) :=
  ⟨hB.set4 (Nat.le_refl _) _ _ _ _, ⟨_, rfl, _, _, _, _, _, _, rfl⟩, p', hP.set4 (by omega) _ _ _ _⟩
end
/-- Where a level of the document's parser stands. -/
structure OrIn (n0 pb B5 : Nat) (tv : Value) (toks : List Tok) (W : World) (p : Nat) (ex : Ex) (kv : Value) : Prop where
  st : XQ W pb tv p
  tok : TokV (gp (fun b => b < n0 ∧ b ≠ pb) W) tv toks
  z : zeroE W n0
  c : W.heap[B5]? = some (.cells #[.int .i64 ex.op, .int .i64 ex.n, strV ex.s, kv] 28 (0, 0))
  k : KV (gp (fun b => n0 < b ∧ b ≠ B5) W) kv ex.ks
  lt : n0 < B5
  pb : pb < n0
theorem OrIn.tokb {n0 pb B5 : Nat} {tv : Value} {toks : List Tok} {W : World} {p : Nat} {ex : Ex} {kv : Value} (h : OrIn n0 pb B5 tv toks W p ex kv) : TokV (gb pb W) tv toks :=
  SlV.mono h.tok (gp_gb W (fun h => h.2 rfl))
theorem tok_gq {pb : Nat} {tv : Value} {toks : List Tok} {w W : World} (h : TokV (gb pb w) tv toks) (hB : But pb w W) : TokV (gp (fun b => b < w.heap.size ∧ b ≠ pb) W) tv toks :=
  SlV.mono h (fun b o hh => by
    unfold gb at hh
    unfold gp
    split at hh
    · cases hh
    · rename_i hn
      have hl := (Array.getElem?_eq_some_iff.1 hh).1
      rw [if_pos ⟨hl, hn⟩, hB.block b hl hn]; exact hh)
theorem OrIn.but {n0 pb B5 : Nat} {tv : Value} {toks : List Tok} {W W' : World} {p p' : Nat} {ex : Ex} {kv : Value} (h : OrIn n0 pb B5 tv toks W p ex kv) (hB : But pb W W') (hP : XQ W' pb tv p') : OrIn n0 pb B5 tv toks W' p' ex kv := by
  have hpb := h.pb
  have hlt := h.lt
  have z := h.z
  have c := h.c
  unfold zeroE at z
  have l1 := (Array.getElem?_eq_some_iff.1 z).1
  have l2 := (Array.getElem?_eq_some_iff.1 c).1
  exact ⟨hP, SlV.mono h.tok (gp_le fun b hb hl => ⟨hb, hB.block _ hl hb.2⟩), by unfold zeroE; rw [hB.block _ l1 (by omega)]; exact z, by rw [hB.block _ l2 (by omega)]; exact c, h.k.mono (gp_le fun b hb hl => ⟨hb, hB.block _ hl (by omega)⟩), hlt, hpb⟩
theorem OrIn.keep {n0 pb B5 : Nat} {tv : Value} {toks : List Tok} {W W' : World} {p : Nat} {ex : Ex} {kv : Value} (h : OrIn n0 pb B5 tv toks W p ex kv) (hB : Below W.heap.size W W') : OrIn n0 pb B5 tv toks W' p ex kv :=
  h.but (But.below hB) (h.st.keep hB)
/-- The expression has been stored anew. -/
theorem OrIn.set {n0 pb B5 : Nat} {tv : Value} {toks : List Tok} {W : World} {p : Nat} {ex : Ex} {kv sv : Value} {ks : List Ex} (h : OrIn n0 pb B5 tv toks W p ex kv)
    (hk : KV (gp (fun b => n0 < b ∧ b ≠ B5) W) sv ks) (op : Int) :
    OrIn n0 pb B5 tv toks ((((W.setCell ⟨B5, 0, none⟩ (.int .i64 op)).setCell ⟨B5, 1, none⟩ (.int .i64 0)).setCell ⟨B5, 2, none⟩ (.string ⟨#[]⟩)).setCell ⟨B5, 3, none⟩ sv) p (.mk op 0 [] ks) sv := by
  have hpb := h.pb
  have hlt := h.lt
  have z := h.z
  have c := h.c
  have st := h.st
  unfold zeroE at z
  have o4 := fun x (hx : x ≠ B5) => set4_other (W := W) (b := x) hx (.int .i64 op) (.int .i64 0) (.string ⟨#[]⟩) sv
  refine ⟨st.set4 (by omega) _ _ _ _, SlV.mono h.tok (gp_le fun b hb hl => ⟨hb, o4 _ (by omega)⟩), ?_, set4_heap c _ _ _ _, hk.mono (gp_le fun b hb hl => ⟨hb, o4 _ (by omega)⟩), hlt, hpb⟩
  unfold zeroE; rw [o4 _ (by omega)]; exact z
/-- Where the document's args stands: its parts lie in a row under tag 1. -/
structure ArIn (n0 pb B5 : Nat) (tau : Tag) (tv : Value) (toks : List Tok) (W : World) (p : Nat) (q : Int) (op : Int) (l : List (Ex × Value)) (sv : Value) : Prop where
  st : XS W pb tv p q
  tok : TokV (gp (fun b => b < n0 ∧ b ≠ pb) W) tv toks
  z : zeroE W n0
  c : W.heap[B5]? = some (.cells #[.int .i64 op, .int .i64 0, .string ⟨#[]⟩, sv] 28 (0, 0))
  row : Row tau 1 W 28 4 sv l.length (l.flatMap exCells)
  k : ∀ x ∈ l, KV (gp (fun b => (n0 < b ∧ b ≠ B5) ∧ tau b ≠ 1) W) x.2 x.1.ks
  ge : ∀ b, tau b = 1 → (n0 < b ∧ b ≠ B5) ∧ b < W.heap.size
  lt : n0 < B5
  pb : pb < n0
section
variable {n0 pb B5 : Nat} {tau : Tag} {tv : Value} {toks : List Tok} {W : World} {p : Nat} {q : Int} {op : Int} {l : List (Ex × Value)} {sv : Value}
theorem ArIn.lts (h : ArIn n0 pb B5 tau tv toks W p q op l sv) : n0 < W.heap.size ∧ B5 < W.heap.size := by
  have z := h.z
  unfold zeroE at z
  exact ⟨(Array.getElem?_eq_some_iff.1 z).1, (Array.getElem?_eq_some_iff.1 h.c).1⟩
theorem ArIn.tokb (h : ArIn n0 pb B5 tau tv toks W p q op l sv) : TokV (gb pb W) tv toks := SlV.mono h.tok (gp_gb W (fun h => h.2 rfl))
theorem ArIn.but {W' : World} {p' : Nat} {q' : Int} (h : ArIn n0 pb B5 tau tv toks W p q op l sv) (hB : But pb W W') (hP : XS W' pb tv p' q') : ArIn n0 pb B5 tau tv toks W' p' q' op l sv := by
  have hpb := h.pb
  have hlt := h.lt
  have z := h.z
  have c := h.c
  obtain ⟨l1, l2⟩ := h.lts
  unfold zeroE at z
  have hpt : tau pb ≠ 1 := fun e => by have := (h.ge pb e).1.1; omega
  have hE : Evo tau W tau W' (· = tau pb) := ⟨hB.os, hB.tape, hB.output, hB.size, fun _ _ => rfl, fun b hb hn => hB.block b hb (fun e => hn (by rw [e]))⟩
  have hs := hB.size
  exact ⟨hP, SlV.mono h.tok (gp_le fun b hb hl => ⟨hb, hB.block _ hl hb.2⟩), by unfold zeroE; rw [hB.block _ l1 (by omega)]; exact z, by rw [hB.block _ l2 (by omega)]; exact c,
    h.row.keep hE (fun e => hpt e.symm), fun x hx => (h.k x hx).mono (gp_le fun b hb hl => ⟨hb, hB.block _ hl (by omega)⟩), fun b hb => ⟨(h.ge b hb).1, by have := (h.ge b hb).2; omega⟩, hlt, hpb⟩
theorem ArIn.keep {W' : World} (h : ArIn n0 pb B5 tau tv toks W p q op l sv) (hB : Below W.heap.size W W') : ArIn n0 pb B5 tau tv toks W' p q op l sv := h.but (But.below hB) (h.st.keep hB)
/-- The parts, once all are there. -/
theorem ArIn.kv (h : ArIn n0 pb B5 tau tv toks W p q op l sv) : KV (gp (fun b => n0 < b ∧ b ≠ B5) W) sv (l.map Prod.fst) := by
  obtain ⟨a, cap, hv, h1, h2, h3, h4⟩ := SlV.ofRow exCells l (⟨.mk 0 0 [] [], .nilIface⟩ : Ex × Value) (by decide) exCells_len h.row
  have ht := h.row.tag
  subst hv
  have hlm : l.length = (l.map Prod.fst).length := by simp
  rw [hlm] at h1 h2 h4 ⊢
  have hbk : ∀ b off, a = some ⟨b, off, none⟩ → n0 < b ∧ b ≠ B5 := by
    intro b off e
    subst e
    exact (h.ge b (ht b rfl)).1
  have hcell : ∀ (b off i : Nat) (x : Value), a = some ⟨b, off, none⟩ → (gh W).cell b i = some x → (gp (fun b => n0 < b ∧ b ≠ B5) W).cell b i = some x := by
    intro b off i x e hc
    unfold GH.cell gp
    rw [if_pos (hbk b off e)]
    exact hc
  have hget : ∀ (j : Nat) (k : Ex), (l.map Prod.fst)[j]? = some k → j < (l.map Prod.fst).length ∧ ∃ x ∈ l, l.getD j ⟨.mk 0 0 [] [], .nilIface⟩ = x ∧ x.1 = k := by
    intro j k hj
    obtain ⟨hjl, -⟩ := List.getElem?_eq_some_iff.1 hj
    rw [List.getElem?_map] at hj
    cases hx : l[j]? with
    | none => rw [hx] at hj; cases hj
    | some x =>
      rw [hx] at hj
      simp only [Option.map_some, Option.some.injEq] at hj
      refine ⟨hjl, x, List.mem_of_getElem? hx, ?_, hj⟩
      rw [List.getD_eq_getElem?_getD, hx]; rfl
  refine .mk (l.map Prod.fst) a cap (fun j => (l.getD j ⟨.mk 0 0 [] [], .nilIface⟩).2) (fun e => ?_) h2 h3 (fun j k hj => ?_) (fun j k hj => ?_)
  · have := h1 e
    exact ⟨List.eq_nil_of_length_eq_zero this.1, this.2⟩
  · obtain ⟨hjl, x, hx, hg, rfl⟩ := hget j k hj
    have e0 := h4 j 0 _ hjl (by simp only [hg]; rfl)
    have e1 := h4 j 1 _ hjl (by simp only [hg]; rfl)
    have e2 := h4 j 2 _ hjl (by simp only [hg]; rfl)
    have e3 := h4 j 3 _ hjl (by simp only [hg]; rfl)
    obtain ⟨b, off, ha, c0⟩ := e0
    obtain ⟨b1, off1, ha1, c1⟩ := e1
    obtain ⟨b2, off2, ha2, c2⟩ := e2
    obtain ⟨b3, off3, ha3, c3⟩ := e3
    rw [ha] at ha1 ha2 ha3
    simp only [Option.some.injEq, Addr.mk.injEq, and_true] at ha1 ha2 ha3
    obtain ⟨rfl, rfl⟩ := ha1
    obtain ⟨rfl, rfl⟩ := ha2
    obtain ⟨rfl, rfl⟩ := ha3
    refine ⟨b, off, ha, ?_, ?_, ?_, ?_⟩
    · have := hcell b off _ _ ha c0; rw [show off + (4 * j + 0) = off + j * 4 by omega] at this; exact this
    · have := hcell b off _ _ ha c1; rw [show off + (4 * j + 1) = off + j * 4 + 1 by omega] at this; exact this
    · have := hcell b off _ _ ha c2; rw [show off + (4 * j + 2) = off + j * 4 + 2 by omega] at this; exact this
    · have := hcell b off _ _ ha c3; rw [show off + (4 * j + 3) = off + j * 4 + 3 by omega] at this; simp only [hg]; exact this
  · obtain ⟨hjl, x, hx, hg, rfl⟩ := hget j k hj
    simp only [hg]
    exact (h.k x hx).mono (gp_le fun b hb _ => ⟨hb.1, rfl⟩)
/-- One part more: behind the append, and behind the store of the row. -/
theorem ArIn.app {t' : Tag} {w' : World} {v' : Value} {e : Ex} {u : Value} (h : ArIn n0 pb B5 tau tv toks W p q op l sv) (hr : Row t' 1 w' 28 4 v' (l.length + 1) (l.flatMap exCells ++ exCells (e, u)))
    (he : Evo tau W t' w' (· = 1)) (hu : KV (gp (fun b => (n0 < b ∧ b ≠ B5) ∧ tau b ≠ 1) W) u e.ks) :
    ∃ t2, ArIn n0 pb B5 t2 tv toks (w'.setCell ⟨B5, 3, none⟩ v') p q op (l ++ [(e, u)]) v' ∧ ∀ w0 : World, w0.heap.size = n0 → But pb w0 W → But pb w0 (w'.setCell ⟨B5, 3, none⟩ v') := by
  have hpb := h.pb
  have hlt := h.lt
  have z := h.z
  have c := h.c
  obtain ⟨l1, l2⟩ := h.lts
  have st := h.st
  unfold zeroE XS at *
  have lp := (Array.getElem?_eq_some_iff.1 st).1
  have nt : ∀ b, ¬ (n0 < b ∧ b ≠ B5) → tau b ≠ 1 := fun b hb e => hb (h.ge b e).1
  have hblk : ∀ b, b < W.heap.size → tau b ≠ 1 → w'.heap[b]? = W.heap[b]? := fun b hb hn => he.block b hb hn
  have hset : ∀ b, b ≠ B5 → (w'.setCell ⟨B5, 3, none⟩ v').heap[b]? = w'.heap[b]? := fun b hb => Below.heap_setCell _ _ _ _ (fun e => hb e)
  have hlive : ∀ b, v'.ownBlock = some b → b < w'.heap.size := by
    intro b hb
    rcases hr.own.2 with ⟨rfl, hn⟩ | ⟨g, cap, cur, rfl, hbg, hgg, hn, hc, hs, ht⟩
    · simp [Value.ownBlock] at hb
    · simp [Value.ownBlock] at hb
      subst hb
      exact (Array.getElem?_eq_some_iff.1 hgg).1
  have hs := he.size
  have hnew : ∀ b, b < w'.heap.size → t' b = 1 → n0 < b ∧ b ≠ B5 := by
    intro b hb e
    by_cases hbl : b < W.heap.size
    · rw [he.tag b hbl] at e; exact (h.ge b e).1
    · exact ⟨by omega, by omega⟩
  refine ⟨fun b => if b < w'.heap.size then t' b else 0, ⟨?_, ?_, ?_, ?_, ?_, ?_, ?_, hlt, hpb⟩, ?_⟩
  · unfold XS; rw [hset _ (by omega), hblk _ lp (nt _ (by omega))]; exact st
  · refine SlV.mono h.tok (gp_le fun b hb hl => ⟨hb, ?_⟩)
    rw [hset _ (by omega), hblk _ hl (nt _ (by omega))]
  · unfold zeroE; rw [hset _ (by omega), hblk _ l1 (nt _ (by omega))]; exact z
  · have hc2 : w'.heap[B5]? = some (.cells #[.int .i64 op, .int .i64 0, .string ⟨#[]⟩, sv] 28 (0, 0)) := by rw [hblk _ l2 (nt _ (by omega))]; exact c
    simp [World.setCell, Array.getElem?_modify, hc2]
  · have hfl : (l ++ [(e, u)]).flatMap exCells = l.flatMap exCells ++ exCells (e, u) := by rw [List.flatMap_append]; simp
    rw [hfl, List.length_append]
    have hr2 : Row (fun b => if b < w'.heap.size then t' b else 0) 1 w' 28 4 v' (l.length + 1) (l.flatMap exCells ++ exCells (e, u)) := ⟨hr.own, fun g hg => by
      show (if g < w'.heap.size then t' g else 0) = 1
      rw [if_pos (hlive g hg)]; exact hr.tag g hg⟩
    refine hr2.keep (w' := w'.setCell ⟨B5, 3, none⟩ v') (K := fun x => x ≠ 1) ((Evo.refl _ w' _).setCell ⟨B5, 3, none⟩ v' ?_) (by simp)
    show (if B5 < w'.heap.size then t' B5 else 0) ≠ 1
    rw [if_pos (by omega), he.tag _ l2]
    exact nt _ (by omega)
  · have hle : (gp (fun b => (n0 < b ∧ b ≠ B5) ∧ tau b ≠ 1) W).le (gp (fun b => (n0 < b ∧ b ≠ B5) ∧ (if b < w'.heap.size then t' b else 0) ≠ 1) (w'.setCell ⟨B5, 3, none⟩ v')) :=
      gp_le fun b hb hl => ⟨⟨hb.1, by rw [if_pos (by omega), he.tag b hl]; exact hb.2⟩, by rw [hset _ hb.1.2, hblk _ hl hb.2]⟩
    intro x hx
    rcases List.mem_append.1 hx with hx | hx
    · exact (h.k x hx).mono hle
    · simp only [List.mem_singleton] at hx
      subst hx
      exact hu.mono hle
  · intro b hb
    have hb2 : (if b < w'.heap.size then t' b else 0) = 1 := hb
    by_cases hl : b < w'.heap.size
    · rw [if_pos hl] at hb2
      exact ⟨hnew b hl hb2, by simp [World.setCell]; exact hl⟩
    · rw [if_neg hl] at hb2; omega
  · intro w0 h0 hB
    refine But.setNew ⟨he.os.trans hB.os, he.tape.trans hB.tape, he.output.trans hB.output, Nat.le_trans hB.size hs, fun b hb hn => ?_⟩ (p := ⟨B5, 3, none⟩) (by show w0.heap.size ≤ B5; omega) v'
    have := hB.size
    rw [hblk b (by omega) (nt _ (by omega))]
    exact hB.block b hb hn
end
theorem ArIn.appc {n0 pb B5 : Nat} {tau t' : Tag} {tv : Value} {toks : List Tok} {W w' : World} {p : Nat} {q : Int} {op : Int} {l : List (Ex × Value)} {sv : Value} (h : ArIn n0 pb B5 tau tv toks W p q op l sv) (he : Evo tau W t' w' (· = 1)) :
    w'.heap[B5]? = some (.cells #[.int .i64 op, .int .i64 0, .string ⟨#[]⟩, sv] 28 (0, 0)) := by
  rw [he.block B5 h.lts.2 (fun e => (h.ge B5 e).1.2 rfl)]; exact h.c
theorem ArIn.newk {n0 pb B5 : Nat} {tau : Tag} {tv : Value} {toks : List Tok} {X W : World} {p : Nat} {q : Int} {op : Int} {l : List (Ex × Value)} {sv v : Value} {ks : List Ex} (h : ArIn n0 pb B5 tau tv toks X p q op l sv) (hk : KV (gn X.heap.size W) v ks) :
    KV (gp (fun b => (n0 < b ∧ b ≠ B5) ∧ tau b ≠ 1) W) v ks := by
  have := h.lts
  exact hk.mono (gp_le fun b hb _ => ⟨⟨⟨by omega, by omega⟩, fun e => by have := (h.ge b e).2; omega⟩, rfl⟩)

/-- Where it is wrong already: the box holds something. -/
structure BadIn (n0 B Be : Nat) (tv : Value) (W : World) (q : Nat) : Prop where
  st : ∃ p, XS W B tv p q
  z : zeroE W n0
  c : ∃ o n s a l c, W.heap[Be]? = some (.cells #[.int .i64 o, .int .i64 n, strV s, .slice a l c] 28 (0, 0))
  lt : n0 < Be
  pb : B < n0
theorem ArIn.junk {n0 pb B5 : Nat} {tau t' : Tag} {tv : Value} {toks : List Tok} {W w' : World} {p q m : Nat} {op : Int} {l : List (Ex × Value)} {sv v' : Value} {xs : List Value} (h : ArIn n0 pb B5 tau tv toks W p q op l sv) (hr : Row t' 1 w' 28 4 v' m xs)
    (he : Evo tau W t' w' (· = 1)) : BadIn n0 pb B5 tv (w'.setCell ⟨B5, 3, none⟩ v') q ∧ ∀ w0 : World, w0.heap.size = n0 → But pb w0 W → But pb w0 (w'.setCell ⟨B5, 3, none⟩ v') := by
  have hpb := h.pb
  have hlt := h.lt
  have z := h.z
  have c := h.c
  obtain ⟨l1, l2⟩ := h.lts
  have st := h.st
  unfold zeroE XS at *
  have lp := (Array.getElem?_eq_some_iff.1 st).1
  have nt : ∀ b, ¬ (n0 < b ∧ b ≠ B5) → tau b ≠ 1 := fun b hb e => hb (h.ge b e).1
  have hblk : ∀ b, b < W.heap.size → tau b ≠ 1 → w'.heap[b]? = W.heap[b]? := fun b hb hn => he.block b hb hn
  have hset : ∀ b, b ≠ B5 → (w'.setCell ⟨B5, 3, none⟩ v').heap[b]? = w'.heap[b]? := fun b hb => Below.heap_setCell _ _ _ _ (fun e => hb e)
  have hs := he.size
  obtain ⟨va, vc, rfl⟩ := hr.form
  refine ⟨⟨⟨p, ?_⟩, ?_, ⟨op, 0, [], va, m, vc, ?_⟩, hlt, hpb⟩, ?_⟩
  · unfold XS; rw [hset _ (by omega), hblk _ lp (nt _ (by omega))]; exact st
  · unfold zeroE; rw [hset _ (by omega), hblk _ l1 (nt _ (by omega))]; exact z
  · have hc2 : w'.heap[B5]? = some (.cells #[.int .i64 op, .int .i64 0, .string ⟨#[]⟩, sv] 28 (0, 0)) := by rw [hblk _ l2 (nt _ (by omega))]; exact c
    simp [World.setCell, Array.getElem?_modify, hc2, strV]
  · intro w0 h0 hB
    refine But.setNew ⟨he.os.trans hB.os, he.tape.trans hB.tape, he.output.trans hB.output, Nat.le_trans hB.size hs, fun b hb hn => ?_⟩ (p := ⟨B5, 3, none⟩) (by show w0.heap.size ≤ B5; omega) _
    have := hB.size
    rw [hblk b (by omega) (nt _ (by omega))]
    exact hB.block b hb hn

set_option maxRecDepth 1000000 in
set_option maxHeartbeats 2000000 in
theorem xtok_any (B p : Nat) (q : Int) (toks : List Tok) (t : Tok) (tv : Value) (w : World) (h : XS w B tv p q) (hT : TokV (gb B w) tv toks) (ht : toks[p]? = some t) (hl : toks.length ≤ 1000) :
    Calls Tryz.prog 35 #[.pointer (some ⟨B, 0, none⟩)] w fun e w' => e = .returned (tokV t.k t.s t.n t.p) ∧ Below w.heap.size w w' := by
  have hTg : TokV (gh w) tv toks := SlV.mono hT (gb_gh B w)
  obtain ⟨ta, tcap, rfl⟩ := hT.form
  obtain ⟨tb, toff, rfl, k0, k1, k2, k3⟩ := hTg.at ht
  obtain ⟨c0, c1, c2, f1, f2, hpl⟩ := h.cells
  have hpt := (List.getElem?_eq_some_iff.1 ht).1
  have i1 : (p : Int) < (toks.length : Int) := by omega
  have i0 : (0 : Int) ≤ (p : Int) := by omega
  have htl : tb < w.heap.size := World.block_lt_of_cell? w _ k0
  clear h hT hTg ht c2 f1 f2
  unfold tokV strV at *
  have a0 := cell_old htl k0
  have a1 := cell_old htl k1
  have a2 := cell_old htl k2
  have a3 := cell_old htl k3
  have a4 := cell_old hpl c0
  have a5 := cell_old hpl c1
  have n1 : ¬ w.heap.size = B := by omega
  have n2 : ¬ w.heap.size = tb := by omega
  go_enter Tryz.func35, Tryz.ntmps35
  go_wp2
  go_region
  go_wp2
  refine bodyPost_ret (v := .agg #[.int .i64 t.k, .string ⟨t.s.toArray⟩, .int .i64 t.n, .int .i64 t.p]) ?_ rfl ?_
  · simp [results, Tryz.results35, go_sem]
  · exact ⟨rfl, ((Below.refl _ _).alloc (Nat.le_refl _) _).drew⟩
theorem tok_field (k : Int) (s : ByteArray) (n p : Int) : (∀ W : World, (Instr.field 61 (.agg #[.int .i64 k, .string s, .int .i64 n, .int .i64 p]) 0).run Tryz.prog W = .ok (.int .i64 k) W) ∧
    (∀ W : World, (Instr.field 61 (.agg #[.int .i64 k, .string s, .int .i64 n, .int .i64 p]) 1).run Tryz.prog W = .ok (.string s) W) ∧
    (∀ W : World, (Instr.field 61 (.agg #[.int .i64 k, .string s, .int .i64 n, .int .i64 p]) 3).run Tryz.prog W = .ok (.int .i64 p) W) :=
  ⟨fun _ => by kernel_rfl, fun _ => by kernel_rfl, fun _ => by kernel_rfl⟩
set_option maxRecDepth 1000000 in
set_option maxHeartbeats 2000000 in
theorem rtwo_any (op o1 n1 o2 n2 : Int) (s1 s2 : Bs) (v1 v2 : Value) (w : World) :
    Calls Tryz.prog 64 #[.int .i64 op, exV o1 n1 s1 v1, exV o2 n2 s2 v2] w fun e w' => ∃ g, e = .returned (exV op 0 [] (.slice (some ⟨g, 0, none⟩) 2 2)) ∧ Below w.heap.size w w' ∧ w.heap.size ≤ g ∧
      w'.heap[g]? = some (.cells #[.int .i64 o1, .int .i64 n1, strV s1, v1, .int .i64 o2, .int .i64 n2, strV s2, v2] 28 (0, 0)) := by
  unfold exV strV
  go_enter Tryz.func64, Tryz.ntmps64
  go_wp2
  refine bodyPost_ret (v := .agg #[.int .i64 op, .int .i64 0, .string ⟨#[]⟩, .slice (some ⟨w.heap.size + 1 + 1 + 1, 0, none⟩) 2 2]) ?_ rfl ?_
  · simp [results, Tryz.results64, go_sem]
  · have hh := heap_alloc_new (((w.alloc (.cells #[.int .i64 o1, .int .i64 n1, .string ⟨s1.toArray⟩, v1] 28)).alloc (.cells #[.int .i64 o2, .int .i64 n2, .string ⟨s2.toArray⟩, v2] 28)).alloc (.cells #[.int .i64 op, .int .i64 0, .string ⟨#[]⟩, .slice (some ⟨w.heap.size + 1 + 1 + 1, 0, none⟩) 2 2] 28)) (.cells #[.int .i64 o1, .int .i64 n1, .string ⟨s1.toArray⟩, v1, .int .i64 o2, .int .i64 n2, .string ⟨s2.toArray⟩, v2] 28)
    rw [show (((w.alloc (.cells #[.int .i64 o1, .int .i64 n1, .string ⟨s1.toArray⟩, v1] 28)).alloc (.cells #[.int .i64 o2, .int .i64 n2, .string ⟨s2.toArray⟩, v2] 28)).alloc (.cells #[.int .i64 op, .int .i64 0, .string ⟨#[]⟩, .slice (some ⟨w.heap.size + 1 + 1 + 1, 0, none⟩) 2 2] 28)).heap.size = w.heap.size + 1 + 1 + 1 by simp] at hh
    exact ⟨_, rfl, ((((Below.refl _ _).alloc (Nat.le_refl _) _).alloc (by simp) _).alloc (by simp; omega) _).alloc (by simp; omega) _, by omega, hh⟩

set_option maxRecDepth 1000000 in
set_option maxHeartbeats 2000000 in
theorem xsign_no (s : Bs) (B p : Nat) (toks : List Tok) (t : Tok) (tv : Value) (w : World) (h : XS w B tv p (-1)) (hT : TokV (gb B w) tv toks) (ht : toks[p]? = some t) (hl : toks.length ≤ 1000) (hs : isSg s t = false) :
    Calls Tryz.prog 63 #[.pointer (some ⟨B, 0, none⟩), strV s] w fun e w' => e = .returned (.bool false) ∧ Below w.heap.size w w' := by
  have HT := Lib.hid (fun W (hb : Below w.heap.size w W) => xtok_any B p (-1) toks t tv W (h.keep hb) (SlV.mono hT (But.below (pb := B) hb).gb) ht hl)
  obtain ⟨c0, c1, c2, f1, f2, hpl⟩ := h.cells
  have hs := of_decide_eq_false hs
  clear h hT ht
  unfold tokV strV at *
  obtain ⟨fd0, fd1, fd3⟩ := tok_field t.k ⟨t.s.toArray⟩ t.n t.p
  by_cases h4 : t.k = 4
  · have q1 : (t.k != 4) = false := by simp [h4]
    have q2 : (t.s == s) = false := beq_eq_false_iff_ne.2 (fun e => hs ⟨h4, e⟩)
    clear hs h4
    go_enter Tryz.func63, Tryz.ntmps63
    go_wp2_with fail
    refine (HT.out _ (Below.refl _ _)).mono ?_
    rintro e W1 ⟨rfl, hb⟩
    go_wp2_with fail
    refine (HT.out _ hb).mono ?_
    rintro e W2 ⟨rfl, hb2⟩
    have hb3 := hb.seq hb2
    go_wp2
    go_ret
    exact ⟨rfl, hb3⟩
  · have q1 : (t.k != 4) = true := bne_iff_ne.2 h4
    clear hs h4
    go_enter Tryz.func63, Tryz.ntmps63
    go_wp2_with fail
    refine (HT.out _ (Below.refl _ _)).mono ?_
    rintro e W1 ⟨rfl, hb⟩
    go_wp2
    go_ret
    exact ⟨rfl, hb⟩
set_option maxRecDepth 1000000 in
set_option maxHeartbeats 2000000 in
theorem xsign_yes (s : Bs) (B p : Nat) (toks : List Tok) (t : Tok) (tv : Value) (w : World) (h : XS w B tv p (-1)) (hT : TokV (gb B w) tv toks) (ht : toks[p]? = some t) (hl : toks.length ≤ 1000) (hs : isSg s t = true) :
    Calls Tryz.prog 63 #[.pointer (some ⟨B, 0, none⟩), strV s] w fun e w' => e = .returned (.bool true) ∧ But B w w' ∧ XS w' B tv (p + 1) (-1) := by
  have HT := Lib.hid (fun W (hb : Below w.heap.size w W) => xtok_any B p (-1) toks t tv W (h.keep hb) (SlV.mono hT (But.below (pb := B) hb).gb) ht hl)
  have hpt := (List.getElem?_eq_some_iff.1 ht).1
  have i1 : (p : Int) < 1000 := by omega
  have i0 : (0 : Int) ≤ (p : Int) := by omega
  obtain ⟨c0, c1, c2, f1, f2, hpl⟩ := h.cells
  have HX := Lib.hid h
  have hs := of_decide_eq_true hs
  clear h hT ht
  unfold tokV strV at *
  obtain ⟨fd0, fd1, fd3⟩ := tok_field t.k ⟨t.s.toArray⟩ t.n t.p
  have q1 : (t.k != 4) = false := by simp [hs.1]
  have q2 : (t.s == s) = true := by simp [hs.2]
  clear hs
  go_enter Tryz.func63, Tryz.ntmps63
  go_wp2_with fail
  refine (HT.out _ (Below.refl _ _)).mono ?_
  rintro e W1 ⟨rfl, hb⟩
  go_wp2_with fail
  refine (HT.out _ hb).mono ?_
  rintro e W2 ⟨rfl, hb2⟩
  have HB3 := Lib.hid (hb.seq hb2)
  have HX2 := Lib.hid (HX.out.keep (hb.seq hb2))
  clear hb hb2 c0 c1 c2 f1 f2 hpl
  obtain ⟨c0, c1, c2, f1, f2, hpl⟩ := HX2.out.cells
  go_wp2
  go_ret
  exact ⟨rfl, (But.below HB3.out).setPb 1 _, HX2.out.setI _ (by omega)⟩
set_option maxRecDepth 1000000 in
set_option maxHeartbeats 2000000 in
theorem xsign_bad (s : Bs) (B p q : Nat) (tv : Value) (w : World) (h : XS w B tv p q) :
    Calls Tryz.prog 63 #[.pointer (some ⟨B, 0, none⟩), strV s] w fun e w' => e = .returned (.bool false) ∧ w = w' := by
  obtain ⟨c0, c1, c2, f1, f2, hpl⟩ := h.cells
  clear h
  unfold strV
  have i0 : (0 : Int) ≤ (q : Int) := by omega
  go_enter Tryz.func63, Tryz.ntmps63
  go_wp2
  go_ret
  exact ⟨rfl, rfl⟩
set_option maxRecDepth 1000000 in
set_option maxHeartbeats 2000000 in
theorem xwrong_any (B p : Nat) (toks : List Tok) (t : Tok) (tv : Value) (w : World) (h : XS w B tv p (-1)) (hT : TokV (gb B w) tv toks) (ht : toks[p]? = some t) (hl : toks.length ≤ 1000) :
    Calls Tryz.prog 36 #[.pointer (some ⟨B, 0, none⟩)] w fun e w' => e = .returned (exV 0 0 [] (.slice none 0 0)) ∧ But B w w' ∧ XS w' B tv p t.p := by
  have hb0 := (Below.refl w.heap.size w).alloc (Nat.le_refl _) (.cells #[.int .i64 0, .int .i64 0, .string ⟨#[]⟩, .slice none 0 0] 28)
  have HT := Lib.hid (xtok_any B p (-1) toks t tv _ (h.keep hb0) (SlV.mono hT (But.below (pb := B) hb0).gb) ht hl)
  have HZ := Lib.hid (heap_alloc_new w (.cells #[.int .i64 0, .int .i64 0, .string ⟨#[]⟩, .slice none 0 0] 28))
  have HX := Lib.hid (h.keep hb0)
  have HB := Lib.hid hb0
  have hpl := h.cells.2.2.2.2.2
  obtain ⟨c0, c1, c2, f1, f2, -⟩ := (h.keep hb0).cells
  have hsz : w.heap.size < (w.alloc (.cells #[.int .i64 0, .int .i64 0, .string ⟨#[]⟩, .slice none 0 0] 28)).heap.size := by simp
  clear h hT ht hb0
  unfold tokV at HT
  obtain ⟨fd0, fd1, fd3⟩ := tok_field t.k ⟨t.s.toArray⟩ t.n t.p
  unfold strV at *
  go_enter Tryz.func36, Tryz.ntmps36
  go_upto_region 1 with fail
  generalize w.alloc (.cells #[.int .i64 0, .int .i64 0, .string ⟨#[]⟩, .slice none 0 0] 28) = W0 at *
  go_wp2_with fail
  refine HT.out.mono ?_
  rintro e W1 ⟨rfl, hb⟩
  have HX1 := Lib.hid (HX.out.keep hb)
  have HB1 := Lib.hid (HB.out.seq hb)
  have hz1 := (hb.block _ hsz).trans HZ.out
  clear hb c0 c1 c2 f1 f2
  obtain ⟨c0, c1, c2, f1, f2, -⟩ := HX1.out.cells
  obtain ⟨⟨d0, d1, d2, d3⟩, e0, e1, e2, e3⟩ := four_all hz1
  have n1 : ¬ w.heap.size = B := by omega
  have n2 : ¬ B = w.heap.size := by omega
  have HZ1 := Lib.hid hz1
  clear hz1
  go_wp2
  refine bodyPost_ret (v := exV 0 0 [] (.slice none 0 0)) ?_ rfl ?_
  · have hh := four_all (set4_heap ((Below.heap_setCell W1 ⟨B, 2, none⟩ (.int .i64 t.p) w.heap.size (fun e => n1 e)).trans HZ1.out) (.int .i64 0) (.int .i64 0) (.string ⟨#[]⟩) (.slice none 0 0))
    simp [results, Tryz.results36, go_sem, exV, strV, hh.1]
  · exact ⟨rfl, ((But.below HB1.out).setPb 2 _).set4 (Nat.le_refl _) _ _ _ _, (HX1.out.setQ _).set4 n2 _ _ _ _⟩
set_option maxRecDepth 1000000 in
set_option maxHeartbeats 2000000 in
theorem xmust_no (s : Bs) (B p : Nat) (toks : List Tok) (t : Tok) (tv : Value) (w : World) (h : XS w B tv p (-1)) (hT : TokV (gb B w) tv toks) (ht : toks[p]? = some t) (hl : toks.length ≤ 1000) (hs : isSg s t = false) :
    Calls Tryz.prog 226 #[.pointer (some ⟨B, 0, none⟩), strV s] w fun e w' => e = .returned (.tuple #[]) ∧ But B w w' ∧ XS w' B tv p t.p := by
  have HS := Lib.hid (xsign_no s B p toks t tv w h hT ht hl hs)
  have HW := Lib.hid (fun W (hb : Below w.heap.size w W) => xwrong_any B p toks t tv W (h.keep hb) (SlV.mono hT (But.below (pb := B) hb).gb) ht hl)
  obtain ⟨c0, c1, c2, f1, f2, hpl⟩ := h.cells
  clear h hT ht
  unfold strV at *
  go_enter Tryz.func226, Tryz.ntmps226
  go_wp2_with fail
  refine HS.out.mono ?_
  rintro e W1 ⟨rfl, hb⟩
  have HB := Lib.hid (But.below (pb := B) hb)
  go_wp2_with fail
  refine (HW.out _ hb).mono ?_
  rintro e W2 ⟨rfl, hb2, hx⟩
  have hb3 := HB.out.trans hb2
  clear hb2
  go_wp2
  go_end0
  exact ⟨rfl, hb3, hx⟩
set_option maxRecDepth 1000000 in
set_option maxHeartbeats 2000000 in
theorem xmust_yes (s : Bs) (B p : Nat) (toks : List Tok) (t : Tok) (tv : Value) (w : World) (h : XS w B tv p (-1)) (hT : TokV (gb B w) tv toks) (ht : toks[p]? = some t) (hl : toks.length ≤ 1000) (hs : isSg s t = true) :
    Calls Tryz.prog 226 #[.pointer (some ⟨B, 0, none⟩), strV s] w fun e w' => e = .returned (.tuple #[]) ∧ But B w w' ∧ XS w' B tv (p + 1) (-1) := by
  have HS := Lib.hid (xsign_yes s B p toks t tv w h hT ht hl hs)
  obtain ⟨c0, c1, c2, f1, f2, hpl⟩ := h.cells
  clear h hT ht
  unfold strV at *
  go_enter Tryz.func226, Tryz.ntmps226
  go_wp2_with fail
  refine HS.out.mono ?_
  rintro e W1 ⟨rfl, hb, hx⟩
  go_wp2
  go_end0
  exact ⟨rfl, hb, hx⟩
set_option maxRecDepth 1000000 in
set_option maxHeartbeats 2000000 in
theorem xmust_bad (s : Bs) (B p q : Nat) (tv : Value) (w : World) (h : XS w B tv p q) :
    Calls Tryz.prog 226 #[.pointer (some ⟨B, 0, none⟩), strV s] w fun e w' => e = .returned (.tuple #[]) ∧ w = w' := by
  obtain ⟨c0, c1, c2, f1, f2, hpl⟩ := h.cells
  clear h
  unfold strV
  have i0 : (0 : Int) ≤ (q : Int) := by omega
  go_enter Tryz.func226, Tryz.ntmps226
  go_wp2
  go_end0
  exact ⟨rfl, rfl⟩
end Go.Proofs.YtoklhppalkgdeaaGreatDoor
