/- The map of a form's names to their places, as it lies in memory. No condition. -/
import Derived.Test.YtpfhhikbaeknpaaGreatDoorSA
import Derived.Maps.OwnSet
set_option linter.unusedSectionVars false
set_option linter.unusedSimpArgs false
set_option linter.unusedVariables false
namespace Go.Proofs.YtpfhhikbaeknpaaGreatDoor
open Go.RowKit Pal Go.Maps
theorem nm_law : Keyed Tryz.prog 9 := string_keyed Tryz.underlying9
theorem nm_zero (w : World) : (zeroValue 3).run Tryz.prog w = .ok (.int .i64 0) w := by kernel_rfl
/-- Block b is the map of the names' places. -/
def NmAt (w : World) (b : Nat) (ns : List Bs) : Prop :=
  ∃ (n : Nat) (D : DataW Unit),w.ownsMap Tryz.prog 9 (plainElem Tryz.prog 3) b n D ∧ n ≤ ns.length ∧ (∀ s : Bs,Maps.has D (.string s) = (posT ns s).isSome) ∧
    ∀ (s : Bs) (j : Nat),posT ns s = some j → D.atKey (.string s) (.lit (.int .i64 0)) = .lit (.int .i64 j)
theorem NmAt.made (w : World) : NmAt (w.alloc (.map #[] 0)) w.heap.size [] :=
  ⟨0,.map [],World.ownsMap_made _ _ _ _,Nat.le_refl _,fun s => rfl,fun s j h => by simp [posT] at h⟩
theorem NmAt.lt {w : World} {b : Nat} {ns : List Bs} (h : NmAt w b ns) : b < w.heap.size := by
  obtain ⟨n,D,h1,_⟩ := h; exact h1.lt
theorem NmAt.keep {w w' : World} {b : Nat} {ns : List Bs} (h : NmAt w b ns) (hb : w'.heap[b]? = w.heap[b]?) : NmAt w' b ns := by
  obtain ⟨n,D,⟨es,clock,h1,r⟩,q⟩ := h
  exact ⟨n,D,⟨es,clock,hb.trans h1,r⟩,q⟩
theorem nm_key (s : Bs) (hs : s.length ≤ maxLen) : keyOf Tryz.prog 9 (.string ⟨s.toArray⟩) = some (.string s) :=
  WideMaps.keyOf_string_mk (P := Tryz.prog) Tryz.underlying9 (s := ⟨s.toArray⟩) (by simpa [ByteArray.size] using hs)
theorem NmAt.atKey {ns : List Bs} {D : DataW Unit} (h1 : ∀ s : Bs,Maps.has D (.string s) = (posT ns s).isSome) (h2 : ∀ (s : Bs) (j : Nat),posT ns s = some j → D.atKey (.string s) (.lit (.int .i64 0)) = .lit (.int .i64 j)) (s : Bs) :
    D.atKey (.string s) (.lit (.int .i64 0)) = .lit (.int .i64 ((posT ns s).getD 0 : Nat)) := by
  cases hp : posT ns s with
  | none => rw [Maps.atKey_of_not_has (by rw [h1 s,hp]; rfl)]; rfl
  | some j => exact h2 s j hp
theorem NmAt.look {w : World} {b : Nat} {ns : List Bs} (h : NmAt w b ns) (s : Bs) (hs : s.length ≤ maxLen) :
    (Instr.lookup 54 (.map (some b)) (.string ⟨s.toArray⟩) true).run Tryz.prog w = .ok (.tuple #[.int .i64 ((posT ns s).getD 0 : Nat),.bool (posT ns s).isSome]) w := by
  obtain ⟨n,D,h0,_,h1,h2⟩ := h
  obtain ⟨v,ps,hr,hv⟩ := h0.look_ok nm_law Tryz.underlying54 (nm_zero w) (zd := .lit (.int .i64 0)) (zp := []) (plainElem_int Tryz.underlying3 (by decide)) (nm_key s hs)
  obtain ⟨c,rfl,hc,_⟩ := plainElem_int_inv Tryz.underlying3 hv
  rw [NmAt.atKey h1 h2 s] at hc
  simp only [Prod.mk.injEq,DataW.lit.injEq,Lit.int.injEq,true_and] at hc
  rw [hr,h1 s,← hc.1]
theorem NmAt.get {w : World} {b : Nat} {ns : List Bs} (h : NmAt w b ns) (s : Bs) (hs : s.length ≤ maxLen) :
    (Instr.lookup 54 (.map (some b)) (.string ⟨s.toArray⟩) false).run Tryz.prog w = .ok (.int .i64 ((posT ns s).getD 0 : Nat)) w := by
  obtain ⟨n,D,h0,_,h1,h2⟩ := h
  obtain ⟨c,hr,hc,_⟩ := h0.lookup_int nm_law Tryz.underlying54 Tryz.underlying3 (nm_zero w) (nm_key s hs)
  rw [NmAt.atKey h1 h2 s] at hc
  simp only [DataW.lit.injEq,Lit.int.injEq,true_and] at hc
  rw [hr,← hc]
theorem NmAt.store {w : World} {b : Nat} {ns : List Bs} (h : NmAt w b ns) (s : Bs) (hs : s.length ≤ maxLen) (hl : ns.length ≤ 1000) (hp : posT ns s = none) :
    ∃ w',(Instr.mapUpdate 54 (.map (some b)) (.string ⟨s.toArray⟩) (.int .i64 ns.length)).run Tryz.prog w = .ok () w' ∧ NmAt w' b (ns ++ [s]) ∧ w.mapTurned w' b := by
  obtain ⟨n,D,h0,h3,h1,h2⟩ := h
  have hwf : (Lit.int .i64 (ns.length : Int)).wf = true := WalkArith.wf_i64 (by omega)
  obtain ⟨w',hr,ho,ht⟩ := h0.store nm_law Tryz.underlying54 (by unfold maxLen; omega) (nm_key s hs) (plainElem_int Tryz.underlying3 hwf)
  have hIs := h0.isMap
  have hkey := nm_law.key (nm_key s hs)
  refine ⟨w',hr,⟨n + 1,_,ho,by rw [List.length_append,List.length_singleton]; omega,fun x => ?_,fun x j hx => ?_⟩,ht⟩
  · rw [posT_snoc]
    by_cases e : x = s
    · subst e
      rw [Maps.has_put_same hIs hkey,hp]
      simp
    · rw [Maps.has_put_other (fun h => e (by cases h; rfl)),h1 x]
      cases posT ns x with
      | some j => rfl
      | none => simp [Ne.symm e]
  · rw [posT_snoc] at hx
    by_cases e : x = s
    · subst e
      rw [hp] at hx
      simp at hx
      subst hx
      rw [Maps.atKey_put_same hIs hkey]
    · rw [Maps.atKey_put_other (fun h => e (by cases h; rfl))]
      cases hq : posT ns x with
      | some i => rw [hq] at hx; cases hx; exact h2 x _ hq
      | none => rw [hq] at hx; simp [Ne.symm e] at hx
theorem turned_evo {t : Tag} {w w' : World} {b : Nat} {K : Nat → Prop} (h : w.mapTurned w' b) (hk : K (t b)) : Evo t w t w' K := by
  obtain ⟨h1,h2,h3,h4,h5⟩ := h.grown
  exact ⟨h1,h2,h3,h4,fun _ _ => rfl,fun x hx hn => h5 x hx (fun e => by cases e; exact hn hk)⟩
end Go.Proofs.YtpfhhikbaeknpaaGreatDoor
