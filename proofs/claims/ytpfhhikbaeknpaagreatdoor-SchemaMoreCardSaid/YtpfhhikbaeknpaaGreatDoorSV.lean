/- A field more at a form's end, that nobody needs and that needs nothing, turns nothing of those ahead: plain law. No condition. -/
import Derived.Test.YtpfhhikbaeknpaaGreatDoorSJ
set_option linter.unusedSectionVars false
set_option linter.unusedSimpArgs false
set_option linter.unusedVariables false
namespace Go.Proofs.YtpfhhikbaeknpaaGreatDoor
open Go.RowKit Pal
section
variable {N : Nat} {xss : List (List Int)} {done : List Bool}
theorem lst_more (hn : xss.length = N) (hb : ∀ nd ∈ xss,∀ d ∈ nd,0 ≤ d ∧ d < (N : Int)) {i : Nat} (hi : i < N) : Graph.lst ((N + 1 : Nat) : Int) (xss ++ [[]]) i = Graph.lst (N : Int) xss i := by
  unfold Graph.lst
  rw [List.getElem?_append_left (by omega),List.getElem?_eq_getElem (by omega)]
  simp only [Option.getD_some]
  refine List.filter_congr fun k hk => ?_
  obtain ⟨h1,h2⟩ := hb _ (List.getElem_mem (by omega)) k hk
  rw [decide_eq_true h1,decide_eq_true h2,decide_eq_true (show k < ((N + 1 : Nat) : Int) by omega)]
theorem lst_last (hn : xss.length = N) : Graph.lst ((N + 1 : Nat) : Int) (xss ++ [[]]) N = [] := by
  unfold Graph.lst
  rw [List.getElem?_append_right (by omega)]
  simp [hn]
theorem getD_app {α : Type} {l : List α} {b d : α} {i : Nat} (hi : i < l.length) : (l ++ [b]).getD i d = l.getD i d := by
  simp only [List.getD]
  rw [List.getElem?_append_left hi]
theorem may_more (hn : xss.length = N) (hb : ∀ nd ∈ xss,∀ d ∈ nd,0 ≤ d ∧ d < (N : Int)) (hl : done.length = N) {i : Nat} (hi : i < N) :
    Graph.may ((N + 1 : Nat) : Int) (xss ++ [[]]) (done ++ [false]) i = Graph.may (N : Int) xss done i := by
  unfold Graph.may Graph.freeB
  rw [lst_more hn hb hi,getD_app (by omega)]
  congr 1
  have e : ∀ k ∈ Graph.lst (N : Int) xss i,Graph.isDone (done ++ [false]) k = Graph.isDone done k := by
    intro k hk
    unfold Graph.lst at hk
    have h := (List.mem_filter.1 hk).2
    simp only [Bool.and_eq_true,decide_eq_true_eq] at h
    unfold Graph.isDone
    exact getD_app (by omega)
  rw [Bool.eq_iff_iff]
  simp only [List.all_eq_true]
  exact ⟨fun h k hk => by rw [← e k hk]; exact h k hk,fun h k hk => by rw [e k hk]; exact h k hk⟩
theorem pick_more (hn : xss.length = N) (hb : ∀ nd ∈ xss,∀ d ∈ nd,0 ≤ d ∧ d < (N : Int)) (hl : done.length = N) {i : Nat} (h : Graph.pick (N : Int) xss done = some i) :
    Graph.pick ((N + 1 : Nat) : Int) (xss ++ [[]]) (done ++ [false]) = some i := by
  obtain ⟨h1,h2,h3⟩ := Graph.pick_some h
  simp only [Int.toNat_natCast] at h1
  exact Graph.pick_some_of (by simp; omega) (by rw [may_more hn hb hl h1]; exact h2) (fun j hj => by rw [may_more hn hb hl (by omega)]; exact h3 j hj)
theorem pick_last (hn : xss.length = N) (hb : ∀ nd ∈ xss,∀ d ∈ nd,0 ≤ d ∧ d < (N : Int)) (hl : done.length = N) (h : Graph.pick (N : Int) xss done = none) :
    Graph.pick ((N + 1 : Nat) : Int) (xss ++ [[]]) (done ++ [false]) = some N := by
  have h1 := Graph.pick_none_iff.1 h
  simp only [Int.toNat_natCast] at h1
  refine Graph.pick_some_of (by simp) ?_ (fun j hj => by rw [may_more hn hb hl hj]; exact h1 j hj)
  unfold Graph.may Graph.freeB
  rw [lst_last hn]
  simp [List.getD,hl,List.getElem?_append_right]
theorem st_le (j : Nat) : (Graph.st (N : Int) xss j).1.length ≤ j := by
  induction j with
  | zero => simp [Graph.st]
  | succ j ih =>
    cases h : Graph.pick (N : Int) xss (Graph.st (N : Int) xss j).2 with
    | none => show (Graph.step _ _ _).1.length ≤ _; rw [Graph.step_none h]; omega
    | some i => rw [Graph.st_length_succ h]; omega
theorem st_more (hn : xss.length = N) (hb : ∀ nd ∈ xss,∀ d ∈ nd,0 ≤ d ∧ d < (N : Int)) (j : Nat) (h : (Graph.st (N : Int) xss j).1.length = j) :
    Graph.st ((N + 1 : Nat) : Int) (xss ++ [[]]) j = ((Graph.st (N : Int) xss j).1,(Graph.st (N : Int) xss j).2 ++ [false]) := by
  induction j with
  | zero => simp only [Graph.st,Int.toNat_natCast,List.replicate_succ']
  | succ j ih =>
    cases hp : Graph.pick (N : Int) xss (Graph.st (N : Int) xss j).2 with
    | none =>
      have h1 : Graph.st (N : Int) xss (j + 1) = Graph.st (N : Int) xss j := Graph.step_none hp
      rw [h1] at h
      have := st_le (N := N) (xss := xss) j
      omega
    | some i =>
      have h2 := Graph.st_length_succ hp
      have ih := ih (by omega)
      have hl := Graph.st_len (n := (N : Int)) (xss := xss) j
      simp only [Int.toNat_natCast] at hl
      have hi := (Graph.pick_some hp).1
      simp only [Int.toNat_natCast] at hi
      show Graph.step _ _ _ = ((Graph.step _ _ _).1,(Graph.step _ _ _).2 ++ [false])
      rw [ih,Graph.step_some hp,Graph.step_some (pick_more hn hb hl hp)]
      simp only
      rw [List.set_append_left _ _ (by omega)]
theorem orderS_more (hn : xss.length = N) (hN : N ≤ 4000) (hb : ∀ nd ∈ xss,∀ d ∈ nd,0 ≤ d ∧ d < (N : Int)) (h : (Graph.orderS (N : Int) xss).2 = true) :
    Graph.orderS ((N + 1 : Nat) : Int) (xss ++ [[]]) = ((Graph.orderS (N : Int) xss).1 ++ [(N : Int)],true) := by
  obtain ⟨g1,g2⟩ := orderS_ok (by omega) h
  have hle := st_le (N := N) (xss := xss) N
  have hm := st_more hn hb N (by omega)
  have hl := Graph.st_len (n := (N : Int)) (xss := xss) N
  simp only [Int.toNat_natCast] at hl
  have hs : Graph.st ((N + 1 : Nat) : Int) (xss ++ [[]]) (N + 1) = ((Graph.st (N : Int) xss N).1 ++ [(N : Int)],((Graph.st (N : Int) xss N).2 ++ [false]).set N true) := by
    show Graph.step _ _ _ = _
    rw [hm]
    exact Graph.step_some (pick_last hn hb hl (Graph.st_none N xss))
  rw [g1]
  unfold Graph.orderS
  rw [if_pos (by omega)]
  simp only [Int.toNat_natCast]
  rw [hs]
  simp only [List.length_append,List.length_singleton]
  rw [if_neg (by omega)]
end
theorem namesOk_more (f : Fd) (hf : isName f.n = true) (ht : 1 ≤ f.t ∧ f.t ≤ 3) : ∀ (r : List Fd) (seen : List Bs) (i : Nat),namesOk seen i r = none → f.n ∉ seen → (∀ g ∈ r,g.n ≠ f.n) → namesOk seen i (r ++ [f]) = none
  | [],seen,i,_,h2,_ => by
    show namesOk seen i [f] = none
    unfold namesOk
    rw [if_neg (by simp [hf,h2]),if_pos ht]
    rfl
  | g :: r,seen,i,h,h2,h3 => by
    rw [List.cons_append]
    unfold namesOk at h ⊢
    by_cases h4 : seen.contains g.n = true ∨ isName g.n = false
    · rw [if_pos h4] at h; cases h
    · rw [if_neg h4] at h ⊢
      by_cases h5 : 1 ≤ g.t ∧ g.t ≤ 3
      · rw [if_pos h5] at h ⊢
        refine namesOk_more f hf ht r _ _ h ?_ (fun x hx => h3 x (List.mem_cons_of_mem _ hx))
        intro hm
        rcases List.mem_append.1 hm with hm | hm
        · exact h2 hm
        · rw [List.mem_singleton] at hm; exact h3 g List.mem_cons_self hm.symm
      · rw [if_neg h5] at h; cases h
theorem typeOf_occ {e : Ex} {ns : List Bs} {ts : List Int} {t : Int} (h : typeOf e ns ts = (t,0)) : ∀ s,Occ e s → s ∈ ns := by
  intro s ho
  unfold typeOf at h
  by_cases hc : check e = true
  · rw [if_pos hc] at h
    cases ht : typ ns ts e with
    | ok u => exact typ_names e u ht s ho
    | error q =>
      exfalso
      rw [ht] at h
      simp only [Prod.mk.injEq] at h
      have := typ_err_ne ns ts e q ht
      omega
  · rw [if_neg hc] at h
    simp at h
theorem putM_more {ns : List Bs} {ts : List Int} {want : Int} {x m : Bs} {t : Int} {o : Option Ex} (hl : ns.length = ts.length) (hm : m ∉ ns) (h : putM ns ts want x = .ok o) : putM (ns ++ [m]) (ts ++ [t]) want x = .ok o := by
  rcases putM_ok h with ⟨h1,h2⟩ | ⟨h1,e,h2,h3,h4⟩
  · subst h2; unfold putM; rw [if_pos h1]
  · have hq := (more_plain (e := e) (m := m) (t := t) (fun ho => hm (typeOf_occ h4 m ho)) hl).2
    unfold putM
    rw [if_neg h1,h3]
    simp only [hq,h4,ne_eq,not_true_eq_false,if_false]
    rw [h2]
theorem readsM_more {ns : List Bs} {ts : List Int} {m : Bs} {t : Int} {f : Fd} {x : X3} (hl : ns.length = ts.length) (hm : m ∉ ns) (h : readsM ns ts f = .ok x) : readsM (ns ++ [m]) (ts ++ [t]) f = .ok x := by
  obtain ⟨h1,h2,h3⟩ := readsM_ok h
  unfold readsM
  rw [putM_more hl hm h1,putM_more hl hm h2,putM_more hl hm h3]
theorem readAll_more {ns : List Bs} {ts : List Int} {m : Bs} {t : Int} {f : Fd} (hl : ns.length = ts.length) (hm : m ∉ ns) (hf : f.fo = [] ∧ f.ru = [] ∧ f.sh = []) : ∀ (r : List Fd) (i : Nat) (es : List X3),readAll ns ts i r = .ok es → readAll (ns ++ [m]) (ts ++ [t]) i (r ++ [f]) = .ok (es ++ [(none,none,none)])
  | [],i,es,h => by
    simp only [readAll,Except.ok.injEq] at h
    subst h
    have hr : readsM (ns ++ [m]) (ts ++ [t]) f = .ok (none,none,none) := by
      unfold readsM putM
      rw [if_pos hf.1,if_pos hf.2.1,if_pos hf.2.2]
    show readAll _ _ i [f] = _
    rw [readAll_cons hr]
    rfl
  | g :: r,i,es,h => by
    cases hg : readsM ns ts g with
    | error e => rw [readAll_err hg] at h; cases h
    | ok y =>
      rw [readAll_cons hg] at h
      cases hr : readAll ns ts (i + 1) r with
      | error e => rw [hr] at h; cases h
      | ok l =>
        rw [hr] at h
        simp only [joinX,Except.ok.injEq] at h
        subst h
        rw [List.cons_append,readAll_cons (readsM_more hl hm hg),readAll_more hl hm hf r (i + 1) l hr]
        simp [joinX]
theorem posM_more {ns m : List Bs} {x : Bs} (h : x ∉ m) : posM (ns ++ [x]) m = posM ns m := by
  unfold posM
  rw [List.length_append,List.length_singleton,List.range_succ,List.filter_append,List.map_append]
  have e1 : (List.range ns.length).filter (fun j => m.contains ((ns ++ [x]).getD j [])) = (List.range ns.length).filter (fun j => m.contains (ns.getD j [])) := by
    refine List.filter_congr fun j hj => ?_
    rw [getD_app (List.mem_range.1 hj)]
  have e2 : (m.contains ((ns ++ [x]).getD ns.length [])) = false := by simp [List.getD,h]
  rw [e1,List.filter_cons,e2]
  simp
/-- A field more. -/
theorem newM_more {l : List Fd} {f : Fd} {F : Form} (h : newM l = .ok F) (hl : l.length < 24) (hn : isName f.n = true) (ht : 1 ≤ f.t ∧ f.t ≤ 3) (hf : f.fo = [] ∧ f.ru = [] ∧ f.sh = []) (hm : ∀ g ∈ l,g.n ≠ f.n) :
    newM (l ++ [f]) = .ok ⟨l ++ [f],F.es ++ [(none,none,none)],F.needs ++ [[]],F.order⟩ := by
  obtain ⟨h0,h1,h2,h3,h4,h5,h6⟩ := newM_ok h
  obtain ⟨hl1,hl2⟩ := newM_len h
  have A := newM_ahead h
  have hmn : f.n ∉ Fd.names l := by
    intro hx
    obtain ⟨g,hg,he⟩ := List.mem_map.1 hx
    exact hm g hg he
  have hnl : (Fd.names l).length = l.length := by simp [Fd.names]
  have htl : (Fd.types l).length = l.length := by simp [Fd.types]
  have eN : Fd.names (l ++ [f]) = Fd.names l ++ [f.n] := by simp [Fd.names]
  have eT : Fd.types (l ++ [f]) = Fd.types l ++ [f.t] := by simp [Fd.types]
  have e1 := namesOk_more f hn ht l [] 0 h1 (by simp) hm
  have e2 := readAll_more (f := f) (t := f.t) (by rw [hnl,htl]) hmn hf l 0 F.es h2
  have e3 : (F.es ++ [((none,none,none) : X3)]).map (needM (Fd.names l ++ [f.n])) = F.needs ++ [[]] := by
    rw [List.map_append,h4]
    have e : F.es.map (needM (Fd.names l ++ [f.n])) = F.es.map (needM (Fd.names l)) := by
      refine List.map_congr_left fun x hx => ?_
      obtain ⟨i,hi,rfl⟩ := List.mem_iff_getElem.1 hx
      have hr := readAll_at l 0 F.es h2 i l[i] F.es[i] (List.getElem?_eq_getElem (by omega)) (List.getElem?_eq_getElem hi)
      have hp := (readsM_ok hr).1
      unfold needM
      cases hq : F.es[i].1 with
      | none => rfl
      | some e =>
        rw [hq] at hp
        exact posM_more (fun hc => hmn ((putM_some hp).2.2 _ hc))
    rw [e]; rfl
  have hb : ∀ nd ∈ F.needs,∀ d ∈ nd,0 ≤ d ∧ d < (l.length : Int) := by
    intro nd hnd d hd
    obtain ⟨i,hi,rfl⟩ := List.mem_iff_getElem.1 hnd
    have := A.needs i d (by omega) (by rw [List.getElem?_eq_getElem hi]; exact hd)
    exact ⟨this.1,this.2.1⟩
  have e4 := orderS_more (N := l.length) (xss := F.needs) (by omega) (by omega) hb h5
  have e5 : ((Graph.orderS l.length F.needs).1 ++ [(l.length : Int)]).filter (hasF (F.es ++ [((none,none,none) : X3)])) = F.order := by
    rw [h6,List.filter_append]
    have hz : hasF (F.es ++ [((none,none,none) : X3)]) (l.length : Int) = false := by
      unfold hasF
      simp [List.getD,← hl1]
    have hc : ((Graph.orderS l.length F.needs).1).filter (hasF (F.es ++ [((none,none,none) : X3)])) = ((Graph.orderS l.length F.needs).1).filter (hasF F.es) := by
      refine List.filter_congr fun x hx => ?_
      rw [(orderS_ok (by omega) h5).1] at hx
      have := (Graph.ord_st l.length F.needs l.length).mem x hx
      unfold hasF
      rw [getD_app (by omega)]
    rw [hc,List.filter_cons,hz]
    simp
  unfold newM
  rw [if_neg (by simp; omega),e1]
  simp only
  rw [eN,eT,e2]
  simp only
  rw [e3]
  have eL : (((l ++ [f]).length : Nat) : Int) = ((l.length + 1 : Nat) : Int) := by simp
  rw [eL,e4]
  simp only [if_true]
  rw [e5]
end Go.Proofs.YtpfhhikbaeknpaaGreatDoor
