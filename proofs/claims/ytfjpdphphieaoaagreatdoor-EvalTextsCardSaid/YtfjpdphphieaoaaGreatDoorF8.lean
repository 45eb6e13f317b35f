/- The walks of palaverref09's of, Eval: they come to what the plain law says. Conditions: the expression may be; values are no longer than any may be. The walk of palaverlaw09.EvalAll. Conditions: the tables hold what they are laid with; the arguments read as data. The walks of palaverref08.find, all, of. Conditions: the types are some of three. The walks of palaverref08.of, typ, Of. Conditions: the expression is fine, the types are numbers. The walks of palaverref08.typ, Of. Conditions: the expression is fine, the types are numbers. The walks of palaverlaw00.Ints, Texts, Values: copies in new memory. Condition: not too many. -/
import Derived.Test.YtfjpdphphieaoaaGreatDoorCp
import Derived.Test.YtfjpdphphieaoaaGreatDoorT3
import Derived.Test.YtfjpdphphieaoaaGreatDoorPx
import Derived.Test.YtfjpdphphieaoaaGreatDoorR4
import Derived.BigQuiet
import Derived.Deep.QuietTactic
import Derived.Test.YtfjpdphphieaoaaGreatDoorJC
import Derived.Test.YtfjpdphphieaoaaGreatDoorJ5
import Derived.Test.YtfjpdphphieaoaaGreatDoorE15
import Derived.Test.YtfjpdphphieaoaaGreatDoorR1
import Derived.Deep.RegionHeld3
set_option linter.unusedSectionVars false
set_option linter.unusedSimpArgs false
set_option linter.unusedVariables false
namespace Go.Proofs.YtfjpdphphieaoaaGreatDoor
open Go.RowKit Pal
end Go.Proofs.YtfjpdphphieaoaaGreatDoor
namespace Go.Proofs.YtfjpdphphieaoaaGreatDoor
open Go.RowKit Pal
theorem arity_cases {op : Int} {n : Nat} (h : (n : Int) = arity op) (h5 : ¬ (op = 1 ∨ op = 2 ∨ op = 3 ∨ op = 4)) :
    (n = 1 ∧ (op = 5 ∨ op = 6 ∨ op = 19 ∨ op = 22 ∨ op = 23)) ∨ (n = 2 ∧ (7 ≤ op ∧ op ≤ 17 ∨ op = 20 ∨ op = 21)) ∨ (n = 3 ∧ op = 18) := by
  unfold arity at h
  split at h
  · omega
  · split at h
    · omega
    · split at h
      · omega
      · split at h
        · omega
        · omega
end Go.Proofs.YtfjpdphphieaoaaGreatDoor
namespace Go.Proofs.YtfjpdphphieaoaaGreatDoor
open Go.RowKit Pal
/-- A row of the call's own, made behind n0. -/
structure RwIn (n0 : Nat) (tau : Tag) (W : World) (T : TypeId) (c : Nat) (sv : Value) (n : Nat) (xs : List Value) : Prop where
  row : Row tau 1 W T c sv n xs
  ge : ∀ b,tau b = 1 → n0 ≤ b ∧ b < W.heap.size
section
variable {n0 : Nat} {tau : Tag} {W W' : World} {T : TypeId} {c : Nat} {sv : Value} {n : Nat} {xs : List Value}
end
theorem infoS : (Tryz.prog.info? 9).map (fun i => (i.zero,i.size,i.bytes)) = some (some (.string ⟨#[]⟩),1,16) := by kernel_rfl
theorem infoVl : (Tryz.prog.info? 33).map (fun i => (i.zero,i.size,i.bytes)) = some (some (.agg #[.int .i64 0,.int .i64 0,.string ⟨#[]⟩]),3,32) := by kernel_rfl
end Go.Proofs.YtfjpdphphieaoaaGreatDoor
namespace Go.Proofs.YtfjpdphphieaoaaGreatDoor
open Go.RowKit Pal
def copySPost (l : List Bs) (w : World) (r : Ending) (w' : World) : Prop := Below w.heap.size w w' ∧ ∃ v,r = .returned v ∧ StrsV (gh w') v l
def copyVPost (l : List Val) (w : World) (r : Ending) (w' : World) : Prop := Below w.heap.size w w' ∧ ∃ v,r = .returned v ∧ ValsV (gh w') v l
theorem strsV_ofSl {h : GH} {v : Value} {l : List Bs} (s : SlV h v l.length 1 (fun j => [strV (l.getD j [])])) : StrsV h v l := by
  obtain ⟨a,cap,hv,h1,h2,h3,h4⟩ := s
  refine ⟨a,cap,hv,fun h => List.eq_nil_of_length_eq_zero (h1 h).1,h2,h3,fun j x hj => ?_⟩
  have hl := (List.getElem?_eq_some_iff.1 hj).1
  obtain ⟨b,off,ha,hc⟩ := h4 j 0 (strV x) hl (by show [strV (l.getD j [])][0]? = _; rw [List.getD_eq_getElem?_getD,hj]; rfl)
  exact ⟨b,off,ha,by rw [show off + j = off + (1 * j + 0) by omega]; exact hc⟩
def valCells (x : Val) : List Value := [.int .i64 x.k,.int .i64 x.n,strV x.s]
theorem valCells_len (x : Val) : (valCells x).length = 3 := rfl
theorem valsV_ofSl {h : GH} {v : Value} {l : List Val} (s : SlV h v l.length 3 (fun j => valCells (l.getD j vNil))) : ValsV h v l := by
  obtain ⟨a,cap,hv,h1,h2,h3,h4⟩ := s
  refine ⟨a,cap,hv,fun h => List.eq_nil_of_length_eq_zero (h1 h).1,h2,h3,fun j x hj => ?_⟩
  have hl := (List.getElem?_eq_some_iff.1 hj).1
  have hg : l.getD j vNil = x := by rw [List.getD_eq_getElem?_getD,hj]; rfl
  obtain ⟨b,off,ha,c0⟩ := h4 j 0 (.int .i64 x.k) hl (by show (valCells (l.getD j vNil))[0]? = _; rw [hg]; rfl)
  obtain ⟨b1,off1,ha1,c1⟩ := h4 j 1 (.int .i64 x.n) hl (by show (valCells (l.getD j vNil))[1]? = _; rw [hg]; rfl)
  obtain ⟨b2,off2,ha2,c2⟩ := h4 j 2 (strV x.s) hl (by show (valCells (l.getD j vNil))[2]? = _; rw [hg]; rfl)
  rw [ha] at ha1 ha2
  simp only [Option.some.injEq,Addr.mk.injEq,and_true] at ha1 ha2
  obtain ⟨rfl,rfl⟩ := ha1
  obtain ⟨rfl,rfl⟩ := ha2
  refine ⟨b,off,ha,?_,?_,?_⟩
  · rw [show off + (3 * j + 0) = off + j * 3 by omega] at c0; exact c0
  · rw [show off + (3 * j + 1) = off + j * 3 + 1 by omega] at c1; exact c1
  · rw [show off + (3 * j + 2) = off + j * 3 + 2 by omega] at c2; exact c2
/-- Where a cell of a row stands. -/
theorem flat_at {α : Type} (g : α → List Value) (sz : Nat) (hs : 0 < sz) (hg : ∀ a,(g a).length = sz) : ∀ (l : List α) (j : Nat) (u : Value),(l.flatMap g)[j]? = some u → ∃ i c x,l[i]? = some x ∧ (g x)[c]? = some u ∧ j = i * sz + c := by
  intro l
  induction l with
  | nil => intro j u h; simp at h
  | cons x xs ih =>
    intro j u h
    rw [List.flatMap_cons] at h
    by_cases hj : j < sz
    · rw [List.getElem?_append_left (by rw [hg]; exact hj)] at h
      exact ⟨0,j,x,rfl,h,by omega⟩
    · rw [List.getElem?_append_right (by rw [hg]; omega),hg] at h
      obtain ⟨i,c,y,h1,h2,h3⟩ := ih _ u h
      exact ⟨i + 1,c,y,by simpa using h1,h2,by rw [Nat.succ_mul]; omega⟩
set_option maxRecDepth 1000000 in
set_option maxHeartbeats 4000000 in
theorem Texts_any (l : List Bs) (v : Value) (w : World) (hT : StrsV (gh w) v l) (hnil : NilV v) (hl : l.length ≤ 50) : Calls Tryz.prog 8 #[v] w (copySPost l w) := by
  obtain ⟨i0,hi,hz0,hz1,hz2⟩ := info_parts infoS
  obtain ⟨a,cap,hv,hn,hl1,hl2,hc⟩ := hT
  subst hv
  have hn2 : a = none → l.length = 0 ∧ cap = 0 := fun h => by subst h; exact hnil _ _ rfl
  have hnews : ∀ j u,(l.flatMap fun s => [strV s])[j]? = some u → ∃ A,a = some A ∧ w.cell? (A.add j) = some u := by
    intro j u hj
    rw [← List.map_eq_flatMap,List.getElem?_map] at hj
    obtain ⟨x,hx,rfl⟩ := Option.map_eq_some_iff.1 hj
    obtain ⟨b,off,ha,hcc⟩ := hc j x hx
    rw [gh_cell] at hcc
    exact ⟨_,ha,by rw [Go.WideShapes.add_plain]; exact hcc⟩
  have HN := Lib.hid hn2
  have HW := Lib.hid hnews
  obtain ⟨len,hlen⟩ : ∃ n,l.length = n := ⟨_,rfl⟩
  have HLEN := Lib.hid hlen
  rw [hlen] at HN hl ⊢
  clear hn hn2 hnews hc hl1 hl2 hlen hnil
  go_enter Tryz.func8,Tryz.ntmps8
  go_wp2_with (at_builtin; refine wpList_append_src rfl _ _ 22 rfl 9 i0 _ 1 16 Tryz.underlying22 hi hz0 hz1 hz2 rfl (by decide) rfl (Row.nil T0 1 w 9 1) a len cap (l.flatMap fun s => [strV s]) rfl HN.out ?cl HW.out ?c1 ?c2 ?c3 ?_)
  case cl => rw [← List.map_eq_flatMap,List.length_map,HLEN.out,Nat.mul_one]
  case c1 => intro u hu; rw [← List.map_eq_flatMap] at hu; obtain ⟨x,_,rfl⟩ := List.mem_map.1 hu; rfl
  case c2 => unfold maxLen; omega
  case c3 => omega
  intro v' t' w' hr he
  have hb := he.toBelow (by decide)
  rw [← HLEN.out] at hr
  have hs := SlV.ofRow (fun s => [strV s]) l ([] : Bs) (by decide) (fun _ => rfl) hr
  have HP : Hid (copySPost l w (.returned v') w') := Lib.hid ⟨hb,v',rfl,strsV_ofSl hs⟩
  clear hr he hb hs
  go_wp2
  go_ret
  exact HP.out
set_option maxRecDepth 1000000 in
set_option maxHeartbeats 4000000 in
theorem Values_any (l : List Val) (v : Value) (w : World) (hT : ValsV (gh w) v l) (hnil : NilV v) (hl : l.length ≤ 50) : Calls Tryz.prog 9 #[v] w (copyVPost l w) := by
  obtain ⟨i0,hi,hz0,hz1,hz2⟩ := info_parts infoVl
  obtain ⟨a,cap,hv,hn,hl1,hl2,hc⟩ := hT
  subst hv
  have hn2 : a = none → l.length = 0 ∧ cap = 0 := fun h => by subst h; exact hnil _ _ rfl
  have hnews : ∀ j u,(l.flatMap valCells)[j]? = some u → ∃ A,a = some A ∧ w.cell? (A.add j) = some u := by
    intro j u hj
    obtain ⟨i,c,x,hx,hcx,rfl⟩ := flat_at valCells 3 (by decide) valCells_len l j u hj
    obtain ⟨b,off,ha,h0,h1,h2⟩ := hc i x hx
    rw [gh_cell] at h0 h1 h2
    refine ⟨_,ha,?_⟩
    rw [Go.WideShapes.add_plain]
    match c,hcx with
    | 0,hcx => simp [valCells] at hcx; subst hcx; rw [show off + (i * 3 + 0) = off + i * 3 by omega]; exact h0
    | 1,hcx => simp [valCells] at hcx; subst hcx; rw [show off + (i * 3 + 1) = off + i * 3 + 1 by omega]; exact h1
    | 2,hcx => simp [valCells] at hcx; subst hcx; rw [show off + (i * 3 + 2) = off + i * 3 + 2 by omega]; exact h2
  have HN := Lib.hid hn2
  have HW := Lib.hid hnews
  obtain ⟨len,hlen⟩ : ∃ n,l.length = n := ⟨_,rfl⟩
  have HLEN := Lib.hid hlen
  rw [hlen] at HN hl ⊢
  clear hn hn2 hnews hc hl1 hl2 hlen hnil
  go_enter Tryz.func9,Tryz.ntmps9
  go_wp2_with (at_builtin; refine wpList_append_src rfl _ _ 23 rfl 33 i0 _ 3 32 Tryz.underlying23 hi hz0 hz1 hz2 rfl (by decide) rfl (Row.nil T0 1 w 33 3) a len cap (l.flatMap valCells) rfl HN.out ?cl HW.out ?c1 ?c2 ?c3 ?_)
  case cl => rw [flat_len valCells 3 valCells_len,HLEN.out]
  case c1 => intro u hu; obtain ⟨x,_,hx⟩ := List.mem_flatMap.1 hu; simp [valCells] at hx; rcases hx with rfl | rfl | rfl <;> rfl
  case c2 => unfold maxLen; omega
  case c3 => omega
  intro v' t' w' hr he
  have hb := he.toBelow (by decide)
  rw [← HLEN.out] at hr
  have hs := SlV.ofRow valCells l vNil (by decide) valCells_len hr
  have HP : Hid (copyVPost l w (.returned v') w') := Lib.hid ⟨hb,v',rfl,valsV_ofSl hs⟩
  clear hr he hb hs
  go_wp2
  go_ret
  exact HP.out
end Go.Proofs.YtfjpdphphieaoaaGreatDoor
namespace Go.Proofs.YtfjpdphphieaoaaGreatDoor
open Go.RowKit Pal
theorem has_plain {ρ : Bs → Val} {n : Int} {s : Bs} {x : Ex} : ev ρ (.mk 22 n s [x]) = vBool (decide (¬ ((ρ x.s).k = 0 ∨ (ρ x.s).k = 4))) := by
  rw [ev_mk]; unfold evOp; simp [kidS]
set_option maxRecDepth 1000000 in
set_option maxHeartbeats 8000000 in
theorem jof_logic (names : List Bs) (vals : List Val) (op n : Int) (s : Bs) (ks : List Ex) (v : Value) (p : Nat) (w : World) (R : Val) (ho : op = 6 ∨ op = 16 ∨ op = 17 ∨ op = 18) (HQ0 : ∀ W,Below w.heap.size w W → Calls Tryz.prog 43 #[.pointer (some ⟨p,0,none⟩),exV op n s v] W (valPost R W))
    (hW : RW w p names vals) (hK : KV (gh w) v ks) : Calls Tryz.prog 20 #[.pointer (some ⟨p,0,none⟩),exV op n s v] w (valPost R w) := by
  obtain ⟨a,cap,rfl⟩ := hK.form
  obtain ⟨len,hlen⟩ : ∃ m,ks.length = m := ⟨_,rfl⟩
  rw [hlen]
  obtain ⟨uk,huk⟩ : ∃ n,R.k = n := ⟨_,rfl⟩
  obtain ⟨un,hun⟩ : ∃ n,R.n = n := ⟨_,rfl⟩
  obtain ⟨us,hus⟩ : ∃ s : ByteArray,(⟨R.s.toArray⟩ : ByteArray) = s := ⟨_,rfl⟩
  have HU : Hid (valV R = .agg #[.int .i64 uk,.int .i64 un,.string us]) := Lib.hid (by unfold valV strV; rw [huk,hun,hus])
  clear huk hun hus
  rw [hlen] at HQ0
  have HQ := Lib.hid HQ0
  have HR : Hid (R = R) := Lib.hid rfl
  unfold valPost exV strV at HQ
  simp only [HU.out] at HQ
  have K0 := Lib.hid ((Kept.start w).new2 (.cells #[.int .i64 op,.int .i64 n,.string ⟨s.toArray⟩,.slice a len cap] 28) (.cells #[.int .i64 0,.int .i64 0,.string ⟨#[]⟩] 33))
  clear HQ0 hW hK hlen
  rcases ho with rfl | rfl | rfl | rfl
  all_goals
    unfold exV strV
    go_enter Tryz.func20,Tryz.ntmps20
    go_upto_region 1 with fail
    generalize (w.alloc (.cells #[.int .i64 _,.int .i64 n,.string ⟨s.toArray⟩,.slice a len cap] 28)).alloc (.cells #[.int .i64 0,.int .i64 0,.string ⟨#[]⟩] 33) = W1 at *
    obtain ⟨⟨e0,e1,e2,e3⟩,-⟩ := four_all K0.out.tail.at0
    go_wp2_with fail
    refine (HQ.out _ K0.out.below).mono ?_
    rintro r W2 ⟨rfl,hb⟩
    have K1 := Lib.hid (K0.out.call hb)
    clear hb e0 e1 e2 e3
    obtain ⟨⟨z0,z1,z2⟩,zf0,zf1,zf2⟩ := three_all K1.out.at0 
    go_wp2
    have hh := three_all (set3_heap K1.out.at0 (.int .i64 uk) (.int .i64 un) (.string us))
    refine bodyPost_ret (v := .agg #[.int .i64 uk,.int .i64 un,.string us]) (by simp [results,Tryz.results20,go_sem,hh.1]) rfl ⟨by rw [← HU.out],below_set3 K1.out.below (by omega) _ _ _⟩
set_option maxRecDepth 1000000 in
set_option maxHeartbeats 8000000 in
theorem jof_hold (names : List Bs) (vals : List Val) (op n : Int) (s : Bs) (ks : List Ex) (v : Value) (p : Nat) (w : World) (R : Val) (ho : op = 12 ∨ op = 13 ∨ op = 14 ∨ op = 15) (HQ0 : ∀ W,Below w.heap.size w W → Calls Tryz.prog 44 #[.pointer (some ⟨p,0,none⟩),exV op n s v] W (valPost R W))
    (hW : RW w p names vals) (hK : KV (gh w) v ks) : Calls Tryz.prog 20 #[.pointer (some ⟨p,0,none⟩),exV op n s v] w (valPost R w) := by
  obtain ⟨a,cap,rfl⟩ := hK.form
  obtain ⟨len,hlen⟩ : ∃ m,ks.length = m := ⟨_,rfl⟩
  rw [hlen]
  obtain ⟨uk,huk⟩ : ∃ n,R.k = n := ⟨_,rfl⟩
  obtain ⟨un,hun⟩ : ∃ n,R.n = n := ⟨_,rfl⟩
  obtain ⟨us,hus⟩ : ∃ s : ByteArray,(⟨R.s.toArray⟩ : ByteArray) = s := ⟨_,rfl⟩
  have HU : Hid (valV R = .agg #[.int .i64 uk,.int .i64 un,.string us]) := Lib.hid (by unfold valV strV; rw [huk,hun,hus])
  clear huk hun hus
  rw [hlen] at HQ0
  have HQ := Lib.hid HQ0
  have HR : Hid (R = R) := Lib.hid rfl
  unfold valPost exV strV at HQ
  simp only [HU.out] at HQ
  have K0 := Lib.hid ((Kept.start w).new2 (.cells #[.int .i64 op,.int .i64 n,.string ⟨s.toArray⟩,.slice a len cap] 28) (.cells #[.int .i64 0,.int .i64 0,.string ⟨#[]⟩] 33))
  clear HQ0 hW hK hlen
  rcases ho with rfl | rfl | rfl | rfl
  all_goals
    unfold exV strV
    go_enter Tryz.func20,Tryz.ntmps20
    go_upto_region 1 with fail
    generalize (w.alloc (.cells #[.int .i64 _,.int .i64 n,.string ⟨s.toArray⟩,.slice a len cap] 28)).alloc (.cells #[.int .i64 0,.int .i64 0,.string ⟨#[]⟩] 33) = W1 at *
    obtain ⟨⟨e0,e1,e2,e3⟩,-⟩ := four_all K0.out.tail.at0
    go_wp2_with fail
    refine (HQ.out _ K0.out.below).mono ?_
    rintro r W2 ⟨rfl,hb⟩
    have K1 := Lib.hid (K0.out.call hb)
    clear hb e0 e1 e2 e3
    obtain ⟨⟨z0,z1,z2⟩,zf0,zf1,zf2⟩ := three_all K1.out.at0 
    go_wp2
    have hh := three_all (set3_heap K1.out.at0 (.int .i64 uk) (.int .i64 un) (.string us))
    refine bodyPost_ret (v := .agg #[.int .i64 uk,.int .i64 un,.string us]) (by simp [results,Tryz.results20,go_sem,hh.1]) rfl ⟨by rw [← HU.out],below_set3 K1.out.below (by omega) _ _ _⟩
set_option maxRecDepth 1000000 in
set_option maxHeartbeats 8000000 in
theorem jof_texts (names : List Bs) (vals : List Val) (op n : Int) (s : Bs) (ks : List Ex) (v : Value) (p : Nat) (w : World) (R : Val) (ho : op = 19 ∨ op = 20 ∨ op = 21 ∨ op = 23) (HQ0 : ∀ W,Below w.heap.size w W → Calls Tryz.prog 45 #[.pointer (some ⟨p,0,none⟩),exV op n s v] W (valPost R W))
    (hW : RW w p names vals) (hK : KV (gh w) v ks) : Calls Tryz.prog 20 #[.pointer (some ⟨p,0,none⟩),exV op n s v] w (valPost R w) := by
  obtain ⟨a,cap,rfl⟩ := hK.form
  obtain ⟨len,hlen⟩ : ∃ m,ks.length = m := ⟨_,rfl⟩
  rw [hlen]
  obtain ⟨uk,huk⟩ : ∃ n,R.k = n := ⟨_,rfl⟩
  obtain ⟨un,hun⟩ : ∃ n,R.n = n := ⟨_,rfl⟩
  obtain ⟨us,hus⟩ : ∃ s : ByteArray,(⟨R.s.toArray⟩ : ByteArray) = s := ⟨_,rfl⟩
  have HU : Hid (valV R = .agg #[.int .i64 uk,.int .i64 un,.string us]) := Lib.hid (by unfold valV strV; rw [huk,hun,hus])
  clear huk hun hus
  rw [hlen] at HQ0
  have HQ := Lib.hid HQ0
  have HR : Hid (R = R) := Lib.hid rfl
  unfold valPost exV strV at HQ
  simp only [HU.out] at HQ
  have K0 := Lib.hid ((Kept.start w).new2 (.cells #[.int .i64 op,.int .i64 n,.string ⟨s.toArray⟩,.slice a len cap] 28) (.cells #[.int .i64 0,.int .i64 0,.string ⟨#[]⟩] 33))
  clear HQ0 hW hK hlen
  rcases ho with rfl | rfl | rfl | rfl
  all_goals
    unfold exV strV
    go_enter Tryz.func20,Tryz.ntmps20
    go_upto_region 1 with fail
    generalize (w.alloc (.cells #[.int .i64 _,.int .i64 n,.string ⟨s.toArray⟩,.slice a len cap] 28)).alloc (.cells #[.int .i64 0,.int .i64 0,.string ⟨#[]⟩] 33) = W1 at *
    obtain ⟨⟨e0,e1,e2,e3⟩,-⟩ := four_all K0.out.tail.at0
    go_wp2_with fail
    refine (HQ.out _ K0.out.below).mono ?_
    rintro r W2 ⟨rfl,hb⟩
    have K1 := Lib.hid (K0.out.call hb)
    clear hb e0 e1 e2 e3
    obtain ⟨⟨z0,z1,z2⟩,zf0,zf1,zf2⟩ := three_all K1.out.at0 
    go_wp2
    have hh := three_all (set3_heap K1.out.at0 (.int .i64 uk) (.int .i64 un) (.string us))
    refine bodyPost_ret (v := .agg #[.int .i64 uk,.int .i64 un,.string us]) (by simp [results,Tryz.results20,go_sem,hh.1]) rfl ⟨by rw [← HU.out],below_set3 K1.out.below (by omega) _ _ _⟩
set_option maxRecDepth 1000000 in
set_option maxHeartbeats 8000000 in
theorem jof_count (names : List Bs) (vals : List Val) (op n : Int) (s : Bs) (ks : List Ex) (v : Value) (p : Nat) (w : World) (R : Val) (ho : op = 5 ∨ op = 7 ∨ op = 8 ∨ op = 9 ∨ op = 10 ∨ op = 11) (HQ0 : ∀ W,Below w.heap.size w W → Calls Tryz.prog 46 #[.pointer (some ⟨p,0,none⟩),exV op n s v] W (valPost R W))
    (hW : RW w p names vals) (hK : KV (gh w) v ks) : Calls Tryz.prog 20 #[.pointer (some ⟨p,0,none⟩),exV op n s v] w (valPost R w) := by
  obtain ⟨a,cap,rfl⟩ := hK.form
  obtain ⟨len,hlen⟩ : ∃ m,ks.length = m := ⟨_,rfl⟩
  rw [hlen]
  obtain ⟨uk,huk⟩ : ∃ n,R.k = n := ⟨_,rfl⟩
  obtain ⟨un,hun⟩ : ∃ n,R.n = n := ⟨_,rfl⟩
  obtain ⟨us,hus⟩ : ∃ s : ByteArray,(⟨R.s.toArray⟩ : ByteArray) = s := ⟨_,rfl⟩
  have HU : Hid (valV R = .agg #[.int .i64 uk,.int .i64 un,.string us]) := Lib.hid (by unfold valV strV; rw [huk,hun,hus])
  clear huk hun hus
  rw [hlen] at HQ0
  have HQ := Lib.hid HQ0
  have HR : Hid (R = R) := Lib.hid rfl
  unfold valPost exV strV at HQ
  simp only [HU.out] at HQ
  have K0 := Lib.hid ((Kept.start w).new2 (.cells #[.int .i64 op,.int .i64 n,.string ⟨s.toArray⟩,.slice a len cap] 28) (.cells #[.int .i64 0,.int .i64 0,.string ⟨#[]⟩] 33))
  clear HQ0 hW hK hlen
  rcases ho with rfl | rfl | rfl | rfl | rfl | rfl
  all_goals
    unfold exV strV
    go_enter Tryz.func20,Tryz.ntmps20
    go_upto_region 1 with fail
    generalize (w.alloc (.cells #[.int .i64 _,.int .i64 n,.string ⟨s.toArray⟩,.slice a len cap] 28)).alloc (.cells #[.int .i64 0,.int .i64 0,.string ⟨#[]⟩] 33) = W1 at *
    obtain ⟨⟨e0,e1,e2,e3⟩,-⟩ := four_all K0.out.tail.at0
    go_wp2_with fail
    refine (HQ.out _ K0.out.below).mono ?_
    rintro r W2 ⟨rfl,hb⟩
    have K1 := Lib.hid (K0.out.call hb)
    clear hb e0 e1 e2 e3
    obtain ⟨⟨z0,z1,z2⟩,zf0,zf1,zf2⟩ := three_all K1.out.at0 
    go_wp2
    have hh := three_all (set3_heap K1.out.at0 (.int .i64 uk) (.int .i64 un) (.string us))
    refine bodyPost_ret (v := .agg #[.int .i64 uk,.int .i64 un,.string us]) (by simp [results,Tryz.results20,go_sem,hh.1]) rfl ⟨by rw [← HU.out],below_set3 K1.out.below (by omega) _ _ _⟩
set_option maxRecDepth 1000000 in
set_option maxHeartbeats 8000000 in
theorem jof_num (names : List Bs) (vals : List Val) (op n : Int) (s : Bs) (ks : List Ex) (v : Value) (p : Nat) (w : World) (R : Val) (ho : op = 1) (hR : R = vInt n)
    (hW : RW w p names vals) (hK : KV (gh w) v ks) : Calls Tryz.prog 20 #[.pointer (some ⟨p,0,none⟩),exV op n s v] w (valPost R w) := by
  subst ho
  obtain ⟨a,cap,rfl⟩ := hK.form
  obtain ⟨len,hlen⟩ : ∃ m,ks.length = m := ⟨_,rfl⟩
  rw [hlen]
  skip
  have HR := Lib.hid hR
  have K0 := Lib.hid ((Kept.start w).new2 (.cells #[.int .i64 1,.int .i64 n,.string ⟨s.toArray⟩,.slice a len cap] 28) (.cells #[.int .i64 0,.int .i64 0,.string ⟨#[]⟩] 33))
  have HNM := Lib.hid (fun n W => jnum_any n W)
  clear hW hK hlen hR
  unfold exV strV
  go_enter Tryz.func20,Tryz.ntmps20
  go_upto_region 1 with fail
  generalize (w.alloc (.cells #[.int .i64 1,.int .i64 n,.string ⟨s.toArray⟩,.slice a len cap] 28)).alloc (.cells #[.int .i64 0,.int .i64 0,.string ⟨#[]⟩] 33) = W1 at *
  obtain ⟨⟨e0,e1,e2,e3⟩,-⟩ := four_all K0.out.tail.at0
  go_wp2_with fail
  refine (HNM.out _ _).mono ?_
  rintro r W2 ⟨rfl,hb⟩
  have K1 := Lib.hid (K0.out.call hb)
  clear hb e0 e1 e2 e3
  unfold valV strV vInt
  obtain ⟨⟨z0,z1,z2⟩,zf0,zf1,zf2⟩ := three_all K1.out.at0
  go_wp2
  have hh := three_all (set3_heap K1.out.at0 (.int .i64 1) (.int .i64 n) (.string ⟨#[]⟩))
  refine bodyPost_ret (v := .agg #[.int .i64 1,.int .i64 n,.string ⟨#[]⟩]) (by simp [results,Tryz.results20,go_sem,hh.1]) rfl ⟨by rw [HR.out]; rfl,below_set3 K1.out.below (by omega) _ _ _⟩
set_option maxRecDepth 1000000 in
set_option maxHeartbeats 8000000 in
theorem jof_text (names : List Bs) (vals : List Val) (op n : Int) (s : Bs) (ks : List Ex) (v : Value) (p : Nat) (w : World) (R : Val) (ho : op = 2) (hR : R = vText s)
    (hW : RW w p names vals) (hK : KV (gh w) v ks) : Calls Tryz.prog 20 #[.pointer (some ⟨p,0,none⟩),exV op n s v] w (valPost R w) := by
  subst ho
  obtain ⟨a,cap,rfl⟩ := hK.form
  obtain ⟨len,hlen⟩ : ∃ m,ks.length = m := ⟨_,rfl⟩
  rw [hlen]
  skip
  have HR := Lib.hid hR
  have K0 := Lib.hid ((Kept.start w).new2 (.cells #[.int .i64 2,.int .i64 n,.string ⟨s.toArray⟩,.slice a len cap] 28) (.cells #[.int .i64 0,.int .i64 0,.string ⟨#[]⟩] 33))
  skip
  clear hW hK hlen hR
  unfold exV strV
  go_enter Tryz.func20,Tryz.ntmps20
  go_upto_region 1 with fail
  generalize (w.alloc (.cells #[.int .i64 2,.int .i64 n,.string ⟨s.toArray⟩,.slice a len cap] 28)).alloc (.cells #[.int .i64 0,.int .i64 0,.string ⟨#[]⟩] 33) = W1 at *
  obtain ⟨⟨e0,e1,e2,e3⟩,-⟩ := four_all K0.out.tail.at0
  obtain ⟨⟨z0,z1,z2⟩,zf0,zf1,zf2⟩ := three_all K0.out.at0
  go_wp2
  have hh := three_all (set3_heap K0.out.at0 (.int .i64 3) (.int .i64 0) (.string ⟨s.toArray⟩))
  refine bodyPost_ret (v := .agg #[.int .i64 3,.int .i64 0,.string ⟨s.toArray⟩]) (by simp [results,Tryz.results20,go_sem,hh.1]) rfl ⟨by rw [HR.out]; rfl,below_set3 K0.out.below (by omega) _ _ _⟩
set_option maxRecDepth 1000000 in
set_option maxHeartbeats 8000000 in
theorem jof_bool (names : List Bs) (vals : List Val) (op n : Int) (s : Bs) (ks : List Ex) (v : Value) (p : Nat) (w : World) (R : Val) (ho : op = 3) (hR : R = vBool (decide (n = 1)))
    (hW : RW w p names vals) (hK : KV (gh w) v ks) : Calls Tryz.prog 20 #[.pointer (some ⟨p,0,none⟩),exV op n s v] w (valPost R w) := by
  subst ho
  obtain ⟨a,cap,rfl⟩ := hK.form
  obtain ⟨len,hlen⟩ : ∃ m,ks.length = m := ⟨_,rfl⟩
  rw [hlen]
  skip
  have HR := Lib.hid hR
  have K0 := Lib.hid ((Kept.start w).new2 (.cells #[.int .i64 3,.int .i64 n,.string ⟨s.toArray⟩,.slice a len cap] 28) (.cells #[.int .i64 0,.int .i64 0,.string ⟨#[]⟩] 33))
  have HT1 := Lib.hid jtruth1
  have HT0 := Lib.hid jtruth0
  unfold aggPost at HT1 HT0
  clear hW hK hlen hR
  unfold exV strV
  go_enter Tryz.func20,Tryz.ntmps20
  go_upto_region 1 with fail
  generalize (w.alloc (.cells #[.int .i64 3,.int .i64 n,.string ⟨s.toArray⟩,.slice a len cap] 28)).alloc (.cells #[.int .i64 0,.int .i64 0,.string ⟨#[]⟩] 33) = W1 at *
  obtain ⟨⟨e0,e1,e2,e3⟩,-⟩ := four_all K0.out.tail.at0
  by_cases h1 : n = 1
  · have HR2 : Hid (R = vBool true) := Lib.hid (by rw [HR.out,decide_eq_true h1])
    have q : (n == 1) = true := by simp [h1]
    clear h1
    go_wp2_with fail
    refine (HT1.out _).mono ?_
    rintro r W2 ⟨rfl,hb⟩
    have K1 := Lib.hid (K0.out.call hb)
    clear hb e0 e1 e2 e3
    obtain ⟨⟨z0,z1,z2⟩,zf0,zf1,zf2⟩ := three_all K1.out.at0
    go_wp2
    have hh := three_all (set3_heap K1.out.at0 (.int .i64 2) (.int .i64 1) (.string ⟨#[]⟩))
    refine bodyPost_ret (v := .agg #[.int .i64 2,.int .i64 1,.string ⟨#[]⟩]) (by simp [results,Tryz.results20,go_sem,hh.1]) rfl ⟨by rw [HR2.out]; rfl,below_set3 K1.out.below (by omega) _ _ _⟩
  · have HR2 : Hid (R = vBool false) := Lib.hid (by rw [HR.out,decide_eq_false h1])
    have q : (n == 1) = false := beq_eq_false_iff_ne.2 h1
    clear h1
    go_wp2_with fail
    refine (HT0.out _).mono ?_
    rintro r W2 ⟨rfl,hb⟩
    have K1 := Lib.hid (K0.out.call hb)
    clear hb e0 e1 e2 e3
    obtain ⟨⟨z0,z1,z2⟩,zf0,zf1,zf2⟩ := three_all K1.out.at0
    go_wp2
    have hh := three_all (set3_heap K1.out.at0 (.int .i64 2) (.int .i64 0) (.string ⟨#[]⟩))
    refine bodyPost_ret (v := .agg #[.int .i64 2,.int .i64 0,.string ⟨#[]⟩]) (by simp [results,Tryz.results20,go_sem,hh.1]) rfl ⟨by rw [HR2.out]; rfl,below_set3 K1.out.below (by omega) _ _ _⟩
set_option maxRecDepth 1000000 in
set_option maxHeartbeats 8000000 in
theorem jof_name (names : List Bs) (vals : List Val) (op n : Int) (s : Bs) (ks : List Ex) (v : Value) (p : Nat) (w : World) (R : Val) (ho : op = 4) (hR : R = look names vals s)
    (hW : RW w p names vals) (hK : KV (gh w) v ks) : Calls Tryz.prog 20 #[.pointer (some ⟨p,0,none⟩),exV op n s v] w (valPost R w) := by
  subst ho
  obtain ⟨a,cap,rfl⟩ := hK.form
  obtain ⟨len,hlen⟩ : ∃ m,ks.length = m := ⟨_,rfl⟩
  rw [hlen]
  skip
  have HR := Lib.hid hR
  have K0 := Lib.hid ((Kept.start w).new2 (.cells #[.int .i64 4,.int .i64 n,.string ⟨s.toArray⟩,.slice a len cap] 28) (.cells #[.int .i64 0,.int .i64 0,.string ⟨#[]⟩] 33))
  have HNA := Lib.hid (fun W (hb : Below w.heap.size w W) => jname_any names vals s p W (hW.keep hb))
  rw [← HR.out] at HNA
  unfold valPost strV at HNA
  obtain ⟨uk,huk⟩ : ∃ n,R.k = n := ⟨_,rfl⟩
  obtain ⟨un,hun⟩ : ∃ n,R.n = n := ⟨_,rfl⟩
  obtain ⟨us,hus⟩ : ∃ s : ByteArray,(⟨R.s.toArray⟩ : ByteArray) = s := ⟨_,rfl⟩
  have HU : Hid (valV R = .agg #[.int .i64 uk,.int .i64 un,.string us]) := Lib.hid (by unfold valV strV; rw [huk,hun,hus])
  clear huk hun hus
  simp only [HU.out] at HNA
  clear hW hK hlen hR
  unfold exV strV
  go_enter Tryz.func20,Tryz.ntmps20
  go_upto_region 1 with fail
  generalize (w.alloc (.cells #[.int .i64 4,.int .i64 n,.string ⟨s.toArray⟩,.slice a len cap] 28)).alloc (.cells #[.int .i64 0,.int .i64 0,.string ⟨#[]⟩] 33) = W1 at *
  obtain ⟨⟨e0,e1,e2,e3⟩,-⟩ := four_all K0.out.tail.at0
  go_wp2_with fail
  refine (HNA.out _ K0.out.below).mono ?_
  rintro r W2 ⟨rfl,hb⟩
  have K1 := Lib.hid (K0.out.call hb)
  clear hb e0 e1 e2 e3
  obtain ⟨⟨z0,z1,z2⟩,zf0,zf1,zf2⟩ := three_all K1.out.at0
  go_wp2
  have hh := three_all (set3_heap K1.out.at0 (.int .i64 uk) (.int .i64 un) (.string us))
  refine bodyPost_ret (v := .agg #[.int .i64 uk,.int .i64 un,.string us]) (by simp [results,Tryz.results20,go_sem,hh.1]) rfl ⟨by first | (rw [← HU.out]; done) | (rw [← HU.out]; rfl),below_set3 K1.out.below (by omega) _ _ _⟩
set_option maxRecDepth 1000000 in
set_option maxHeartbeats 8000000 in
theorem jof_has (names : List Bs) (vals : List Val) (n : Int) (s : Bs) (x : Ex) (v : Value) (p : Nat) (w : World) (R : Val) (hR : R = vBool (decide (¬ ((look names vals x.s).k = 0 ∨ (look names vals x.s).k = 4))))
    (hW : RW w p names vals) (hK : KV (gh w) v [x]) : Calls Tryz.prog 20 #[.pointer (some ⟨p,0,none⟩),exV 22 n s v] w (valPost R w) := by
  obtain ⟨a,cap,rfl⟩ := hK.form
  have hcap := hK.cap
  obtain ⟨b,off,ua,uc,rfl,c0,c1,c2,c3,hKx⟩ := hK.at0
  have Cx := Lib.hid (kid_cells c0 c1 c2 c3)
  have HR := Lib.hid hR
  have HNA := Lib.hid (fun W (hb : Below w.heap.size w W) => jname_any names vals x.s p W (hW.keep hb))
  have K0 := Lib.hid ((Kept.start w).new2 (.cells #[.int .i64 22,.int .i64 n,.string ⟨s.toArray⟩,.slice (some ⟨b,off,none⟩) 1 cap] 28) (.cells #[.int .i64 0,.int .i64 0,.string ⟨#[]⟩] 33))
  have HT1 := Lib.hid jtruth1
  have HT0 := Lib.hid jtruth0
  unfold aggPost at HT1 HT0
  unfold valPost strV at HNA
  generalize look names vals x.s = y at *
  obtain ⟨uk,huk⟩ : ∃ n,y.k = n := ⟨_,rfl⟩
  obtain ⟨un,hun⟩ : ∃ n,y.n = n := ⟨_,rfl⟩
  obtain ⟨us,hus⟩ : ∃ s : ByteArray,(⟨y.s.toArray⟩ : ByteArray) = s := ⟨_,rfl⟩
  have HU : Hid (valV y = .agg #[.int .i64 uk,.int .i64 un,.string us]) := Lib.hid (by unfold valV strV; rw [huk,hun,hus])
  clear huk hun hus
  simp only [HU.out] at HNA
  simp only [List.length_cons,List.length_nil,Nat.zero_add] at hcap ⊢
  have hyk : y.k = uk := by
    have h := HU.out
    unfold valV at h
    simp at h
    exact h.1
  rw [hyk] at hR
  have hcase : ((uk != 0) = false ∧ R = vBool false) ∨ ((uk != 0) = true ∧ (uk != 4) = false ∧ R = vBool false) ∨ ((uk != 0) = true ∧ (uk != 4) = true ∧ R = vBool true) := by
    by_cases h0 : uk = 0
    · exact .inl ⟨by simp [h0],by rw [hR,decide_eq_false (fun h => h (.inl h0))]⟩
    by_cases h4 : uk = 4
    · exact .inr (.inl ⟨bne_iff_ne.2 h0,by simp [h4],by rw [hR,decide_eq_false (fun h => h (.inr h4))]⟩)
    · exact .inr (.inr ⟨bne_iff_ne.2 h0,bne_iff_ne.2 h4,by rw [hR,decide_eq_true (by omega)]⟩)
  clear hR hyk hW hK hKx c0 c1 c2 c3 HR
  unfold exV strV
  go_enter Tryz.func20,Tryz.ntmps20
  go_upto_region 1 with fail
  generalize (w.alloc (.cells #[.int .i64 22,.int .i64 n,.string ⟨s.toArray⟩,.slice (some ⟨b,off,none⟩) 1 cap] 28)).alloc (.cells #[.int .i64 0,.int .i64 0,.string ⟨#[]⟩] 33) = W1 at *
  obtain ⟨⟨e0,e1,e2,e3⟩,-⟩ := four_all K0.out.tail.at0
  obtain ⟨x0,x1,x2,x3⟩ := Cx.out _ K0.out.below
  go_wp2_with fail
  refine (HNA.out _ K0.out.below).mono ?_
  rintro r W2 ⟨rfl,hb⟩
  have K1 := Lib.hid (K0.out.call hb)
  clear hb e0 e1 e2 e3 x0 x1 x2 x3
  have K2 := Lib.hid (K1.out.new (.cells #[.int .i64 uk,.int .i64 un,.string us] 33))
  go_upto_region 12 with fail
  generalize W2.alloc (.cells #[.int .i64 uk,.int .i64 un,.string us] 33) = W3 at *
  generalize W2.heap.size = bU at *
  obtain ⟨⟨u0,u1,u2⟩,-⟩ := three_all K2.out.at0
  rcases hcase with ⟨q1,hR⟩ | ⟨q1,q2,hR⟩ | ⟨q1,q2,hR⟩
  · have HR := Lib.hid hR
    clear hR
    go_wp2_with fail
    refine (HT0.out _).mono ?_
    rintro r W4 ⟨rfl,hb⟩
    have K3 := Lib.hid (K2.out.call hb)
    clear hb u0 u1 u2
    obtain ⟨⟨z0,z1,z2⟩,zf0,zf1,zf2⟩ := three_all K3.out.tail.at0
    go_wp2
    have hh := three_all (set3_heap K3.out.tail.at0 (.int .i64 2) (.int .i64 0) (.string ⟨#[]⟩))
    refine bodyPost_ret (v := .agg #[.int .i64 2,.int .i64 0,.string ⟨#[]⟩]) (by simp [results,Tryz.results20,go_sem,hh.1]) rfl ⟨by rw [HR.out]; rfl,below_set3 K3.out.below (by omega) _ _ _⟩
  · have HR := Lib.hid hR
    clear hR
    go_wp2_with fail
    refine (HT0.out _).mono ?_
    rintro r W4 ⟨rfl,hb⟩
    have K3 := Lib.hid (K2.out.call hb)
    clear hb u0 u1 u2
    obtain ⟨⟨z0,z1,z2⟩,zf0,zf1,zf2⟩ := three_all K3.out.tail.at0
    go_wp2
    have hh := three_all (set3_heap K3.out.tail.at0 (.int .i64 2) (.int .i64 0) (.string ⟨#[]⟩))
    refine bodyPost_ret (v := .agg #[.int .i64 2,.int .i64 0,.string ⟨#[]⟩]) (by simp [results,Tryz.results20,go_sem,hh.1]) rfl ⟨by rw [HR.out]; rfl,below_set3 K3.out.below (by omega) _ _ _⟩
  · have HR := Lib.hid hR
    clear hR
    go_wp2_with fail
    refine (HT1.out _).mono ?_
    rintro r W4 ⟨rfl,hb⟩
    have K3 := Lib.hid (K2.out.call hb)
    clear hb u0 u1 u2
    obtain ⟨⟨z0,z1,z2⟩,zf0,zf1,zf2⟩ := three_all K3.out.tail.at0
    go_wp2
    have hh := three_all (set3_heap K3.out.tail.at0 (.int .i64 2) (.int .i64 1) (.string ⟨#[]⟩))
    refine bodyPost_ret (v := .agg #[.int .i64 2,.int .i64 1,.string ⟨#[]⟩]) (by simp [results,Tryz.results20,go_sem,hh.1]) rfl ⟨by rw [HR.out]; rfl,below_set3 K3.out.below (by omega) _ _ _⟩
theorem jof_all (names : List Bs) (vals : List Val) (e : Ex) : Good e → JP names vals e := by
  refine Ex.ind (P := fun e => Good e → JP names vals e) ?_ e
  intro op n s ks ih hG v w p hW hK
  simp only [Ex.op,Ex.n,Ex.s,Ex.ks] at hK ⊢
  obtain ⟨ha,hkg⟩ : alone op n s ks = true ∧ ∀ k ∈ ks,Good k := by cases hG with | mk _ _ _ _ ha hn hk => exact ⟨ha,hk⟩
  have hal := alone_kids ha
  have hj : ∀ k ∈ ks,JP names vals k := fun k hk => ih k hk (hkg k hk)
  have ho : ∀ k ∈ ks,VOk (ev (look names vals) k) := fun k hk => ev_ok (fun s => hW.ok s) k (hkg k hk)
  by_cases h4 : op = 1 ∨ op = 2 ∨ op = 3 ∨ op = 4
  · have e0 : arity op = 0 := by rcases h4 with rfl | rfl | rfl | rfl <;> rfl
    obtain rfl : ks = [] := List.eq_nil_of_length_eq_zero (by rw [e0] at hal; omega)
    rcases h4 with rfl | rfl | rfl | rfl
    · exact jof_num names vals _ n s [] v p w _ rfl (by rw [ev_mk]; unfold evOp; simp) hW hK
    · exact jof_text names vals _ n s [] v p w _ rfl (by rw [ev_mk]; unfold evOp; simp) hW hK
    · exact jof_bool names vals _ n s [] v p w _ rfl (by rw [ev_mk]; unfold evOp; simp) hW hK
    · exact jof_name names vals _ n s [] v p w _ rfl (by rw [ev_mk]; unfold evOp; simp) hW hK
  have keepW := fun W (hb : Below w.heap.size w W) => hW.keep hb
  have keepK := fun W (hb : Below w.heap.size w W) => hK.keep hb
  rcases arity_cases hal h4 with ⟨hn,hop⟩ | ⟨hn,hop⟩ | ⟨hn,hop⟩
  · match ks,hn,hK,hj,ho,keepK with
    | [x],_,hK,hj,ho,keepK =>
      have jx := hj x (by simp)
      have ox := ho x (by simp)
      rcases hop with rfl | rfl | rfl | rfl | rfl
      · exact jof_count names vals 5 n s [x] v p w _ (by decide) (fun W hb => by
          have h := jcount1_any names vals 5 n s x v p W rfl jx ox (keepW W hb) (keepK W hb)
          rw [ev_mk]; exact h) hW hK
      · exact jof_logic names vals 6 n s [x] v p w _ (by decide) (fun W hb => by
          have h := jlogic1_any names vals 6 n s x v p W rfl jx ox (keepW W hb) (keepK W hb)
          rw [ev_mk]; exact h) hW hK
      · exact jof_texts names vals 19 n s [x] v p w _ (by decide) (fun W hb => by
          have h := jtexts1_any names vals 19 n s x v p W (.inl rfl) jx ox (keepW W hb) (keepK W hb)
          rw [ev_mk]; exact h) hW hK
      · exact jof_has names vals n s x v p w _ has_plain hW hK
      · exact jof_texts names vals 23 n s [x] v p w _ (by decide) (fun W hb => by
          have h := jtexts1_any names vals 23 n s x v p W (.inr rfl) jx ox (keepW W hb) (keepK W hb)
          rw [ev_mk]; exact h) hW hK
  · match ks,hn,hK,hj,ho,keepK with
    | [x,y],_,hK,hj,ho,keepK =>
      have jx := hj x (by simp)
      have ox := ho x (by simp)
      have jy := hj y (by simp)
      have oy := ho y (by simp)
      have hop2 : op = 7 ∨ op = 8 ∨ op = 9 ∨ op = 10 ∨ op = 11 ∨ op = 12 ∨ op = 13 ∨ op = 14 ∨ op = 15 ∨ op = 16 ∨ op = 17 ∨ op = 20 ∨ op = 21 := by omega
      rcases hop2 with rfl | rfl | rfl | rfl | rfl | rfl | rfl | rfl | rfl | rfl | rfl | rfl | rfl
      · exact jof_count names vals 7 n s [x,y] v p w _ (by decide) (fun W hb => by
          have h := jcount2_any names vals 7 n s x y v p W (by decide) jx ox jy oy (keepW W hb) (keepK W hb)
          rw [ev_mk]; exact h) hW hK
      · exact jof_count names vals 8 n s [x,y] v p w _ (by decide) (fun W hb => by
          have h := jcount2_any names vals 8 n s x y v p W (by decide) jx ox jy oy (keepW W hb) (keepK W hb)
          rw [ev_mk]; exact h) hW hK
      · exact jof_count names vals 9 n s [x,y] v p w _ (by decide) (fun W hb => by
          have h := jcount2_any names vals 9 n s x y v p W (by decide) jx ox jy oy (keepW W hb) (keepK W hb)
          rw [ev_mk]; exact h) hW hK
      · exact jof_count names vals 10 n s [x,y] v p w _ (by decide) (fun W hb => by
          have h := jcount2_any names vals 10 n s x y v p W (by decide) jx ox jy oy (keepW W hb) (keepK W hb)
          rw [ev_mk]; exact h) hW hK
      · exact jof_count names vals 11 n s [x,y] v p w _ (by decide) (fun W hb => by
          have h := jcount2_any names vals 11 n s x y v p W (by decide) jx ox jy oy (keepW W hb) (keepK W hb)
          rw [ev_mk]; exact h) hW hK
      · exact jof_hold names vals 12 n s [x,y] v p w _ (by decide) (fun W hb => by
          have h := jhold_any names vals 12 n s x y v p W (by decide) jx ox jy oy (keepW W hb) (keepK W hb)
          rw [ev_mk]; exact h) hW hK
      · exact jof_hold names vals 13 n s [x,y] v p w _ (by decide) (fun W hb => by
          have h := jhold_any names vals 13 n s x y v p W (by decide) jx ox jy oy (keepW W hb) (keepK W hb)
          rw [ev_mk]; exact h) hW hK
      · exact jof_hold names vals 14 n s [x,y] v p w _ (by decide) (fun W hb => by
          have h := jhold_any names vals 14 n s x y v p W (by decide) jx ox jy oy (keepW W hb) (keepK W hb)
          rw [ev_mk]; exact h) hW hK
      · exact jof_hold names vals 15 n s [x,y] v p w _ (by decide) (fun W hb => by
          have h := jhold_any names vals 15 n s x y v p W (by decide) jx ox jy oy (keepW W hb) (keepK W hb)
          rw [ev_mk]; exact h) hW hK
      · exact jof_logic names vals 16 n s [x,y] v p w _ (by decide) (fun W hb => by
          have h := jlogic2_any names vals 16 n s x y v p W (by decide) jx ox jy oy (keepW W hb) (keepK W hb)
          rw [ev_mk]; exact h) hW hK
      · exact jof_logic names vals 17 n s [x,y] v p w _ (by decide) (fun W hb => by
          have h := jlogic2_any names vals 17 n s x y v p W (by decide) jx ox jy oy (keepW W hb) (keepK W hb)
          rw [ev_mk]; exact h) hW hK
      · exact jof_texts names vals 20 n s [x,y] v p w _ (by decide) (fun W hb => by
          have h := jtexts20_any names vals 20 n s x y v p W rfl jx ox jy oy (keepW W hb) (keepK W hb)
          rw [ev_mk]; exact h) hW hK
      · exact jof_texts names vals 21 n s [x,y] v p w _ (by decide) (fun W hb => by
          have h := jtexts21_any names vals 21 n s x y v p W rfl jx ox jy oy (keepW W hb) (keepK W hb)
          rw [ev_mk]; exact h) hW hK
  · match ks,hn,hK,hj,ho,keepK with
    | [x,y,z],_,hK,hj,ho,keepK =>
      subst hop
      exact jof_logic names vals 18 n s [x,y,z] v p w _ (by decide) (fun W hb => by
          have h := jlogic3_any names vals 18 n s x y z v p W rfl (hj x (by simp)) (ho x (by simp)) (hj y (by simp)) (ho y (by simp)) (hj z (by simp)) (ho z (by simp)) (keepW W hb) (keepK W hb)
          rw [ev_mk]; exact h) hW hK
set_option maxRecDepth 1000000 in
set_option maxHeartbeats 8000000 in
theorem jEval_any (e : Ex) (names : List Bs) (vals : List Val) (v nv vv : Value) (w : World) (hG : Good e) (hV : VFine vals) (hE : EV (gh w) v e) (hN : StrsV (gh w) nv names) (hA : ValsV (gh w) vv vals) :
    Calls Tryz.prog 10 #[v,nv,vv] w (valPost (ev (look names vals) e) w) := by
  obtain ⟨kv,rfl,hK⟩ := hE
  obtain ⟨a,cap,rfl⟩ := hK.form
  obtain ⟨na,nc,rfl⟩ := hN.form
  obtain ⟨va,vc,rfl,-⟩ := hA.form
  have K0 := Lib.hid ((((Kept.start w).new2 (.cells #[.int .i64 e.op,.int .i64 e.n,.string ⟨e.s.toArray⟩,.slice a e.ks.length cap] 28) (.cells #[.int .i64 0,.int .i64 0,.string ⟨#[]⟩] 33))).newAt (.cells #[.slice na names.length nc,.slice va vals.length vc] 57) (b := w.heap.size + 1 + 1) (by simp))
  have HO := Lib.hid (fun W (h : Kept w W ((w.heap.size + 1 + 1,(.cells #[.slice na names.length nc,.slice va vals.length vc] 57)) :: (w.heap.size + 1,(.cells #[.int .i64 0,.int .i64 0,.string ⟨#[]⟩] 33)) :: (w.heap.size,(.cells #[.int .i64 e.op,.int .i64 e.n,.string ⟨e.s.toArray⟩,.slice a e.ks.length cap] 28)) :: [])) => jof_all names vals e hG (.slice a e.ks.length cap) W (w.heap.size + 1 + 1) ⟨hV,_,_,h.at0,hN.mono (below_gh h.below),hA.mono (below_gh h.below)⟩ (hK.keep h.below))
  generalize ev (look names vals) e = R at *
  obtain ⟨uk,huk⟩ : ∃ n,R.k = n := ⟨_,rfl⟩
  obtain ⟨un,hun⟩ : ∃ n,R.n = n := ⟨_,rfl⟩
  obtain ⟨us,hus⟩ : ∃ s : ByteArray,(⟨R.s.toArray⟩ : ByteArray) = s := ⟨_,rfl⟩
  have HU : Hid (valV R = .agg #[.int .i64 uk,.int .i64 un,.string us]) := Lib.hid (by unfold valV strV; rw [huk,hun,hus])
  clear huk hun hus
  unfold valPost exV strV at HO
  simp only [HU.out] at HO
  clear hG hV hN hA hK
  unfold exV strV
  go_enter Tryz.func10,Tryz.ntmps10
  go_upto_region 2 with fail
  generalize ((w.alloc (.cells #[.int .i64 e.op,.int .i64 e.n,.string ⟨e.s.toArray⟩,.slice a e.ks.length cap] 28)).alloc (.cells #[.int .i64 0,.int .i64 0,.string ⟨#[]⟩] 33)).alloc (.cells #[.slice na names.length nc,.slice va vals.length vc] 57) = W1 at *
  obtain ⟨⟨e0,e1,e2,e3⟩,-⟩ := four_all K0.out.tail.tail.at0
  go_wp2_with fail
  refine (HO.out _ K0.out).mono ?_
  rintro r W2 ⟨rfl,hb⟩
  have K1 := Lib.hid (K0.out.call hb)
  clear hb e0 e1 e2 e3
  obtain ⟨⟨z0,z1,z2⟩,zf0,zf1,zf2⟩ := three_all K1.out.tail.at0
  go_wp2
  have hh := three_all (set3_heap K1.out.tail.at0 (.int .i64 uk) (.int .i64 un) (.string us))
  refine bodyPost_ret (v := .agg #[.int .i64 uk,.int .i64 un,.string us]) (by simp [results,Tryz.results10,go_sem,hh.1]) rfl ⟨by rw [← HU.out],below_set3 K1.out.below (by omega) _ _ _⟩
end Go.Proofs.YtfjpdphphieaoaaGreatDoor
namespace Go.Proofs.YtfjpdphphieaoaaGreatDoor
open Go.RowKit Pal
end Go.Proofs.YtfjpdphphieaoaaGreatDoor
