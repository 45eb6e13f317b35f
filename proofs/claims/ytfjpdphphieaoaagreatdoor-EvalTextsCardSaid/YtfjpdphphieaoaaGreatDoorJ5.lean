/- The walk of palaverref09's hold. Conditions: its parts come to what the plain law says, and that may be values. -/
import Derived.Test.YtfjpdphphieaoaaGreatDoorJC
import Derived.Test.YtfjpdphphieaoaaGreatDoorED
import Derived.Deep.RegionHeld3
set_option linter.unusedSectionVars false
set_option linter.unusedSimpArgs false
set_option linter.unusedVariables false
namespace Go.Proofs.YtfjpdphphieaoaaGreatDoor
open Go.RowKit Pal
theorem Kept.over {w W W' : World} {l : List (Nat × Obj)} (h : Kept w W l) {x0 x1 x2 : Value} {T : TypeId} (g : Kept w W' ((W.heap.size,.cells #[x0,x1,x2] T) :: l)) (y0 y1 y2 : Value) :
    Kept w (((W'.setCell ⟨W.heap.size,0,none⟩ y0).setCell ⟨W.heap.size,1,none⟩ y1).setCell ⟨W.heap.size,2,none⟩ y2) ((W.heap.size,.cells #[y0,y1,y2] T) :: l) := by
  refine ⟨below_set3 g.below h.below.size _ _ _,fun x hx => ?_⟩
  rcases List.mem_cons.1 hx with rfl | hx
  · exact set3_heap g.at0 _ _ _
  · have hl := (Array.getElem?_eq_some_iff.1 (h.mem x hx)).1
    exact (set3_other (by omega) _ _ _).trans (g.mem x (.tail _ hx))
theorem keep1s {W : World} {b B i j : Nat} {v x : Value} (hne : B ≠ b) (h : W.cell? ⟨B,i,none⟩ = some x) : (W.setCell ⟨b,j,none⟩ v).cell? ⟨B,i,none⟩ = some x := by
  unfold World.cell? at *
  rw [Below.heap_setCell _ _ _ _ (fun e => hne e)]
  exact h
theorem keep3s {W : World} {b B i j k l : Nat} {v u z x : Value} (hne : B ≠ b) (h : W.cell? ⟨B,i,none⟩ = some x) : (((W.setCell ⟨b,j,none⟩ v).setCell ⟨b,k,none⟩ u).setCell ⟨b,l,none⟩ z).cell? ⟨B,i,none⟩ = some x := keep1s hne (keep1s hne (keep1s hne h))
theorem need_sub {a u : Val} (h : need a [1,3,2] = .error u) : need a [1,3] = .error u := by
  unfold need at *
  by_cases h4 : a.k = 4
  · rw [if_pos h4] at h ⊢; exact h
  rw [if_neg h4] at h ⊢
  by_cases hk : a.k = 1 ∨ a.k = 3
  · exfalso
    rw [if_pos (by simp; omega)] at h
    cases h
  · rw [if_neg (by simp; omega)]
    split at h
    · cases h
    · exact h
theorem hold_err {op : Int} {a b c u : Val} (ho : op = 12 ∨ op = 13 ∨ op = 14 ∨ op = 15) (h : need a [1,3,2] = .error u) : truthM op a b c = u := by
  refine tr_err (by omega) ?_
  unfold kindsOf
  split
  · exact need_sub h
  · exact h
theorem hold_kind {op : Int} {a : Val} (ho : op = 12 ∨ op = 13 ∨ op = 14 ∨ op = 15) (h : a.k = 1 ∨ a.k = 3 ∨ (a.k = 2 ∧ (op = 12 ∨ op = 13))) : need a (kindsOf op) = .ok a := by
  unfold need kindsOf
  rw [if_neg (by omega)]
  split
  · rw [if_pos (by simp; omega)]
  · rw [if_pos (by simp; omega)]
theorem hold_bad {op : Int} {a b c : Val} (ho : op = 14 ∨ op = 15) (h : a.k = 2) : truthM op a b c = vBad 3 := by
  refine tr_err (by omega) ?_
  unfold need kindsOf
  rw [if_neg (by omega),if_pos ho,if_neg (by simp; omega)]
theorem hold_end {op : Int} {a b yv : Val} {okb : Bool} (ho : op = 12 ∨ op = 13 ∨ op = 14 ∨ op = 15) (ha : VOk a) (hb : VOk b) (hk : a.k = 1 ∨ a.k = 3 ∨ a.k = 2) (hn : need a (kindsOf op) = .ok a)
    (hok : needB (need b [a.k]) = okb) (hyv : needV (need b [a.k]) = yv) :
    (okb = false → truthM op a b vNil = yv) ∧ (okb = true → ∃ lb eb,truthM op a b vNil = vBool (cmpB op lb eb) ∧
      ((a.k ≠ 3 ∧ (⟨a.s.toArray⟩ : ByteArray) = ⟨#[]⟩ ∧ (⟨yv.s.toArray⟩ : ByteArray) = ⟨#[]⟩ ∧ decide (a.n < yv.n) = lb ∧ (a.n == yv.n) = eb) ∨
       (a.k = 3 ∧ a.n = 0 ∧ yv.n = 0 ∧ ∃ tt uu : Bs,(⟨a.s.toArray⟩ : ByteArray) = ⟨tt.toArray⟩ ∧ (⟨yv.s.toArray⟩ : ByteArray) = ⟨uu.toArray⟩ ∧ Op.bytesLess tt uu = lb ∧ (tt == uu) = eb))) := by
  rcases need_ok hb [a.k] with ⟨u,hu,-⟩ | ⟨hu,hk2⟩
  · rw [hu] at hok hyv
    have h1 : false = okb := hok
    have h2 : u = yv := hyv
    subst h1 h2
    exact ⟨fun _ => tr_err2 (by omega) hn hu,fun h => by cases h⟩
  · rw [hu] at hok hyv
    have h1 : true = okb := hok
    have h2 : b = yv := hyv
    subst h1 h2
    refine ⟨fun h => (by cases h),fun _ => ?_⟩
    rw [tr_ok (by omega) hn hu]
    have hk3 : b.k = a.k := by simpa using hk2
    rcases hk with hk | hk | hk
    · obtain ⟨m,rfl,-⟩ := ha.k1 hk
      obtain ⟨m2,rfl,-⟩ := hb.k1 (hk3.trans hk)
      exact ⟨decide (m < m2),(m == m2),by rw [cmpM_int]; rfl,.inl ⟨by show (1 : Int) ≠ 3; decide,rfl,rfl,rfl,rfl⟩⟩
    · obtain ⟨tt,rfl,-⟩ := ha.k3 hk
      obtain ⟨uu,rfl,-⟩ := hb.k3 (hk3.trans hk)
      exact ⟨Op.bytesLess tt uu,(tt == uu),by rw [cmpM_text,← beq_eq_dec],.inr ⟨rfl,rfl,rfl,tt,uu,rfl,rfl,rfl,rfl⟩⟩
    · obtain ⟨c,rfl⟩ := ha.k2 hk
      obtain ⟨d,rfl⟩ := hb.k2 (hk3.trans hk)
      have h14 : op = 12 ∨ op = 13 := by
        by_cases h : op = 14 ∨ op = 15
        · exfalso
          unfold need kindsOf at hn
          rw [if_neg (by rw [hk]; decide),if_pos h,if_neg (by rw [hk]; decide)] at hn
          cases hn
        · omega
      refine ⟨decide ((vBool c).n < (vBool d).n),((vBool c).n == (vBool d).n),?_,.inl ⟨by rw [hk]; decide,rfl,rfl,rfl,rfl⟩⟩
      rw [cmpM_bool]
      rcases h14 with rfl | rfl <;> cases c <;> cases d <;> rfl
set_option maxRecDepth 1000000 in
set_option maxHeartbeats 8000000 in
theorem jhold_any (names : List Bs) (vals : List Val) (op n : Int) (s : Bs) (x y : Ex) (v : Value) (p : Nat) (w : World) (ho : op = 12 ∨ op = 13 ∨ op = 14 ∨ op = 15)
    (hEx : JP names vals x) (hokx : VOk (ev (look names vals) x)) (hEy : JP names vals y) (hoky : VOk (ev (look names vals) y)) (hW : RW w p names vals) (hK : KV (gh w) v [x,y]) :
    Calls Tryz.prog 44 #[.pointer (some ⟨p,0,none⟩),exV op n s v] w (valPost (truthM op (ev (look names vals) x) (ev (look names vals) y) vNil) w) := by
  obtain ⟨a,cap,rfl⟩ := hK.form
  have hcap := hK.cap
  obtain ⟨b,off,ua,uc,rfl,c0,c1,c2,c3,hKx⟩ := hK.at0
  obtain ⟨ub,uc2,d0,d1,d2,d3,hKy⟩ := hK.at1
  have Wx := Lib.hid (fun kind W (hb : Below w.heap.size w W) => jwant_any x kind names vals (.slice ua x.ks.length uc) p W hEx (hW.keep hb) (hKx.keep hb))
  have Ox := Lib.hid (fun W (hb : Below w.heap.size w W) => hEx (.slice ua x.ks.length uc) W p (hW.keep hb) (hKx.keep hb))
  have Cx := Lib.hid (kid_cells c0 c1 c2 c3)
  have Wy := Lib.hid (fun kind W (hb : Below w.heap.size w W) => jwant_any y kind names vals (.slice ub y.ks.length uc2) p W hEy (hW.keep hb) (hKy.keep hb))
  have Oy := Lib.hid (fun W (hb : Below w.heap.size w W) => hEy (.slice ub y.ks.length uc2) W p (hW.keep hb) (hKy.keep hb))
  have Cy := Lib.hid (kid_cells d0 d1 d2 d3)
  have K0 := Lib.hid ((Kept.start w).new2 (.cells #[.int .i64 op,.int .i64 n,.string ⟨s.toArray⟩,.slice (some ⟨b,off,none⟩) 2 cap] 28) (.cells #[.int .i64 0,.int .i64 0,.string ⟨#[]⟩] 33))
  generalize ev (look names vals) x = vx at *
  have HOKx := Lib.hid hokx
  generalize ev (look names vals) y = vy at *
  have HOKy := Lib.hid hoky
  unfold wantPost exV strV at Wx Wy
  unfold valPost exV strV at Ox Oy
  simp only [List.length_cons,List.length_nil,Nat.zero_add] at hcap ⊢
  clear hW hK hEx hKx hokx hEy hKy hoky c0 c1 c2 c3 d0 d1 d2 d3
  obtain ⟨R,hR⟩ : ∃ R,truthM op vx vy vNil = R := ⟨_,rfl⟩
  rw [hR]
  have hne : wants vx 0 = need vx [1,3,2] := wants_any HOKx.out
  have HT1 := Lib.hid jtruth1
  have HT0 := Lib.hid jtruth0
  have HBD := Lib.hid (fun n W => jbad_any n W)
  have WX1 := Lib.hid (Wx.out 0)
  rw [hne] at WX1
  unfold aggPost at HT1 HT0
  clear Wx Ox Oy hne
  rcases need_ok HOKx.out [1,3,2] with ⟨u,hu,-⟩ | ⟨hu,hk1⟩
  · rw [hold_err ho hu] at hR
    rw [hu] at WX1
    have HR : Hid (R = u) := Lib.hid hR.symm
    clear hR hu
    obtain ⟨uk,huk⟩ : ∃ n,u.k = n := ⟨_,rfl⟩
    obtain ⟨un,hun⟩ : ∃ n,u.n = n := ⟨_,rfl⟩
    obtain ⟨us,hus⟩ : ∃ s : ByteArray,(⟨u.s.toArray⟩ : ByteArray) = s := ⟨_,rfl⟩
    have HU : Hid (valV u = .agg #[.int .i64 uk,.int .i64 un,.string us]) := Lib.hid (by unfold valV strV; rw [huk,hun,hus])
    clear huk hun hus
    unfold needV needB at WX1
    simp only [HU.out] at WX1
    unfold exV strV
    go_enter Tryz.func44,Tryz.ntmps44
    go_upto_region 1 with fail
    generalize (w.alloc (.cells #[.int .i64 op,.int .i64 n,.string ⟨s.toArray⟩,.slice (some ⟨b,off,none⟩) 2 cap] 28)).alloc (.cells #[.int .i64 0,.int .i64 0,.string ⟨#[]⟩] 33) = W1 at *
    obtain ⟨⟨e0,e1,e2,e3⟩,-⟩ := four_all K0.out.tail.at0
    obtain ⟨x0,x1,x2,x3⟩ := Cx.out _ K0.out.below
    go_wp2_with fail
    refine (WX1.out _ K0.out.below).mono ?_
    rintro r W2 ⟨rfl,hb⟩
    have K1 := Lib.hid (K0.out.call hb)
    clear hb e0 e1 e2 e3 x0 x1 x2 x3 WX1
    have K2 := Lib.hid (K1.out.new (.cells #[.int .i64 uk,.int .i64 un,.string us] 33))
    go_upto_region 3 with fail
    generalize W2.alloc (.cells #[.int .i64 uk,.int .i64 un,.string us] 33) = W3 at *
    generalize W2.heap.size = bU at *
    obtain ⟨⟨u0,u1,u2⟩,-⟩ := three_all K2.out.at0
    obtain ⟨⟨z0,z1,z2⟩,zf0,zf1,zf2⟩ := three_all K2.out.tail.at0
    go_wp2
    have hh := three_all (set3_heap K2.out.tail.at0 (.int .i64 uk) (.int .i64 un) (.string us))
    refine bodyPost_ret (v := .agg #[.int .i64 uk,.int .i64 un,.string us]) (by simp [results,Tryz.results44,go_sem,hh.1]) rfl ⟨by rw [HR.out,← HU.out],below_set3 K2.out.below (by omega) _ _ _⟩
  · rw [hu] at WX1
    have hk : vx.k = 1 ∨ vx.k = 3 ∨ vx.k = 2 := by simpa using hk1
    clear hu hk1
    unfold needV needB at WX1
    by_cases h14 : (op = 14 ∨ op = 15) ∧ vx.k = 2
    · obtain ⟨c,rfl⟩ := HOKx.out.k2 h14.2
      have HR : Hid (R = vBad 3) := Lib.hid (by rw [← hR]; exact hold_bad h14.1 rfl)
      obtain ⟨cn,hcn⟩ : ∃ n : Int,(vBool c).n = n := ⟨_,rfl⟩
      have hV : valV (vBool c) = .agg #[.int .i64 2,.int .i64 cn,.string ⟨#[]⟩] := by rw [← hcn]; rfl
      simp only [hV] at WX1
      have q : (op == 14) = true ∨ ((op == 14) = false ∧ (op == 15) = true) := by rcases h14.1 with rfl | rfl; exact .inl rfl; exact .inr ⟨rfl,rfl⟩
      clear hR hk h14 hV hcn Wy
      rcases q with q1 | ⟨q1,q2⟩
      all_goals
        unfold exV strV
        go_enter Tryz.func44,Tryz.ntmps44
        go_upto_region 1 with fail
        generalize (w.alloc (.cells #[.int .i64 op,.int .i64 n,.string ⟨s.toArray⟩,.slice (some ⟨b,off,none⟩) 2 cap] 28)).alloc (.cells #[.int .i64 0,.int .i64 0,.string ⟨#[]⟩] 33) = W1 at *
        obtain ⟨⟨e0,e1,e2,e3⟩,-⟩ := four_all K0.out.tail.at0
        obtain ⟨x0,x1,x2,x3⟩ := Cx.out _ K0.out.below
        go_wp2_with fail
        refine (WX1.out _ K0.out.below).mono ?_
        rintro r W2 ⟨rfl,hb⟩
        have K1 := Lib.hid (K0.out.call hb)
        clear hb e0 e1 e2 e3 x0 x1 x2 x3 WX1 K0
        have K2 := Lib.hid (K1.out.new (.cells #[.int .i64 2,.int .i64 cn,.string ⟨#[]⟩] 33))
        go_upto_region 4 with fail
        generalize W2.alloc (.cells #[.int .i64 2,.int .i64 cn,.string ⟨#[]⟩] 33) = W3 at *
        generalize W2.heap.size = bU at *
        obtain ⟨⟨u0,u1,u2⟩,-⟩ := three_all K2.out.at0
        obtain ⟨⟨e0,e1,e2,e3⟩,-⟩ := four_all K2.out.tail.tail.at0
        go_wp2_with fail
        refine (HBD.out 3 _).mono ?_
        rintro r W4 ⟨rfl,hb⟩
        have K3 := Lib.hid (K2.out.call hb)
        clear hb u0 u1 u2 e0 e1 e2 e3
        unfold valV strV vBad
        obtain ⟨⟨z0,z1,z2⟩,zf0,zf1,zf2⟩ := three_all K3.out.tail.at0
        go_wp2
        have hh := three_all (set3_heap K3.out.tail.at0 (.int .i64 4) (.int .i64 3) (.string ⟨#[]⟩))
        refine bodyPost_ret (v := valV (vBad 3)) (by simp [results,Tryz.results44,go_sem,valV,strV,vBad,hh.1]) rfl ⟨by rw [HR.out],below_set3 K3.out.below (by omega) _ _ _⟩
    · have hq : (vx.k == 2) = false ∨ ((vx.k == 2) = true ∧ (op == 14) = false ∧ (op == 15) = false) := by
        by_cases h2 : vx.k = 2
        · exact .inr ⟨by simp [h2],beq_eq_false_iff_ne.2 (fun h => h14 ⟨.inl h,h2⟩),beq_eq_false_iff_ne.2 (fun h => h14 ⟨.inr h,h2⟩)⟩
        · exact .inl (beq_eq_false_iff_ne.2 h2)
      have hneed : need vx (kindsOf op) = .ok vx := hold_kind ho (by omega)
      have hne2 : wants vy vx.k = need vy [vx.k] := wants_need HOKy.out vx.k (by omega)
      have WY1 := Lib.hid (Wy.out vx.k)
      rw [hne2] at WY1
      obtain ⟨okb,hok⟩ : ∃ b,needB (need vy [vx.k]) = b := ⟨_,rfl⟩
      obtain ⟨yv,hyv⟩ : ∃ v,needV (need vy [vx.k]) = v := ⟨_,rfl⟩
      rw [hok,hyv] at WY1
      have hend := hold_end ho HOKx.out HOKy.out hk hneed hok hyv
      rw [hR] at hend
      obtain ⟨xk,hxk⟩ : ∃ n,vx.k = n := ⟨_,rfl⟩
      obtain ⟨xn,hxn⟩ : ∃ n,vx.n = n := ⟨_,rfl⟩
      obtain ⟨xs,hxs⟩ : ∃ s : ByteArray,(⟨vx.s.toArray⟩ : ByteArray) = s := ⟨_,rfl⟩
      have HX : Hid (valV vx = .agg #[.int .i64 xk,.int .i64 xn,.string xs]) := Lib.hid (by unfold valV strV; rw [hxk,hxn,hxs])
      obtain ⟨yk,hyk⟩ : ∃ n,yv.k = n := ⟨_,rfl⟩
      obtain ⟨yn,hyn⟩ : ∃ n,yv.n = n := ⟨_,rfl⟩
      obtain ⟨ys,hys⟩ : ∃ s : ByteArray,(⟨yv.s.toArray⟩ : ByteArray) = s := ⟨_,rfl⟩
      have HY : Hid (valV yv = .agg #[.int .i64 yk,.int .i64 yn,.string ys]) := Lib.hid (by unfold valV strV; rw [hyk,hyn,hys])
      rw [hxk,hxn,hyn,hxs,hys] at hend
      rw [hxk] at hq WY1
      have HEND := Lib.hid hend
      simp only [HX.out] at WX1
      simp only [HY.out] at WY1
      have HQ := Lib.hid hq
      clear hq hend hR hneed hne2 hok hyv hxk hxn hxs hyk hyn hys hk h14 Wy
      unfold exV strV
      go_enter Tryz.func44,Tryz.ntmps44
      go_upto_region 1 with fail
      generalize (w.alloc (.cells #[.int .i64 op,.int .i64 n,.string ⟨s.toArray⟩,.slice (some ⟨b,off,none⟩) 2 cap] 28)).alloc (.cells #[.int .i64 0,.int .i64 0,.string ⟨#[]⟩] 33) = W1 at *
      obtain ⟨⟨e0,e1,e2,e3⟩,-⟩ := four_all K0.out.tail.at0
      obtain ⟨x0,x1,x2,x3⟩ := Cx.out _ K0.out.below
      go_wp2_with fail
      refine (WX1.out _ K0.out.below).mono ?_
      rintro r W2 ⟨rfl,hb⟩
      have K1 := Lib.hid (K0.out.call hb)
      clear hb e0 e1 e2 e3 x0 x1 x2 x3 WX1 K0
      have K2 := Lib.hid (K1.out.new (.cells #[.int .i64 xk,.int .i64 xn,.string xs] 33))
      go_upto_region 4 with fail
      generalize W2.alloc (.cells #[.int .i64 xk,.int .i64 xn,.string xs] 33) = W3 at *
      generalize W2.heap.size = bU at *
      obtain ⟨⟨u0,u1,u2⟩,-⟩ := three_all K2.out.at0
      obtain ⟨⟨e0,e1,e2,e3⟩,-⟩ := four_all K2.out.tail.tail.at0
      have n0 : w.heap.size < W3.heap.size := K2.out.tail.tail.lt
      go_cut [34] from 10 (fun s34 wv => s34 = .bool false ∧ Kept w wv ((bU,(.cells #[.int .i64 xk,.int .i64 xn,.string xs] 33)) :: (w.heap.size + 1,(.cells #[.int .i64 0,.int .i64 0,.string ⟨#[]⟩] 33)) :: (w.heap.size,(.cells #[.int .i64 op,.int .i64 n,.string ⟨s.toArray⟩,.slice (some ⟨b,off,none⟩) 2 cap] 28)) :: []))
      case first =>
        rcases HQ.out with q1 | ⟨q1,q2,q3⟩
        all_goals
          go_wp2
          go_meet
          case rel => exact ⟨rfl,K2.out⟩
      case rest =>
        obtain ⟨rfl,KB⟩ := hcut
        clear K2 u0 u1 u2 e0 e1 e2 e3 n0
        have K2 := Lib.hid KB
        clear KB
        generalize wc = W3 at *
        go_upto_region 6 with fail
        have KD := Lib.hid K2.out.drew
        have KA := Lib.hid (K2.out.new (.cells #[.int .i64 0,.int .i64 0,.string ⟨#[]⟩] 33)).drew
        obtain ⟨⟨u0,u1,u2⟩,-⟩ := three_all K2.out.at0
        obtain ⟨⟨e0,e1,e2,e3⟩,-⟩ := four_all K2.out.tail.tail.at0
        obtain ⟨y0,y1,y2,y3⟩ := Cy.out _ K2.out.below
        have n1 : w.heap.size < W3.heap.size := K2.out.tail.tail.lt
        have n2 : bU < W3.heap.size := K2.out.lt
        have n3 : b < W3.heap.size := World.block_lt_of_cell? W3 _ y0
        go_cut [6,7] from 10 (fun s6 s7 wv => s6 = .bool okb ∧ ∃ bY,s7 = .pointer (some ⟨bY,0,none⟩) ∧ Kept w wv ((bY,(.cells #[.int .i64 yk,.int .i64 yn,.string ys] 33)) :: (bU,(.cells #[.int .i64 xk,.int .i64 xn,.string xs] 33)) :: (w.heap.size + 1,(.cells #[.int .i64 0,.int .i64 0,.string ⟨#[]⟩] 33)) :: (w.heap.size,(.cells #[.int .i64 op,.int .i64 n,.string ⟨s.toArray⟩,.slice (some ⟨b,off,none⟩) 2 cap] 28)) :: []))
        case first =>
          go_region_held3 (fun w' => (w'.cell? ⟨w.heap.size,3,none⟩ = some (.slice (some ⟨b,off,none⟩) 2 cap) ∧ w'.cell? ⟨b,off + 4,none⟩ = some (.int .i64 y.op) ∧ w'.cell? ⟨b,off + 4 + 1,none⟩ = some (.int .i64 y.n) ∧ w'.cell? ⟨b,off + 4 + 2,none⟩ = some (.string ⟨y.s.toArray⟩) ∧ w'.cell? ⟨b,off + 4 + 3,none⟩ = some (.slice ub y.ks.length uc2) ∧ w'.cell? ⟨bU,0,none⟩ = some (.int .i64 xk))) ((first | go_keep | exact ⟨keep3s (by omega) e3,keep3s (by omega) y0,keep3s (by omega) y1,keep3s (by omega) y2,keep3s (by omega) y3,keep3s (by omega) u0⟩))
            ((first | (go_at_call 76; ((with_reducible refine (WY1.out _ KD.out.below).mono ?_)); rintro r W4 ⟨rfl,hb⟩; have K3 := Lib.hid (KD.out.call hb); clear hb; obtain ⟨⟨e0,e1,e2,e3⟩,-⟩ := four_all K3.out.tail.tail.at0; obtain ⟨y0,y1,y2,y3⟩ := Cy.out _ K3.out.below; obtain ⟨⟨u0,u1,u2⟩,-⟩ := three_all K3.out.at0) | (go_at_call 76; ((with_reducible refine (WY1.out _ KA.out.below).mono ?_)); rintro r W4 ⟨rfl,hb⟩; have K3 := Lib.hid (KA.out.call hb); clear hb; obtain ⟨⟨v0,v1,v2⟩,vf0,vf1,vf2⟩ := three_all K3.out.at0; obtain ⟨⟨e0,e1,e2,e3⟩,-⟩ := four_all K3.out.tail.tail.tail.at0; obtain ⟨y0,y1,y2,y3⟩ := Cy.out _ K3.out.below; obtain ⟨⟨u0,u1,u2⟩,-⟩ := three_all K3.out.tail.at0)))
          all_goals
            go_wp2
            go_meet
            case rel =>
              first
                | exact ⟨rfl,_,rfl,K2.out.over K3.out (.int .i64 yk) (.int .i64 yn) (.string ys)⟩
                | exact ⟨rfl,_,rfl,K3.out.new (.cells #[.int .i64 yk,.int .i64 yn,.string ys] 33)⟩
        case rest =>
          obtain ⟨rfl,bY,rfl,KB⟩ := hcut
          clear K2 KD KA e0 e1 e2 e3 y0 y1 y2 y3 u0 u1 u2 n1 n2 n3
          have K4 := Lib.hid KB
          clear KB
          generalize wc = W5 at *
          obtain ⟨⟨y0,y1,y2⟩,-⟩ := three_all K4.out.at0
          cases okb
          · skip
            have HR := Lib.hid (HEND.out.1 rfl)
            obtain ⟨⟨z0,z1,z2⟩,zf0,zf1,zf2⟩ := three_all K4.out.tail.tail.at0
            go_wp2
            have hh := three_all (set3_heap K4.out.tail.tail.at0 (.int .i64 yk) (.int .i64 yn) (.string ys))
            refine bodyPost_ret (v := .agg #[.int .i64 yk,.int .i64 yn,.string ys]) (by simp [results,Tryz.results44,go_sem,hh.1]) rfl ⟨by rw [HR.out,← HY.out],below_set3 K4.out.below (by omega) _ _ _⟩
          · skip
            obtain ⟨lb,eb,hR2,hc⟩ := HEND.out.2 rfl
            have HR := Lib.hid hR2
            have HC := Lib.hid hc
            clear hR2 hc
            obtain ⟨⟨u0,u1,u2⟩,-⟩ := three_all K4.out.tail.at0
            obtain ⟨⟨e0,e1,e2,e3⟩,-⟩ := four_all K4.out.tail.tail.tail.at0
            go_upto_region 9 with fail
            go_cut [8] from 10 (fun s8 wv => s8 = .bool eb ∧ Kept w wv ((bY,(.cells #[.int .i64 yk,.int .i64 yn,.string ys] 33)) :: (bU,(.cells #[.int .i64 xk,.int .i64 xn,.string xs] 33)) :: (w.heap.size + 1,(.cells #[.int .i64 0,.int .i64 0,.string ⟨#[]⟩] 33)) :: (w.heap.size,(.cells #[.int .i64 op,.int .i64 n,.string ⟨s.toArray⟩,.slice (some ⟨b,off,none⟩) 2 cap] 28)) :: []))
            case first =>
              rcases HC.out with ⟨h3,rfl,rfl,hl,he⟩ | ⟨rfl,rfl,rfl,tt,uu,rfl,rfl,hl,he⟩
              all_goals
                clear hl
                cases eb
                all_goals
                  go_wp2
                  go_meet
                  case rel => exact ⟨rfl,K4.out⟩
            case rest =>
              obtain ⟨rfl,KB⟩ := hcut
              clear K4 e0 e1 e2 e3 y0 y1 y2 u0 u1 u2
              have K4 := Lib.hid KB
              clear KB
              generalize wc = W6 at *
              obtain ⟨⟨y0,y1,y2⟩,-⟩ := three_all K4.out.at0
              obtain ⟨⟨u0,u1,u2⟩,-⟩ := three_all K4.out.tail.at0
              obtain ⟨⟨e0,e1,e2,e3⟩,-⟩ := four_all K4.out.tail.tail.tail.at0
              go_upto_if 69 with fail
              go_cut [9] from 10 (fun s9 wv => s9 = .bool lb ∧ Kept w wv ((bY,(.cells #[.int .i64 yk,.int .i64 yn,.string ys] 33)) :: (bU,(.cells #[.int .i64 xk,.int .i64 xn,.string xs] 33)) :: (w.heap.size + 1,(.cells #[.int .i64 0,.int .i64 0,.string ⟨#[]⟩] 33)) :: (w.heap.size,(.cells #[.int .i64 op,.int .i64 n,.string ⟨s.toArray⟩,.slice (some ⟨b,off,none⟩) 2 cap] 28)) :: []))
              case first =>
                rcases HC.out with ⟨h3,rfl,rfl,hl,he⟩ | ⟨rfl,rfl,rfl,tt,uu,rfl,rfl,hl,he⟩
                · have h3b : (xk == 3) = false := beq_eq_false_iff_ne.2 h3
                  clear he
                  go_wp2
                  go_meet
                  case rel => exact ⟨by first | rfl | (rw [← hl]),K4.out⟩
                · clear he
                  go_wp2
                  go_meet
                  case rel => exact ⟨by first | rfl | (rw [← hl]) | (simp [hl]),K4.out⟩
              case rest =>
                obtain ⟨rfl,KB⟩ := hcut
                clear K4 HC HEND e0 e1 e2 e3 y0 y1 y2 u0 u1 u2
                have K4 := Lib.hid KB
                clear KB
                generalize wc = W7 at *
                obtain ⟨⟨e0,e1,e2,e3⟩,-⟩ := four_all K4.out.tail.tail.tail.at0
                rcases ho with rfl | rfl | rfl | rfl
                · skip
                  have HR2 : Hid (R = vBool eb) := Lib.hid (by rw [HR.out]; first | rfl | (cases eb <;> rfl))
                  obtain ⟨tn,htn⟩ : ∃ tn : Int,(vBool eb).n = tn := ⟨_,rfl⟩
                  have HT : Hid (valV (vBool eb) = .agg #[.int .i64 2,.int .i64 tn,.string ⟨#[]⟩]) := Lib.hid (by rw [← htn]; rfl)
                  have HTt := Lib.hid (fun W => jtruth_any eb W)
                  unfold valPost at HTt
                  simp only [HT.out] at HTt
                  clear htn
                  go_wp2_with fail
                  refine (HTt.out _).mono ?_
                  rintro r W8 ⟨rfl,hb⟩
                  have K5 := Lib.hid (K4.out.call hb)
                  clear hb e0 e1 e2 e3
                  obtain ⟨⟨z0,z1,z2⟩,zf0,zf1,zf2⟩ := three_all K5.out.tail.tail.at0
                  go_wp2
                  have hh := three_all (set3_heap K5.out.tail.tail.at0 (.int .i64 2) (.int .i64 tn) (.string ⟨#[]⟩))
                  refine bodyPost_ret (v := .agg #[.int .i64 2,.int .i64 tn,.string ⟨#[]⟩]) (by simp [results,Tryz.results44,go_sem,hh.1]) rfl ⟨by rw [HR2.out,← HT.out],below_set3 K5.out.below (by omega) _ _ _⟩
                · skip
                  have HR2 : Hid (R = vBool (!eb)) := Lib.hid (by rw [HR.out]; first | rfl | (cases eb <;> rfl))
                  obtain ⟨tn,htn⟩ : ∃ tn : Int,(vBool (!eb)).n = tn := ⟨_,rfl⟩
                  have HT : Hid (valV (vBool (!eb)) = .agg #[.int .i64 2,.int .i64 tn,.string ⟨#[]⟩]) := Lib.hid (by rw [← htn]; rfl)
                  have HTt := Lib.hid (fun W => jtruth_any (!eb) W)
                  unfold valPost at HTt
                  simp only [HT.out] at HTt
                  clear htn
                  go_wp2_with fail
                  refine (HTt.out _).mono ?_
                  rintro r W8 ⟨rfl,hb⟩
                  have K5 := Lib.hid (K4.out.call hb)
                  clear hb e0 e1 e2 e3
                  obtain ⟨⟨z0,z1,z2⟩,zf0,zf1,zf2⟩ := three_all K5.out.tail.tail.at0
                  go_wp2
                  have hh := three_all (set3_heap K5.out.tail.tail.at0 (.int .i64 2) (.int .i64 tn) (.string ⟨#[]⟩))
                  refine bodyPost_ret (v := .agg #[.int .i64 2,.int .i64 tn,.string ⟨#[]⟩]) (by simp [results,Tryz.results44,go_sem,hh.1]) rfl ⟨by rw [HR2.out,← HT.out],below_set3 K5.out.below (by omega) _ _ _⟩
                · skip
                  have HR2 : Hid (R = vBool lb) := Lib.hid (by rw [HR.out]; first | rfl | (cases eb <;> rfl))
                  obtain ⟨tn,htn⟩ : ∃ tn : Int,(vBool lb).n = tn := ⟨_,rfl⟩
                  have HT : Hid (valV (vBool lb) = .agg #[.int .i64 2,.int .i64 tn,.string ⟨#[]⟩]) := Lib.hid (by rw [← htn]; rfl)
                  have HTt := Lib.hid (fun W => jtruth_any lb W)
                  unfold valPost at HTt
                  simp only [HT.out] at HTt
                  clear htn
                  go_wp2_with fail
                  refine (HTt.out _).mono ?_
                  rintro r W8 ⟨rfl,hb⟩
                  have K5 := Lib.hid (K4.out.call hb)
                  clear hb e0 e1 e2 e3
                  obtain ⟨⟨z0,z1,z2⟩,zf0,zf1,zf2⟩ := three_all K5.out.tail.tail.at0
                  go_wp2
                  have hh := three_all (set3_heap K5.out.tail.tail.at0 (.int .i64 2) (.int .i64 tn) (.string ⟨#[]⟩))
                  refine bodyPost_ret (v := .agg #[.int .i64 2,.int .i64 tn,.string ⟨#[]⟩]) (by simp [results,Tryz.results44,go_sem,hh.1]) rfl ⟨by rw [HR2.out,← HT.out],below_set3 K5.out.below (by omega) _ _ _⟩
                · cases lb
                  · skip
                    have HR2 : Hid (R = vBool eb) := Lib.hid (by rw [HR.out]; first | rfl | (cases eb <;> rfl))
                    obtain ⟨tn,htn⟩ : ∃ tn : Int,(vBool eb).n = tn := ⟨_,rfl⟩
                    have HT : Hid (valV (vBool eb) = .agg #[.int .i64 2,.int .i64 tn,.string ⟨#[]⟩]) := Lib.hid (by rw [← htn]; rfl)
                    have HTt := Lib.hid (fun W => jtruth_any eb W)
                    unfold valPost at HTt
                    simp only [HT.out] at HTt
                    clear htn
                    go_wp2_with fail
                    refine (HTt.out _).mono ?_
                    rintro r W8 ⟨rfl,hb⟩
                    have K5 := Lib.hid (K4.out.call hb)
                    clear hb e0 e1 e2 e3
                    obtain ⟨⟨z0,z1,z2⟩,zf0,zf1,zf2⟩ := three_all K5.out.tail.tail.at0
                    go_wp2
                    have hh := three_all (set3_heap K5.out.tail.tail.at0 (.int .i64 2) (.int .i64 tn) (.string ⟨#[]⟩))
                    refine bodyPost_ret (v := .agg #[.int .i64 2,.int .i64 tn,.string ⟨#[]⟩]) (by simp [results,Tryz.results44,go_sem,hh.1]) rfl ⟨by rw [HR2.out,← HT.out],below_set3 K5.out.below (by omega) _ _ _⟩
                  · skip
                    have HR2 : Hid (R = vBool true) := Lib.hid (by rw [HR.out]; first | rfl | (cases eb <;> rfl))
                    obtain ⟨tn,htn⟩ : ∃ tn : Int,(vBool true).n = tn := ⟨_,rfl⟩
                    have HT : Hid (valV (vBool true) = .agg #[.int .i64 2,.int .i64 tn,.string ⟨#[]⟩]) := Lib.hid (by rw [← htn]; rfl)
                    have HTt := Lib.hid (fun W => jtruth_any true W)
                    unfold valPost at HTt
                    simp only [HT.out] at HTt
                    clear htn
                    go_wp2_with fail
                    refine (HTt.out _).mono ?_
                    rintro r W8 ⟨rfl,hb⟩
                    have K5 := Lib.hid (K4.out.call hb)
                    clear hb e0 e1 e2 e3
                    obtain ⟨⟨z0,z1,z2⟩,zf0,zf1,zf2⟩ := three_all K5.out.tail.tail.at0
                    go_wp2
                    have hh := three_all (set3_heap K5.out.tail.tail.at0 (.int .i64 2) (.int .i64 tn) (.string ⟨#[]⟩))
                    refine bodyPost_ret (v := .agg #[.int .i64 2,.int .i64 tn,.string ⟨#[]⟩]) (by simp [results,Tryz.results44,go_sem,hh.1]) rfl ⟨by rw [HR2.out,← HT.out],below_set3 K5.out.below (by omega) _ _ _⟩
end Go.Proofs.YtfjpdphphieaoaaGreatDoor
