/- The walk of palaverref09's logic. Conditions: its parts come to what the plain law says, and that may be values. The walk of palaverref09's count. Conditions: its parts come to what the plain law says, and that may be values. The walk of palaverref09's texts. Conditions: its parts come to what the plain law says, and that may be values. The walk of palaverref09's texts. Conditions: its parts come to what the plain law says, and that may be values. The walk of palaverref09's texts. Conditions: its parts come to what the plain law says, and that may be values. -/
import Derived.Test.YtfjpdphphieaoaaGreatDoorJA
import Derived.Test.YtfjpdphphieaoaaGreatDoorRE
import Derived.Test.YtfjpdphphieaoaaGreatDoorEB
set_option linter.unusedSectionVars false
set_option linter.unusedSimpArgs false
set_option linter.unusedVariables false
namespace Go.Proofs.YtfjpdphphieaoaaGreatDoor
open Go.RowKit Pal
def aggPost (k n : Int) (s : ByteArray) (W : World) (r : Ending) (w' : World) : Prop := r = .returned (.agg #[.int .i64 k,.int .i64 n,.string s]) ∧ Below W.heap.size W w'
theorem jtruth1 (W : World) : Calls Tryz.prog 41 #[.bool true] W (aggPost 2 1 ⟨#[]⟩ W) := jtruth_any true W
theorem jtruth0 (W : World) : Calls Tryz.prog 41 #[.bool false] W (aggPost 2 0 ⟨#[]⟩ W) := jtruth_any false W
theorem logic_err {op : Int} {a b c u : Val} (ho : op = 6 ∨ op = 16 ∨ op = 17 ∨ op = 18) (h : need a [2] = .error u) : truthM op a b c = u := by unfold truthM; rw [if_pos ho,h]
theorem logic_ok {op : Int} {a b c : Val} (ho : op = 6 ∨ op = 16 ∨ op = 17 ∨ op = 18) (h : need a [2] = .ok a) : truthM op a b c = (if op = 6 then vBool (decide (a.n ≠ 1)) else if op = 18 then (if a.n = 1 then b else c) else if (a.n = 1) = (op = 17) then vBool (decide (a.n = 1)) else needV (need b [2])) := by
  unfold truthM; rw [if_pos ho,h]
  simp only
  split
  · rfl
  split
  · rfl
  split
  · rfl
  · cases need b [2] <;> rfl
set_option maxRecDepth 1000000 in
set_option maxHeartbeats 8000000 in
theorem jlogic1_any (names : List Bs) (vals : List Val) (op n : Int) (s : Bs) (x : Ex) (v : Value) (p : Nat) (w : World) (ho : op = 6)
    (hEx : JP names vals x) (hokx : VOk (ev (look names vals) x)) (hW : RW w p names vals) (hK : KV (gh w) v [x]) :
    Calls Tryz.prog 43 #[.pointer (some ⟨p,0,none⟩),exV op n s v] w (valPost (truthM op (ev (look names vals) x) vNil vNil) w) := by
  subst ho
  obtain ⟨a,cap,rfl⟩ := hK.form
  have hcap := hK.cap
  obtain ⟨b,off,ua,uc,rfl,c0,c1,c2,c3,hKx⟩ := hK.at0
  have Wx := Lib.hid (fun kind W (hb : Below w.heap.size w W) => jwant_any x kind names vals (.slice ua x.ks.length uc) p W hEx (hW.keep hb) (hKx.keep hb))
  have Ox := Lib.hid (fun W (hb : Below w.heap.size w W) => hEx (.slice ua x.ks.length uc) W p (hW.keep hb) (hKx.keep hb))
  have Cx := Lib.hid (kid_cells c0 c1 c2 c3)
  have K0 := Lib.hid ((Kept.start w).new2 (.cells #[.int .i64 6,.int .i64 n,.string ⟨s.toArray⟩,.slice (some ⟨b,off,none⟩) 1 cap] 28) (.cells #[.int .i64 0,.int .i64 0,.string ⟨#[]⟩] 33))
  generalize ev (look names vals) x = vx at *
  have HOKx := Lib.hid hokx
  unfold wantPost exV strV at Wx
  unfold valPost exV strV at Ox
  simp only [List.length_cons,List.length_nil,Nat.zero_add] at hcap ⊢
  clear hW hK hEx hKx hokx c0 c1 c2 c3
  obtain ⟨R,hR⟩ : ∃ R,truthM 6 vx vNil vNil = R := ⟨_,rfl⟩
  rw [hR]
  have hne : wants vx 2 = need vx [2] := wants_need HOKx.out 2 (by decide)
  have HT1 := Lib.hid jtruth1
  have HT0 := Lib.hid jtruth0
  have WX1 := Lib.hid (Wx.out 2)
  rw [hne] at WX1
  unfold aggPost at HT1 HT0
  clear Wx Ox hne
  rcases need_ok HOKx.out [2] with ⟨u,hu,-⟩ | ⟨hu,hk1⟩
  · rw [logic_err (by omega) hu] at hR
    rw [hu] at WX1
    have HR : Hid (R = u) := Lib.hid hR.symm
    clear hR hu
    obtain ⟨uk,huk⟩ : ∃ n,u.k = n := ⟨_,rfl⟩
    obtain ⟨un,hun⟩ : ∃ n,u.n = n := ⟨_,rfl⟩
    obtain ⟨us,hus⟩ : ∃ s : ByteArray,(⟨u.s.toArray⟩ : ByteArray) = s := ⟨_,rfl⟩
    have HU : Hid (valV u = .agg #[.int .i64 uk,.int .i64 un,.string us]) := Lib.hid (by unfold valV strV; rw [huk,hun,hus])
    clear huk hun hus
    unfold needV needB at WX1
    simp only [HU.out] at WX1
    unfold exV strV
    go_enter Tryz.func43,Tryz.ntmps43
    go_upto_region 1 with fail
    generalize (w.alloc (.cells #[.int .i64 6,.int .i64 n,.string ⟨s.toArray⟩,.slice (some ⟨b,off,none⟩) 1 cap] 28)).alloc (.cells #[.int .i64 0,.int .i64 0,.string ⟨#[]⟩] 33) = W1 at *
    obtain ⟨⟨e0,e1,e2,e3⟩,-⟩ := four_all K0.out.tail.at0
    obtain ⟨x0,x1,x2,x3⟩ := Cx.out _ K0.out.below
    go_wp2_with fail
    refine (WX1.out _ K0.out.below).mono ?_
    rintro r W2 ⟨rfl,hb⟩
    have K1 := Lib.hid (K0.out.call hb)
    clear hb e0 e1 e2 e3 x0 x1 x2 x3 WX1
    have K2 := Lib.hid (K1.out.new (.cells #[.int .i64 uk,.int .i64 un,.string us] 33))
    go_upto_region 3 with fail
    generalize W2.alloc (.cells #[.int .i64 uk,.int .i64 un,.string us] 33) = W3 at *
    generalize W2.heap.size = bU at *
    obtain ⟨⟨u0,u1,u2⟩,-⟩ := three_all K2.out.at0
    obtain ⟨⟨z0,z1,z2⟩,zf0,zf1,zf2⟩ := three_all K2.out.tail.at0
    go_wp2
    have hh := three_all (set3_heap K2.out.tail.at0 (.int .i64 uk) (.int .i64 un) (.string us))
    refine bodyPost_ret (v := .agg #[.int .i64 uk,.int .i64 un,.string us]) (by simp [results,Tryz.results43,go_sem,hh.1]) rfl ⟨by rw [HR.out,← HU.out],below_set3 K2.out.below (by omega) _ _ _⟩
  · rw [logic_ok (by omega) hu] at hR
    rw [hu] at WX1
    obtain ⟨c,rfl⟩ := HOKx.out.k2 (by simpa using hk1)
    clear hu hk1
    unfold needV needB at WX1
    cases c with
    | true =>
      have hV : valV (vBool true) = .agg #[.int .i64 2,.int .i64 1,.string ⟨#[]⟩] := rfl
      simp only [hV] at WX1
      have HR : Hid (R = vBool false) := Lib.hid hR.symm
      clear hR hV
      unfold exV strV
      go_enter Tryz.func43,Tryz.ntmps43
      go_upto_region 1 with fail
      generalize (w.alloc (.cells #[.int .i64 6,.int .i64 n,.string ⟨s.toArray⟩,.slice (some ⟨b,off,none⟩) 1 cap] 28)).alloc (.cells #[.int .i64 0,.int .i64 0,.string ⟨#[]⟩] 33) = W1 at *
      obtain ⟨⟨e0,e1,e2,e3⟩,-⟩ := four_all K0.out.tail.at0
      obtain ⟨x0,x1,x2,x3⟩ := Cx.out _ K0.out.below
      go_wp2_with fail
      refine (WX1.out _ K0.out.below).mono ?_
      rintro r W2 ⟨rfl,hb⟩
      have K1 := Lib.hid (K0.out.call hb)
      clear hb e0 e1 e2 e3 x0 x1 x2 x3 WX1 K0
      have K2 := Lib.hid (K1.out.new (.cells #[.int .i64 2,.int .i64 1,.string ⟨#[]⟩] 33))
      go_upto_region 4 with fail
      generalize W2.alloc (.cells #[.int .i64 2,.int .i64 1,.string ⟨#[]⟩] 33) = W3 at *
      generalize W2.heap.size = bU at *
      obtain ⟨⟨u0,u1,u2⟩,-⟩ := three_all K2.out.at0
      obtain ⟨⟨e0,e1,e2,e3⟩,-⟩ := four_all K2.out.tail.tail.at0
      go_wp2_with fail
      refine (HT0.out _).mono ?_
      rintro r W4 ⟨rfl,hb⟩
      have K3 := Lib.hid (K2.out.call hb)
      clear hb u0 u1 u2 e0 e1 e2 e3
      obtain ⟨⟨z0,z1,z2⟩,zf0,zf1,zf2⟩ := three_all K3.out.tail.at0
      go_wp2
      have hh := three_all (set3_heap K3.out.tail.at0 (.int .i64 2) (.int .i64 0) (.string ⟨#[]⟩))
      refine bodyPost_ret (v := valV (vBool false)) (by simp [results,Tryz.results43,go_sem,valV,strV,vBool,hh.1]) rfl ⟨by rw [HR.out],below_set3 K3.out.below (by omega) _ _ _⟩
    | false =>
      have hV : valV (vBool false) = .agg #[.int .i64 2,.int .i64 0,.string ⟨#[]⟩] := rfl
      simp only [hV] at WX1
      have HR : Hid (R = vBool true) := Lib.hid hR.symm
      clear hR hV
      unfold exV strV
      go_enter Tryz.func43,Tryz.ntmps43
      go_upto_region 1 with fail
      generalize (w.alloc (.cells #[.int .i64 6,.int .i64 n,.string ⟨s.toArray⟩,.slice (some ⟨b,off,none⟩) 1 cap] 28)).alloc (.cells #[.int .i64 0,.int .i64 0,.string ⟨#[]⟩] 33) = W1 at *
      obtain ⟨⟨e0,e1,e2,e3⟩,-⟩ := four_all K0.out.tail.at0
      obtain ⟨x0,x1,x2,x3⟩ := Cx.out _ K0.out.below
      go_wp2_with fail
      refine (WX1.out _ K0.out.below).mono ?_
      rintro r W2 ⟨rfl,hb⟩
      have K1 := Lib.hid (K0.out.call hb)
      clear hb e0 e1 e2 e3 x0 x1 x2 x3 WX1 K0
      have K2 := Lib.hid (K1.out.new (.cells #[.int .i64 2,.int .i64 0,.string ⟨#[]⟩] 33))
      go_upto_region 4 with fail
      generalize W2.alloc (.cells #[.int .i64 2,.int .i64 0,.string ⟨#[]⟩] 33) = W3 at *
      generalize W2.heap.size = bU at *
      obtain ⟨⟨u0,u1,u2⟩,-⟩ := three_all K2.out.at0
      obtain ⟨⟨e0,e1,e2,e3⟩,-⟩ := four_all K2.out.tail.tail.at0
      go_wp2_with fail
      refine (HT1.out _).mono ?_
      rintro r W4 ⟨rfl,hb⟩
      have K3 := Lib.hid (K2.out.call hb)
      clear hb u0 u1 u2 e0 e1 e2 e3
      obtain ⟨⟨z0,z1,z2⟩,zf0,zf1,zf2⟩ := three_all K3.out.tail.at0
      go_wp2
      have hh := three_all (set3_heap K3.out.tail.at0 (.int .i64 2) (.int .i64 1) (.string ⟨#[]⟩))
      refine bodyPost_ret (v := valV (vBool true)) (by simp [results,Tryz.results43,go_sem,valV,strV,vBool,hh.1]) rfl ⟨by rw [HR.out],below_set3 K3.out.below (by omega) _ _ _⟩
set_option maxRecDepth 1000000 in
set_option maxHeartbeats 8000000 in
theorem jlogic2_any (names : List Bs) (vals : List Val) (op n : Int) (s : Bs) (x y : Ex) (v : Value) (p : Nat) (w : World) (ho : op = 16 ∨ op = 17)
    (hEx : JP names vals x) (hokx : VOk (ev (look names vals) x)) (hEy : JP names vals y) (hoky : VOk (ev (look names vals) y)) (hW : RW w p names vals) (hK : KV (gh w) v [x,y]) :
    Calls Tryz.prog 43 #[.pointer (some ⟨p,0,none⟩),exV op n s v] w (valPost (truthM op (ev (look names vals) x) (ev (look names vals) y) vNil) w) := by
  obtain ⟨a,cap,rfl⟩ := hK.form
  have hcap := hK.cap
  obtain ⟨b,off,ua,uc,rfl,c0,c1,c2,c3,hKx⟩ := hK.at0
  obtain ⟨ub,uc2,d0,d1,d2,d3,hKy⟩ := hK.at1
  have Wx := Lib.hid (fun kind W (hb : Below w.heap.size w W) => jwant_any x kind names vals (.slice ua x.ks.length uc) p W hEx (hW.keep hb) (hKx.keep hb))
  have Ox := Lib.hid (fun W (hb : Below w.heap.size w W) => hEx (.slice ua x.ks.length uc) W p (hW.keep hb) (hKx.keep hb))
  have Cx := Lib.hid (kid_cells c0 c1 c2 c3)
  have Wy := Lib.hid (fun kind W (hb : Below w.heap.size w W) => jwant_any y kind names vals (.slice ub y.ks.length uc2) p W hEy (hW.keep hb) (hKy.keep hb))
  have Oy := Lib.hid (fun W (hb : Below w.heap.size w W) => hEy (.slice ub y.ks.length uc2) W p (hW.keep hb) (hKy.keep hb))
  have Cy := Lib.hid (kid_cells d0 d1 d2 d3)
  have K0 := Lib.hid ((Kept.start w).new2 (.cells #[.int .i64 op,.int .i64 n,.string ⟨s.toArray⟩,.slice (some ⟨b,off,none⟩) 2 cap] 28) (.cells #[.int .i64 0,.int .i64 0,.string ⟨#[]⟩] 33))
  generalize ev (look names vals) x = vx at *
  have HOKx := Lib.hid hokx
  generalize ev (look names vals) y = vy at *
  have HOKy := Lib.hid hoky
  unfold wantPost exV strV at Wx Wy
  unfold valPost exV strV at Ox Oy
  simp only [List.length_cons,List.length_nil,Nat.zero_add] at hcap ⊢
  clear hW hK hEx hKx hokx hEy hKy hoky c0 c1 c2 c3 d0 d1 d2 d3
  obtain ⟨R,hR⟩ : ∃ R,truthM op vx vy vNil = R := ⟨_,rfl⟩
  rw [hR]
  have hne : wants vx 2 = need vx [2] := wants_need HOKx.out 2 (by decide)
  have HT1 := Lib.hid jtruth1
  have HT0 := Lib.hid jtruth0
  have WX1 := Lib.hid (Wx.out 2)
  rw [hne] at WX1
  unfold aggPost at HT1 HT0
  clear Wx Ox hne
  rcases need_ok HOKx.out [2] with ⟨u,hu,-⟩ | ⟨hu,hk1⟩
  · rw [logic_err (by omega) hu] at hR
    rw [hu] at WX1
    have HR : Hid (R = u) := Lib.hid hR.symm
    clear hR hu
    obtain ⟨uk,huk⟩ : ∃ n,u.k = n := ⟨_,rfl⟩
    obtain ⟨un,hun⟩ : ∃ n,u.n = n := ⟨_,rfl⟩
    obtain ⟨us,hus⟩ : ∃ s : ByteArray,(⟨u.s.toArray⟩ : ByteArray) = s := ⟨_,rfl⟩
    have HU : Hid (valV u = .agg #[.int .i64 uk,.int .i64 un,.string us]) := Lib.hid (by unfold valV strV; rw [huk,hun,hus])
    clear huk hun hus
    unfold needV needB at WX1
    simp only [HU.out] at WX1
    unfold exV strV
    go_enter Tryz.func43,Tryz.ntmps43
    go_upto_region 1 with fail
    generalize (w.alloc (.cells #[.int .i64 op,.int .i64 n,.string ⟨s.toArray⟩,.slice (some ⟨b,off,none⟩) 2 cap] 28)).alloc (.cells #[.int .i64 0,.int .i64 0,.string ⟨#[]⟩] 33) = W1 at *
    obtain ⟨⟨e0,e1,e2,e3⟩,-⟩ := four_all K0.out.tail.at0
    obtain ⟨x0,x1,x2,x3⟩ := Cx.out _ K0.out.below
    go_wp2_with fail
    refine (WX1.out _ K0.out.below).mono ?_
    rintro r W2 ⟨rfl,hb⟩
    have K1 := Lib.hid (K0.out.call hb)
    clear hb e0 e1 e2 e3 x0 x1 x2 x3 WX1
    have K2 := Lib.hid (K1.out.new (.cells #[.int .i64 uk,.int .i64 un,.string us] 33))
    go_upto_region 3 with fail
    generalize W2.alloc (.cells #[.int .i64 uk,.int .i64 un,.string us] 33) = W3 at *
    generalize W2.heap.size = bU at *
    obtain ⟨⟨u0,u1,u2⟩,-⟩ := three_all K2.out.at0
    obtain ⟨⟨z0,z1,z2⟩,zf0,zf1,zf2⟩ := three_all K2.out.tail.at0
    go_wp2
    have hh := three_all (set3_heap K2.out.tail.at0 (.int .i64 uk) (.int .i64 un) (.string us))
    refine bodyPost_ret (v := .agg #[.int .i64 uk,.int .i64 un,.string us]) (by simp [results,Tryz.results43,go_sem,hh.1]) rfl ⟨by rw [HR.out,← HU.out],below_set3 K2.out.below (by omega) _ _ _⟩
  · rw [logic_ok (by omega) hu] at hR
    rw [hu] at WX1
    obtain ⟨c,rfl⟩ := HOKx.out.k2 (by simpa using hk1)
    clear hu hk1
    unfold needV needB at WX1
    have hne2 : wants vy 2 = need vy [2] := wants_need HOKy.out 2 (by decide)
    have WY1 := Lib.hid (Wy.out 2)
    rw [hne2] at WY1
    clear Wy Oy hne2
    obtain ⟨u,hu⟩ : ∃ u,needV (need vy [2]) = u := ⟨_,rfl⟩
    obtain ⟨bb,hbb⟩ : ∃ b,needB (need vy [2]) = b := ⟨_,rfl⟩
    rw [hu] at hR
    rw [hu,hbb] at WY1
    clear hu hbb
    obtain ⟨uk,huk⟩ : ∃ n,u.k = n := ⟨_,rfl⟩
    obtain ⟨un,hun⟩ : ∃ n,u.n = n := ⟨_,rfl⟩
    obtain ⟨us,hus⟩ : ∃ s : ByteArray,(⟨u.s.toArray⟩ : ByteArray) = s := ⟨_,rfl⟩
    have HU : Hid (valV u = .agg #[.int .i64 uk,.int .i64 un,.string us]) := Lib.hid (by unfold valV strV; rw [huk,hun,hus])
    clear huk hun hus
    simp only [HU.out] at WY1
    rcases ho with rfl | rfl
    · cases c with
      | true =>
        have hV : valV (vBool true) = .agg #[.int .i64 2,.int .i64 1,.string ⟨#[]⟩] := rfl
        simp only [hV] at WX1
        have HR : Hid (R = u) := Lib.hid (by rw [← hR]; simp [vBool])
        clear hR hV
        unfold exV strV
        go_enter Tryz.func43,Tryz.ntmps43
        go_upto_region 1 with fail
        generalize (w.alloc (.cells #[.int .i64 16,.int .i64 n,.string ⟨s.toArray⟩,.slice (some ⟨b,off,none⟩) 2 cap] 28)).alloc (.cells #[.int .i64 0,.int .i64 0,.string ⟨#[]⟩] 33) = W1 at *
        obtain ⟨⟨e0,e1,e2,e3⟩,-⟩ := four_all K0.out.tail.at0
        obtain ⟨x0,x1,x2,x3⟩ := Cx.out _ K0.out.below
        go_wp2_with fail
        refine (WX1.out _ K0.out.below).mono ?_
        rintro r W2 ⟨rfl,hb⟩
        have K1 := Lib.hid (K0.out.call hb)
        clear hb e0 e1 e2 e3 x0 x1 x2 x3 WX1 K0
        have K2 := Lib.hid (K1.out.new (.cells #[.int .i64 2,.int .i64 1,.string ⟨#[]⟩] 33))
        go_upto_region 4 with fail
        generalize W2.alloc (.cells #[.int .i64 2,.int .i64 1,.string ⟨#[]⟩] 33) = W3 at *
        generalize W2.heap.size = bU at *
        obtain ⟨⟨u0,u1,u2⟩,-⟩ := three_all K2.out.at0
        obtain ⟨⟨e0,e1,e2,e3⟩,-⟩ := four_all K2.out.tail.tail.at0
        obtain ⟨y0,y1,y2,y3⟩ := Cy.out _ K2.out.below
        go_wp2_with fail
        refine (WY1.out _ K2.out.below).mono ?_
        rintro r W4 ⟨rfl,hb⟩
        have K3 := Lib.hid (K2.out.call hb)
        clear hb u0 u1 u2 e0 e1 e2 e3 y0 y1 y2 y3
        have K4 := Lib.hid (K3.out.new (.cells #[.int .i64 uk,.int .i64 un,.string us] 33))
        go_upto_region 14 with fail
        generalize W4.alloc (.cells #[.int .i64 uk,.int .i64 un,.string us] 33) = W5 at *
        generalize W4.heap.size = bY at *
        obtain ⟨⟨u0,u1,u2⟩,-⟩ := three_all K4.out.at0
        obtain ⟨⟨z0,z1,z2⟩,zf0,zf1,zf2⟩ := three_all K4.out.tail.tail.at0
        go_wp2
        have hh := three_all (set3_heap K4.out.tail.tail.at0 (.int .i64 uk) (.int .i64 un) (.string us))
        refine bodyPost_ret (v := .agg #[.int .i64 uk,.int .i64 un,.string us]) (by simp [results,Tryz.results43,go_sem,hh.1]) rfl ⟨by rw [HR.out,← HU.out],below_set3 K4.out.below (by omega) _ _ _⟩
      | false =>
        have hV : valV (vBool false) = .agg #[.int .i64 2,.int .i64 0,.string ⟨#[]⟩] := rfl
        simp only [hV] at WX1
        have HR : Hid (R = vBool false) := Lib.hid (by rw [← hR]; simp [vBool])
        clear hR hV
        unfold exV strV
        go_enter Tryz.func43,Tryz.ntmps43
        go_upto_region 1 with fail
        generalize (w.alloc (.cells #[.int .i64 16,.int .i64 n,.string ⟨s.toArray⟩,.slice (some ⟨b,off,none⟩) 2 cap] 28)).alloc (.cells #[.int .i64 0,.int .i64 0,.string ⟨#[]⟩] 33) = W1 at *
        obtain ⟨⟨e0,e1,e2,e3⟩,-⟩ := four_all K0.out.tail.at0
        obtain ⟨x0,x1,x2,x3⟩ := Cx.out _ K0.out.below
        go_wp2_with fail
        refine (WX1.out _ K0.out.below).mono ?_
        rintro r W2 ⟨rfl,hb⟩
        have K1 := Lib.hid (K0.out.call hb)
        clear hb e0 e1 e2 e3 x0 x1 x2 x3 WX1 K0
        have K2 := Lib.hid (K1.out.new (.cells #[.int .i64 2,.int .i64 0,.string ⟨#[]⟩] 33))
        go_upto_region 4 with fail
        generalize W2.alloc (.cells #[.int .i64 2,.int .i64 0,.string ⟨#[]⟩] 33) = W3 at *
        generalize W2.heap.size = bU at *
        obtain ⟨⟨u0,u1,u2⟩,-⟩ := three_all K2.out.at0
        obtain ⟨⟨e0,e1,e2,e3⟩,-⟩ := four_all K2.out.tail.tail.at0
        obtain ⟨⟨z0,z1,z2⟩,zf0,zf1,zf2⟩ := three_all K2.out.tail.at0
        go_wp2
        have hh := three_all (set3_heap K2.out.tail.at0 (.int .i64 2) (.int .i64 0) (.string ⟨#[]⟩))
        refine bodyPost_ret (v := valV (vBool false)) (by simp [results,Tryz.results43,go_sem,valV,strV,vBool,hh.1]) rfl ⟨by rw [HR.out],below_set3 K2.out.below (by omega) _ _ _⟩
    · cases c with
      | true =>
        have hV : valV (vBool true) = .agg #[.int .i64 2,.int .i64 1,.string ⟨#[]⟩] := rfl
        simp only [hV] at WX1
        have HR : Hid (R = vBool true) := Lib.hid (by rw [← hR]; simp [vBool])
        clear hR hV
        unfold exV strV
        go_enter Tryz.func43,Tryz.ntmps43
        go_upto_region 1 with fail
        generalize (w.alloc (.cells #[.int .i64 17,.int .i64 n,.string ⟨s.toArray⟩,.slice (some ⟨b,off,none⟩) 2 cap] 28)).alloc (.cells #[.int .i64 0,.int .i64 0,.string ⟨#[]⟩] 33) = W1 at *
        obtain ⟨⟨e0,e1,e2,e3⟩,-⟩ := four_all K0.out.tail.at0
        obtain ⟨x0,x1,x2,x3⟩ := Cx.out _ K0.out.below
        go_wp2_with fail
        refine (WX1.out _ K0.out.below).mono ?_
        rintro r W2 ⟨rfl,hb⟩
        have K1 := Lib.hid (K0.out.call hb)
        clear hb e0 e1 e2 e3 x0 x1 x2 x3 WX1 K0
        have K2 := Lib.hid (K1.out.new (.cells #[.int .i64 2,.int .i64 1,.string ⟨#[]⟩] 33))
        go_upto_region 4 with fail
        generalize W2.alloc (.cells #[.int .i64 2,.int .i64 1,.string ⟨#[]⟩] 33) = W3 at *
        generalize W2.heap.size = bU at *
        obtain ⟨⟨u0,u1,u2⟩,-⟩ := three_all K2.out.at0
        obtain ⟨⟨e0,e1,e2,e3⟩,-⟩ := four_all K2.out.tail.tail.at0
        obtain ⟨⟨z0,z1,z2⟩,zf0,zf1,zf2⟩ := three_all K2.out.tail.at0
        go_wp2
        have hh := three_all (set3_heap K2.out.tail.at0 (.int .i64 2) (.int .i64 1) (.string ⟨#[]⟩))
        refine bodyPost_ret (v := valV (vBool true)) (by simp [results,Tryz.results43,go_sem,valV,strV,vBool,hh.1]) rfl ⟨by rw [HR.out],below_set3 K2.out.below (by omega) _ _ _⟩
      | false =>
        have hV : valV (vBool false) = .agg #[.int .i64 2,.int .i64 0,.string ⟨#[]⟩] := rfl
        simp only [hV] at WX1
        have HR : Hid (R = u) := Lib.hid (by rw [← hR]; simp [vBool])
        clear hR hV
        unfold exV strV
        go_enter Tryz.func43,Tryz.ntmps43
        go_upto_region 1 with fail
        generalize (w.alloc (.cells #[.int .i64 17,.int .i64 n,.string ⟨s.toArray⟩,.slice (some ⟨b,off,none⟩) 2 cap] 28)).alloc (.cells #[.int .i64 0,.int .i64 0,.string ⟨#[]⟩] 33) = W1 at *
        obtain ⟨⟨e0,e1,e2,e3⟩,-⟩ := four_all K0.out.tail.at0
        obtain ⟨x0,x1,x2,x3⟩ := Cx.out _ K0.out.below
        go_wp2_with fail
        refine (WX1.out _ K0.out.below).mono ?_
        rintro r W2 ⟨rfl,hb⟩
        have K1 := Lib.hid (K0.out.call hb)
        clear hb e0 e1 e2 e3 x0 x1 x2 x3 WX1 K0
        have K2 := Lib.hid (K1.out.new (.cells #[.int .i64 2,.int .i64 0,.string ⟨#[]⟩] 33))
        go_upto_region 4 with fail
        generalize W2.alloc (.cells #[.int .i64 2,.int .i64 0,.string ⟨#[]⟩] 33) = W3 at *
        generalize W2.heap.size = bU at *
        obtain ⟨⟨u0,u1,u2⟩,-⟩ := three_all K2.out.at0
        obtain ⟨⟨e0,e1,e2,e3⟩,-⟩ := four_all K2.out.tail.tail.at0
        obtain ⟨y0,y1,y2,y3⟩ := Cy.out _ K2.out.below
        go_wp2_with fail
        refine (WY1.out _ K2.out.below).mono ?_
        rintro r W4 ⟨rfl,hb⟩
        have K3 := Lib.hid (K2.out.call hb)
        clear hb u0 u1 u2 e0 e1 e2 e3 y0 y1 y2 y3
        have K4 := Lib.hid (K3.out.new (.cells #[.int .i64 uk,.int .i64 un,.string us] 33))
        go_upto_region 14 with fail
        generalize W4.alloc (.cells #[.int .i64 uk,.int .i64 un,.string us] 33) = W5 at *
        generalize W4.heap.size = bY at *
        obtain ⟨⟨u0,u1,u2⟩,-⟩ := three_all K4.out.at0
        obtain ⟨⟨z0,z1,z2⟩,zf0,zf1,zf2⟩ := three_all K4.out.tail.tail.at0
        go_wp2
        have hh := three_all (set3_heap K4.out.tail.tail.at0 (.int .i64 uk) (.int .i64 un) (.string us))
        refine bodyPost_ret (v := .agg #[.int .i64 uk,.int .i64 un,.string us]) (by simp [results,Tryz.results43,go_sem,hh.1]) rfl ⟨by rw [HR.out,← HU.out],below_set3 K4.out.below (by omega) _ _ _⟩
set_option maxRecDepth 1000000 in
set_option maxHeartbeats 8000000 in
theorem jlogic3_any (names : List Bs) (vals : List Val) (op n : Int) (s : Bs) (x y z : Ex) (v : Value) (p : Nat) (w : World) (ho : op = 18)
    (hEx : JP names vals x) (hokx : VOk (ev (look names vals) x)) (hEy : JP names vals y) (hoky : VOk (ev (look names vals) y)) (hEz : JP names vals z) (hokz : VOk (ev (look names vals) z)) (hW : RW w p names vals) (hK : KV (gh w) v [x,y,z]) :
    Calls Tryz.prog 43 #[.pointer (some ⟨p,0,none⟩),exV op n s v] w (valPost (truthM op (ev (look names vals) x) (ev (look names vals) y) (ev (look names vals) z)) w) := by
  subst ho
  obtain ⟨a,cap,rfl⟩ := hK.form
  have hcap := hK.cap
  obtain ⟨b,off,ua,uc,rfl,c0,c1,c2,c3,hKx⟩ := hK.at0
  obtain ⟨ub,uc2,d0,d1,d2,d3,hKy⟩ := hK.at1
  obtain ⟨ud,uc3,g0,g1,g2,g3,hKz⟩ := hK.at2
  have Wx := Lib.hid (fun kind W (hb : Below w.heap.size w W) => jwant_any x kind names vals (.slice ua x.ks.length uc) p W hEx (hW.keep hb) (hKx.keep hb))
  have Ox := Lib.hid (fun W (hb : Below w.heap.size w W) => hEx (.slice ua x.ks.length uc) W p (hW.keep hb) (hKx.keep hb))
  have Cx := Lib.hid (kid_cells c0 c1 c2 c3)
  have Wy := Lib.hid (fun kind W (hb : Below w.heap.size w W) => jwant_any y kind names vals (.slice ub y.ks.length uc2) p W hEy (hW.keep hb) (hKy.keep hb))
  have Oy := Lib.hid (fun W (hb : Below w.heap.size w W) => hEy (.slice ub y.ks.length uc2) W p (hW.keep hb) (hKy.keep hb))
  have Cy := Lib.hid (kid_cells d0 d1 d2 d3)
  have Wz := Lib.hid (fun kind W (hb : Below w.heap.size w W) => jwant_any z kind names vals (.slice ud z.ks.length uc3) p W hEz (hW.keep hb) (hKz.keep hb))
  have Oz := Lib.hid (fun W (hb : Below w.heap.size w W) => hEz (.slice ud z.ks.length uc3) W p (hW.keep hb) (hKz.keep hb))
  have Cz := Lib.hid (kid_cells g0 g1 g2 g3)
  have K0 := Lib.hid ((Kept.start w).new2 (.cells #[.int .i64 18,.int .i64 n,.string ⟨s.toArray⟩,.slice (some ⟨b,off,none⟩) 3 cap] 28) (.cells #[.int .i64 0,.int .i64 0,.string ⟨#[]⟩] 33))
  generalize ev (look names vals) x = vx at *
  have HOKx := Lib.hid hokx
  generalize ev (look names vals) y = vy at *
  have HOKy := Lib.hid hoky
  generalize ev (look names vals) z = vz at *
  have HOKz := Lib.hid hokz
  unfold wantPost exV strV at Wx Wy Wz
  unfold valPost exV strV at Ox Oy Oz
  simp only [List.length_cons,List.length_nil,Nat.zero_add] at hcap ⊢
  clear hW hK hEx hKx hokx hEy hKy hoky hEz hKz hokz c0 c1 c2 c3 d0 d1 d2 d3 g0 g1 g2 g3
  obtain ⟨R,hR⟩ : ∃ R,truthM 18 vx vy vz = R := ⟨_,rfl⟩
  rw [hR]
  have hne : wants vx 2 = need vx [2] := wants_need HOKx.out 2 (by decide)
  have HT1 := Lib.hid jtruth1
  have HT0 := Lib.hid jtruth0
  have WX1 := Lib.hid (Wx.out 2)
  rw [hne] at WX1
  unfold aggPost at HT1 HT0
  clear Wx Ox hne
  rcases need_ok HOKx.out [2] with ⟨u,hu,-⟩ | ⟨hu,hk1⟩
  · rw [logic_err (by omega) hu] at hR
    rw [hu] at WX1
    have HR : Hid (R = u) := Lib.hid hR.symm
    clear hR hu
    obtain ⟨uk,huk⟩ : ∃ n,u.k = n := ⟨_,rfl⟩
    obtain ⟨un,hun⟩ : ∃ n,u.n = n := ⟨_,rfl⟩
    obtain ⟨us,hus⟩ : ∃ s : ByteArray,(⟨u.s.toArray⟩ : ByteArray) = s := ⟨_,rfl⟩
    have HU : Hid (valV u = .agg #[.int .i64 uk,.int .i64 un,.string us]) := Lib.hid (by unfold valV strV; rw [huk,hun,hus])
    clear huk hun hus
    unfold needV needB at WX1
    simp only [HU.out] at WX1
    unfold exV strV
    go_enter Tryz.func43,Tryz.ntmps43
    go_upto_region 1 with fail
    generalize (w.alloc (.cells #[.int .i64 18,.int .i64 n,.string ⟨s.toArray⟩,.slice (some ⟨b,off,none⟩) 3 cap] 28)).alloc (.cells #[.int .i64 0,.int .i64 0,.string ⟨#[]⟩] 33) = W1 at *
    obtain ⟨⟨e0,e1,e2,e3⟩,-⟩ := four_all K0.out.tail.at0
    obtain ⟨x0,x1,x2,x3⟩ := Cx.out _ K0.out.below
    go_wp2_with fail
    refine (WX1.out _ K0.out.below).mono ?_
    rintro r W2 ⟨rfl,hb⟩
    have K1 := Lib.hid (K0.out.call hb)
    clear hb e0 e1 e2 e3 x0 x1 x2 x3 WX1
    have K2 := Lib.hid (K1.out.new (.cells #[.int .i64 uk,.int .i64 un,.string us] 33))
    go_upto_region 3 with fail
    generalize W2.alloc (.cells #[.int .i64 uk,.int .i64 un,.string us] 33) = W3 at *
    generalize W2.heap.size = bU at *
    obtain ⟨⟨u0,u1,u2⟩,-⟩ := three_all K2.out.at0
    obtain ⟨⟨z0,z1,z2⟩,zf0,zf1,zf2⟩ := three_all K2.out.tail.at0
    go_wp2
    have hh := three_all (set3_heap K2.out.tail.at0 (.int .i64 uk) (.int .i64 un) (.string us))
    refine bodyPost_ret (v := .agg #[.int .i64 uk,.int .i64 un,.string us]) (by simp [results,Tryz.results43,go_sem,hh.1]) rfl ⟨by rw [HR.out,← HU.out],below_set3 K2.out.below (by omega) _ _ _⟩
  · rw [logic_ok (by omega) hu] at hR
    rw [hu] at WX1
    obtain ⟨c,rfl⟩ := HOKx.out.k2 (by simpa using hk1)
    clear hu hk1
    unfold needV needB at WX1
    have OY1 := Lib.hid Oy.out
    have OZ1 := Lib.hid Oz.out
    clear Wy Wz Oy Oz
    cases c with
    | true =>
      have hV : valV (vBool true) = .agg #[.int .i64 2,.int .i64 1,.string ⟨#[]⟩] := rfl
      simp only [hV] at WX1
      have HR : Hid (R = vy) := Lib.hid (by rw [← hR]; simp [vBool])
      clear hR hV
      obtain ⟨uk,huk⟩ : ∃ n,vy.k = n := ⟨_,rfl⟩
      obtain ⟨un,hun⟩ : ∃ n,vy.n = n := ⟨_,rfl⟩
      obtain ⟨us,hus⟩ : ∃ s : ByteArray,(⟨vy.s.toArray⟩ : ByteArray) = s := ⟨_,rfl⟩
      have HU : Hid (valV vy = .agg #[.int .i64 uk,.int .i64 un,.string us]) := Lib.hid (by unfold valV strV; rw [huk,hun,hus])
      clear huk hun hus
      simp only [HU.out] at OY1
      unfold exV strV
      go_enter Tryz.func43,Tryz.ntmps43
      go_upto_region 1 with fail
      generalize (w.alloc (.cells #[.int .i64 18,.int .i64 n,.string ⟨s.toArray⟩,.slice (some ⟨b,off,none⟩) 3 cap] 28)).alloc (.cells #[.int .i64 0,.int .i64 0,.string ⟨#[]⟩] 33) = W1 at *
      obtain ⟨⟨e0,e1,e2,e3⟩,-⟩ := four_all K0.out.tail.at0
      obtain ⟨x0,x1,x2,x3⟩ := Cx.out _ K0.out.below
      go_wp2_with fail
      refine (WX1.out _ K0.out.below).mono ?_
      rintro r W2 ⟨rfl,hb⟩
      have K1 := Lib.hid (K0.out.call hb)
      clear hb e0 e1 e2 e3 x0 x1 x2 x3 WX1 K0
      have K2 := Lib.hid (K1.out.new (.cells #[.int .i64 2,.int .i64 1,.string ⟨#[]⟩] 33))
      go_upto_region 4 with fail
      generalize W2.alloc (.cells #[.int .i64 2,.int .i64 1,.string ⟨#[]⟩] 33) = W3 at *
      generalize W2.heap.size = bU at *
      obtain ⟨⟨u0,u1,u2⟩,-⟩ := three_all K2.out.at0
      obtain ⟨⟨e0,e1,e2,e3⟩,-⟩ := four_all K2.out.tail.tail.at0
      obtain ⟨y0,y1,y2,y3⟩ := Cy.out _ K2.out.below
      go_wp2_with fail
      refine (OY1.out _ K2.out.below).mono ?_
      rintro r W4 ⟨rfl,hb⟩
      have K3 := Lib.hid (K2.out.call hb)
      clear hb u0 u1 u2 e0 e1 e2 e3 y0 y1 y2 y3
      obtain ⟨⟨z0,z1,z2⟩,zf0,zf1,zf2⟩ := three_all K3.out.tail.at0
      go_wp2
      have hh := three_all (set3_heap K3.out.tail.at0 (.int .i64 uk) (.int .i64 un) (.string us))
      refine bodyPost_ret (v := .agg #[.int .i64 uk,.int .i64 un,.string us]) (by simp [results,Tryz.results43,go_sem,hh.1]) rfl ⟨by rw [HR.out,← HU.out],below_set3 K3.out.below (by omega) _ _ _⟩
    | false =>
      have hV : valV (vBool false) = .agg #[.int .i64 2,.int .i64 0,.string ⟨#[]⟩] := rfl
      simp only [hV] at WX1
      have HR : Hid (R = vz) := Lib.hid (by rw [← hR]; simp [vBool])
      clear hR hV
      obtain ⟨uk,huk⟩ : ∃ n,vz.k = n := ⟨_,rfl⟩
      obtain ⟨un,hun⟩ : ∃ n,vz.n = n := ⟨_,rfl⟩
      obtain ⟨us,hus⟩ : ∃ s : ByteArray,(⟨vz.s.toArray⟩ : ByteArray) = s := ⟨_,rfl⟩
      have HU : Hid (valV vz = .agg #[.int .i64 uk,.int .i64 un,.string us]) := Lib.hid (by unfold valV strV; rw [huk,hun,hus])
      clear huk hun hus
      simp only [HU.out] at OZ1
      unfold exV strV
      go_enter Tryz.func43,Tryz.ntmps43
      go_upto_region 1 with fail
      generalize (w.alloc (.cells #[.int .i64 18,.int .i64 n,.string ⟨s.toArray⟩,.slice (some ⟨b,off,none⟩) 3 cap] 28)).alloc (.cells #[.int .i64 0,.int .i64 0,.string ⟨#[]⟩] 33) = W1 at *
      obtain ⟨⟨e0,e1,e2,e3⟩,-⟩ := four_all K0.out.tail.at0
      obtain ⟨x0,x1,x2,x3⟩ := Cx.out _ K0.out.below
      go_wp2_with fail
      refine (WX1.out _ K0.out.below).mono ?_
      rintro r W2 ⟨rfl,hb⟩
      have K1 := Lib.hid (K0.out.call hb)
      clear hb e0 e1 e2 e3 x0 x1 x2 x3 WX1 K0
      have K2 := Lib.hid (K1.out.new (.cells #[.int .i64 2,.int .i64 0,.string ⟨#[]⟩] 33))
      go_upto_region 4 with fail
      generalize W2.alloc (.cells #[.int .i64 2,.int .i64 0,.string ⟨#[]⟩] 33) = W3 at *
      generalize W2.heap.size = bU at *
      obtain ⟨⟨u0,u1,u2⟩,-⟩ := three_all K2.out.at0
      obtain ⟨⟨e0,e1,e2,e3⟩,-⟩ := four_all K2.out.tail.tail.at0
      obtain ⟨z0,z1,z2,z3⟩ := Cz.out _ K2.out.below
      go_wp2_with fail
      refine (OZ1.out _ K2.out.below).mono ?_
      rintro r W4 ⟨rfl,hb⟩
      have K3 := Lib.hid (K2.out.call hb)
      clear hb u0 u1 u2 e0 e1 e2 e3 z0 z1 z2 z3
      obtain ⟨⟨z0,z1,z2⟩,zf0,zf1,zf2⟩ := three_all K3.out.tail.at0
      go_wp2
      have hh := three_all (set3_heap K3.out.tail.at0 (.int .i64 uk) (.int .i64 un) (.string us))
      refine bodyPost_ret (v := .agg #[.int .i64 uk,.int .i64 un,.string us]) (by simp [results,Tryz.results43,go_sem,hh.1]) rfl ⟨by rw [HR.out,← HU.out],below_set3 K3.out.below (by omega) _ _ _⟩
end Go.Proofs.YtfjpdphphieaoaaGreatDoor
namespace Go.Proofs.YtfjpdphphieaoaaGreatDoor
open Go.RowKit Pal
set_option maxRecDepth 1000000 in
set_option maxHeartbeats 8000000 in
theorem jcount1_any (names : List Bs) (vals : List Val) (op n : Int) (s : Bs) (x : Ex) (v : Value) (p : Nat) (w : World) (ho : op = 5)
    (hEx : JP names vals x) (hokx : VOk (ev (look names vals) x)) (hW : RW w p names vals) (hK : KV (gh w) v [x]) :
    Calls Tryz.prog 46 #[.pointer (some ⟨p,0,none⟩),exV op n s v] w (valPost (numM op (ev (look names vals) x) vNil) w) := by
  subst ho
  obtain ⟨a,cap,rfl⟩ := hK.form
  have hcap := hK.cap
  obtain ⟨b,off,ua,uc,rfl,c0,c1,c2,c3,hKx⟩ := hK.at0
  have Wx := Lib.hid (fun kind W (hb : Below w.heap.size w W) => jwant_any x kind names vals (.slice ua x.ks.length uc) p W hEx (hW.keep hb) (hKx.keep hb))
  have Ox := Lib.hid (fun W (hb : Below w.heap.size w W) => hEx (.slice ua x.ks.length uc) W p (hW.keep hb) (hKx.keep hb))
  have Cx := Lib.hid (kid_cells c0 c1 c2 c3)
  have K0 := Lib.hid ((Kept.start w).new2 (.cells #[.int .i64 5,.int .i64 n,.string ⟨s.toArray⟩,.slice (some ⟨b,off,none⟩) 1 cap] 28) (.cells #[.int .i64 0,.int .i64 0,.string ⟨#[]⟩] 33))
  generalize ev (look names vals) x = vx at *
  have HOKx := Lib.hid hokx
  unfold wantPost exV strV at Wx
  unfold valPost exV strV at Ox
  simp only [List.length_cons,List.length_nil,Nat.zero_add] at hcap ⊢
  clear hW hK hEx hKx hokx c0 c1 c2 c3
  obtain ⟨R,hR⟩ : ∃ R,numM 5 vx vNil = R := ⟨_,rfl⟩
  rw [hR]
  have hne : wants vx 1 = need vx [1] := wants_need HOKx.out 1 (by decide)
  have HPR := Lib.hid (fun a W ha => jprod_any a (-1) W ha (by decide))
  have HBD := Lib.hid (fun W => jbad_any 1 W)
  have HNM := Lib.hid (fun n W => jnum_any n W)
  have WX1 := Lib.hid (Wx.out 1)
  rw [hne] at WX1
  unfold numM at hR
  clear Wx Ox hne
  rcases need_ok HOKx.out [1] with ⟨u,hu,-⟩ | ⟨hu,hk1⟩
  · rw [hu] at WX1 hR
    have HR : Hid (R = u) := Lib.hid hR.symm
    clear hR hu
    obtain ⟨uk,huk⟩ : ∃ n,u.k = n := ⟨_,rfl⟩
    obtain ⟨un,hun⟩ : ∃ n,u.n = n := ⟨_,rfl⟩
    obtain ⟨us,hus⟩ : ∃ s : ByteArray,(⟨u.s.toArray⟩ : ByteArray) = s := ⟨_,rfl⟩
    have HU : Hid (valV u = .agg #[.int .i64 uk,.int .i64 un,.string us]) := Lib.hid (by unfold valV strV; rw [huk,hun,hus])
    clear huk hun hus
    unfold needV needB at WX1
    simp only [HU.out] at WX1
    unfold exV strV
    go_enter Tryz.func46,Tryz.ntmps46
    go_upto_region 1 with fail
    generalize (w.alloc (.cells #[.int .i64 5,.int .i64 n,.string ⟨s.toArray⟩,.slice (some ⟨b,off,none⟩) 1 cap] 28)).alloc (.cells #[.int .i64 0,.int .i64 0,.string ⟨#[]⟩] 33) = W1 at *
    obtain ⟨⟨e0,e1,e2,e3⟩,-⟩ := four_all K0.out.tail.at0
    obtain ⟨x0,x1,x2,x3⟩ := Cx.out _ K0.out.below
    go_wp2_with fail
    refine (WX1.out _ K0.out.below).mono ?_
    rintro r W2 ⟨rfl,hb⟩
    have K1 := Lib.hid (K0.out.call hb)
    clear hb e0 e1 e2 e3 x0 x1 x2 x3 WX1
    have K2 := Lib.hid (K1.out.new (.cells #[.int .i64 uk,.int .i64 un,.string us] 33))
    go_upto_region 3 with fail
    generalize W2.alloc (.cells #[.int .i64 uk,.int .i64 un,.string us] 33) = W3 at *
    generalize W2.heap.size = bU at *
    obtain ⟨⟨u0,u1,u2⟩,-⟩ := three_all K2.out.at0
    obtain ⟨⟨z0,z1,z2⟩,zf0,zf1,zf2⟩ := three_all K2.out.tail.at0
    go_wp2
    have hh := three_all (set3_heap K2.out.tail.at0 (.int .i64 uk) (.int .i64 un) (.string us))
    refine bodyPost_ret (v := .agg #[.int .i64 uk,.int .i64 un,.string us]) (by simp [results,Tryz.results46,go_sem,hh.1]) rfl ⟨by rw [HR.out,← HU.out],below_set3 K2.out.below (by omega) _ _ _⟩
  · obtain ⟨m,rfl,hm⟩ := HOKx.out.k1 (by simpa using hk1)
    rw [hu] at WX1 hR
    simp only [vInt,if_true] at hR
    clear hu hk1
    have hV : valV (vInt m) = .agg #[.int .i64 1,.int .i64 m,.string ⟨#[]⟩] := rfl
    unfold needV needB at WX1
    simp only [hV] at WX1
    have HPM := Lib.hid (fun W => HPR.out m W hm)
    unfold prodPost at HPM
    clear hV
    obtain ⟨m2,hm2⟩ : ∃ m2,0 - m = m2 := ⟨_,rfl⟩
    have hmm : m * -1 = m2 := by omega
    rw [hmm] at HPM
    rw [hm2] at hR
    clear hm2
    by_cases hr : R64 m2
    · have HR : Hid (R = vInt m2) := Lib.hid (by rw [← hR]; exact fitM_yes hr)
      rw [decide_eq_true hr] at HPM
      have HRR := Lib.hid hr
      clear hR hr hmm
      unfold exV strV
      go_enter Tryz.func46,Tryz.ntmps46
      go_upto_region 1 with fail
      generalize (w.alloc (.cells #[.int .i64 5,.int .i64 n,.string ⟨s.toArray⟩,.slice (some ⟨b,off,none⟩) 1 cap] 28)).alloc (.cells #[.int .i64 0,.int .i64 0,.string ⟨#[]⟩] 33) = W1 at *
      obtain ⟨⟨e0,e1,e2,e3⟩,-⟩ := four_all K0.out.tail.at0
      obtain ⟨x0,x1,x2,x3⟩ := Cx.out _ K0.out.below
      go_wp2_with fail
      refine (WX1.out _ K0.out.below).mono ?_
      rintro r W2 ⟨rfl,hb⟩
      have K1 := Lib.hid (K0.out.call hb)
      clear hb e0 e1 e2 e3 x0 x1 x2 x3 WX1
      have K2 := Lib.hid (K1.out.new (.cells #[.int .i64 1,.int .i64 m,.string ⟨#[]⟩] 33))
      go_upto_region 4 with fail
      generalize W2.alloc (.cells #[.int .i64 1,.int .i64 m,.string ⟨#[]⟩] 33) = W3 at *
      generalize W2.heap.size = bU at *
      obtain ⟨⟨u0,u1,u2⟩,-⟩ := three_all K2.out.at0
      obtain ⟨⟨e0,e1,e2,e3⟩,-⟩ := four_all K2.out.tail.tail.at0
      go_wp2_with fail
      refine (HPM.out _).mono ?_
      rintro r W4 ⟨c,rfl,hc,rfl⟩
      obtain rfl := hc HRR.out
      clear hc
      go_wp2_with fail
      refine (HNM.out _ _).mono ?_
      rintro r W5 ⟨rfl,hb⟩
      have K3 := Lib.hid (K2.out.call hb)
      clear hb u0 u1 u2 e0 e1 e2 e3
      unfold valV strV vInt
      obtain ⟨⟨z0,z1,z2⟩,zf0,zf1,zf2⟩ := three_all K3.out.tail.at0
      go_wp2
      have hh := three_all (set3_heap K3.out.tail.at0 (.int .i64 1) (.int .i64 c) (.string ⟨#[]⟩))
      refine bodyPost_ret (v := valV (vInt c)) (by simp [results,Tryz.results46,go_sem,valV,strV,vInt,hh.1]) rfl ⟨by rw [HR.out],below_set3 K3.out.below (by omega) _ _ _⟩
    · have HR : Hid (R = vBad 1) := Lib.hid (by rw [← hR]; exact fitM_no hr)
      rw [decide_eq_false hr] at HPM
      clear hR hr hmm
      unfold exV strV
      go_enter Tryz.func46,Tryz.ntmps46
      go_upto_region 1 with fail
      generalize (w.alloc (.cells #[.int .i64 5,.int .i64 n,.string ⟨s.toArray⟩,.slice (some ⟨b,off,none⟩) 1 cap] 28)).alloc (.cells #[.int .i64 0,.int .i64 0,.string ⟨#[]⟩] 33) = W1 at *
      obtain ⟨⟨e0,e1,e2,e3⟩,-⟩ := four_all K0.out.tail.at0
      obtain ⟨x0,x1,x2,x3⟩ := Cx.out _ K0.out.below
      go_wp2_with fail
      refine (WX1.out _ K0.out.below).mono ?_
      rintro r W2 ⟨rfl,hb⟩
      have K1 := Lib.hid (K0.out.call hb)
      clear hb e0 e1 e2 e3 x0 x1 x2 x3 WX1
      have K2 := Lib.hid (K1.out.new (.cells #[.int .i64 1,.int .i64 m,.string ⟨#[]⟩] 33))
      go_upto_region 4 with fail
      generalize W2.alloc (.cells #[.int .i64 1,.int .i64 m,.string ⟨#[]⟩] 33) = W3 at *
      generalize W2.heap.size = bU at *
      obtain ⟨⟨u0,u1,u2⟩,-⟩ := three_all K2.out.at0
      obtain ⟨⟨e0,e1,e2,e3⟩,-⟩ := four_all K2.out.tail.tail.at0
      go_wp2_with fail
      refine (HPM.out _).mono ?_
      rintro r W4 ⟨c,rfl,-,rfl⟩
      go_wp2_with fail
      refine (HBD.out _).mono ?_
      rintro r W5 ⟨rfl,hb⟩
      have K3 := Lib.hid (K2.out.call hb)
      clear hb u0 u1 u2 e0 e1 e2 e3
      unfold valV strV vBad
      obtain ⟨⟨z0,z1,z2⟩,zf0,zf1,zf2⟩ := three_all K3.out.tail.at0
      go_wp2
      have hh := three_all (set3_heap K3.out.tail.at0 (.int .i64 4) (.int .i64 1) (.string ⟨#[]⟩))
      refine bodyPost_ret (v := valV (vBad 1)) (by simp [results,Tryz.results46,go_sem,valV,strV,vBad,hh.1]) rfl ⟨by rw [HR.out],below_set3 K3.out.below (by omega) _ _ _⟩
set_option maxRecDepth 1000000 in
set_option maxHeartbeats 8000000 in
theorem jcount2_any (names : List Bs) (vals : List Val) (op n : Int) (s : Bs) (x y : Ex) (v : Value) (p : Nat) (w : World) (ho : op = 7 ∨ op = 8 ∨ op = 9 ∨ op = 10 ∨ op = 11)
    (hEx : JP names vals x) (hokx : VOk (ev (look names vals) x)) (hEy : JP names vals y) (hoky : VOk (ev (look names vals) y)) (hW : RW w p names vals) (hK : KV (gh w) v [x,y]) :
    Calls Tryz.prog 46 #[.pointer (some ⟨p,0,none⟩),exV op n s v] w (valPost (numM op (ev (look names vals) x) (ev (look names vals) y)) w) := by
  obtain ⟨a,cap,rfl⟩ := hK.form
  have hcap := hK.cap
  obtain ⟨b,off,ua,uc,rfl,c0,c1,c2,c3,hKx⟩ := hK.at0
  obtain ⟨ub,uc2,d0,d1,d2,d3,hKy⟩ := hK.at1
  have Wx := Lib.hid (fun kind W (hb : Below w.heap.size w W) => jwant_any x kind names vals (.slice ua x.ks.length uc) p W hEx (hW.keep hb) (hKx.keep hb))
  have Ox := Lib.hid (fun W (hb : Below w.heap.size w W) => hEx (.slice ua x.ks.length uc) W p (hW.keep hb) (hKx.keep hb))
  have Cx := Lib.hid (kid_cells c0 c1 c2 c3)
  have Wy := Lib.hid (fun kind W (hb : Below w.heap.size w W) => jwant_any y kind names vals (.slice ub y.ks.length uc2) p W hEy (hW.keep hb) (hKy.keep hb))
  have Oy := Lib.hid (fun W (hb : Below w.heap.size w W) => hEy (.slice ub y.ks.length uc2) W p (hW.keep hb) (hKy.keep hb))
  have Cy := Lib.hid (kid_cells d0 d1 d2 d3)
  have K0 := Lib.hid ((Kept.start w).new2 (.cells #[.int .i64 op,.int .i64 n,.string ⟨s.toArray⟩,.slice (some ⟨b,off,none⟩) 2 cap] 28) (.cells #[.int .i64 0,.int .i64 0,.string ⟨#[]⟩] 33))
  generalize ev (look names vals) x = vx at *
  have HOKx := Lib.hid hokx
  generalize ev (look names vals) y = vy at *
  have HOKy := Lib.hid hoky
  unfold wantPost exV strV at Wx Wy
  unfold valPost exV strV at Ox Oy
  simp only [List.length_cons,List.length_nil,Nat.zero_add] at hcap ⊢
  clear hW hK hEx hKx hokx hEy hKy hoky c0 c1 c2 c3 d0 d1 d2 d3
  obtain ⟨R,hR⟩ : ∃ R,numM op vx vy = R := ⟨_,rfl⟩
  rw [hR]
  have hne : wants vx 1 = need vx [1] := wants_need HOKx.out 1 (by decide)
  have hne2 : wants vy 1 = need vy [1] := wants_need HOKy.out 1 (by decide)
  have HPR := Lib.hid (fun a b W ha hb => jprod_any a b W ha hb)
  have HSM := Lib.hid (fun a b W ha hb => jsum_any a b W ha hb)
  have HBD := Lib.hid (fun n W => jbad_any n W)
  have HNM := Lib.hid (fun n W => jnum_any n W)
  have WX1 := Lib.hid (Wx.out 1)
  have WY1 := Lib.hid (Wy.out 1)
  rw [hne] at WX1
  rw [hne2] at WY1
  have q5 : (op == 5) = false := beq_eq_false_iff_ne.2 (by omega)
  unfold numM at hR
  clear Wx Ox Wy Oy hne hne2
  rcases need_ok HOKx.out [1] with ⟨u,hu,-⟩ | ⟨hu,hk1⟩
  · rw [hu] at WX1 hR
    have HR : Hid (R = u) := Lib.hid hR.symm
    clear hR hu
    obtain ⟨uk,huk⟩ : ∃ n,u.k = n := ⟨_,rfl⟩
    obtain ⟨un,hun⟩ : ∃ n,u.n = n := ⟨_,rfl⟩
    obtain ⟨us,hus⟩ : ∃ s : ByteArray,(⟨u.s.toArray⟩ : ByteArray) = s := ⟨_,rfl⟩
    have HU : Hid (valV u = .agg #[.int .i64 uk,.int .i64 un,.string us]) := Lib.hid (by unfold valV strV; rw [huk,hun,hus])
    clear huk hun hus
    unfold needV needB at WX1
    simp only [HU.out] at WX1
    unfold exV strV
    go_enter Tryz.func46,Tryz.ntmps46
    go_upto_region 1 with fail
    generalize (w.alloc (.cells #[.int .i64 op,.int .i64 n,.string ⟨s.toArray⟩,.slice (some ⟨b,off,none⟩) 2 cap] 28)).alloc (.cells #[.int .i64 0,.int .i64 0,.string ⟨#[]⟩] 33) = W1 at *
    obtain ⟨⟨e0,e1,e2,e3⟩,-⟩ := four_all K0.out.tail.at0
    obtain ⟨x0,x1,x2,x3⟩ := Cx.out _ K0.out.below
    go_wp2_with fail
    refine (WX1.out _ K0.out.below).mono ?_
    rintro r W2 ⟨rfl,hb⟩
    have K1 := Lib.hid (K0.out.call hb)
    clear hb e0 e1 e2 e3 x0 x1 x2 x3 WX1
    have K2 := Lib.hid (K1.out.new (.cells #[.int .i64 uk,.int .i64 un,.string us] 33))
    go_upto_region 3 with fail
    generalize W2.alloc (.cells #[.int .i64 uk,.int .i64 un,.string us] 33) = W3 at *
    generalize W2.heap.size = bU at *
    obtain ⟨⟨u0,u1,u2⟩,-⟩ := three_all K2.out.at0
    obtain ⟨⟨z0,z1,z2⟩,zf0,zf1,zf2⟩ := three_all K2.out.tail.at0
    go_wp2
    have hh := three_all (set3_heap K2.out.tail.at0 (.int .i64 uk) (.int .i64 un) (.string us))
    refine bodyPost_ret (v := .agg #[.int .i64 uk,.int .i64 un,.string us]) (by simp [results,Tryz.results46,go_sem,hh.1]) rfl ⟨by rw [HR.out,← HU.out],below_set3 K2.out.below (by omega) _ _ _⟩
  · obtain ⟨m,rfl,hm⟩ := HOKx.out.k1 (by simpa using hk1)
    rw [hu] at WX1 hR
    simp only [vInt,if_neg (show ¬ op = 5 by omega)] at hR
    clear hu hk1
    have hV : ∀ m,valV (vInt m) = .agg #[.int .i64 1,.int .i64 m,.string ⟨#[]⟩] := fun _ => rfl
    unfold needV needB at WX1
    simp only [hV] at WX1
    rcases need_ok HOKy.out [1] with ⟨u,hu,-⟩ | ⟨hu,hk1⟩
    · rw [hu] at WY1 hR
      have HR : Hid (R = u) := Lib.hid hR.symm
      clear hR hu hV
      obtain ⟨uk,huk⟩ : ∃ n,u.k = n := ⟨_,rfl⟩
      obtain ⟨un,hun⟩ : ∃ n,u.n = n := ⟨_,rfl⟩
      obtain ⟨us,hus⟩ : ∃ s : ByteArray,(⟨u.s.toArray⟩ : ByteArray) = s := ⟨_,rfl⟩
      have HU : Hid (valV u = .agg #[.int .i64 uk,.int .i64 un,.string us]) := Lib.hid (by unfold valV strV; rw [huk,hun,hus])
      clear huk hun hus
      unfold needV needB at WY1
      simp only [HU.out] at WY1
      unfold exV strV
      go_enter Tryz.func46,Tryz.ntmps46
      go_upto_region 1 with fail
      generalize (w.alloc (.cells #[.int .i64 op,.int .i64 n,.string ⟨s.toArray⟩,.slice (some ⟨b,off,none⟩) 2 cap] 28)).alloc (.cells #[.int .i64 0,.int .i64 0,.string ⟨#[]⟩] 33) = W1 at *
      obtain ⟨⟨e0,e1,e2,e3⟩,-⟩ := four_all K0.out.tail.at0
      obtain ⟨x0,x1,x2,x3⟩ := Cx.out _ K0.out.below
      go_wp2_with fail
      refine (WX1.out _ K0.out.below).mono ?_
      rintro r W2 ⟨rfl,hb⟩
      have K1 := Lib.hid (K0.out.call hb)
      clear hb e0 e1 e2 e3 x0 x1 x2 x3 WX1 K0
      have K2 := Lib.hid (K1.out.new (.cells #[.int .i64 1,.int .i64 m,.string ⟨#[]⟩] 33))
      go_upto_region 4 with fail
      generalize W2.alloc (.cells #[.int .i64 1,.int .i64 m,.string ⟨#[]⟩] 33) = W3 at *
      generalize W2.heap.size = bU at *
      obtain ⟨⟨e0,e1,e2,e3⟩,-⟩ := four_all K2.out.tail.tail.at0
      obtain ⟨y0,y1,y2,y3⟩ := Cy.out _ K2.out.below
      go_wp2_with fail
      refine (WY1.out _ K2.out.below).mono ?_
      rintro r W4 ⟨rfl,hb⟩
      have K3 := Lib.hid (K2.out.call hb)
      clear hb e0 e1 e2 e3 y0 y1 y2 y3 WY1 K1 K2
      have K4 := Lib.hid (K3.out.new (.cells #[.int .i64 uk,.int .i64 un,.string us] 33))
      go_upto_region 11 with fail
      generalize W4.alloc (.cells #[.int .i64 uk,.int .i64 un,.string us] 33) = W5 at *
      generalize W4.heap.size = bY at *
      obtain ⟨⟨u0,u1,u2⟩,-⟩ := three_all K4.out.at0
      obtain ⟨⟨z0,z1,z2⟩,zf0,zf1,zf2⟩ := three_all K4.out.tail.tail.at0
      go_wp2
      have hh := three_all (set3_heap K4.out.tail.tail.at0 (.int .i64 uk) (.int .i64 un) (.string us))
      refine bodyPost_ret (v := .agg #[.int .i64 uk,.int .i64 un,.string us]) (by simp [results,Tryz.results46,go_sem,hh.1]) rfl ⟨by rw [HR.out,← HU.out],below_set3 K4.out.below (by omega) _ _ _⟩
    · obtain ⟨m2,rfl,hm2⟩ := HOKy.out.k1 (by simpa using hk1)
      rw [hu] at WY1 hR
      simp only [vInt] at hR
      clear hu hk1
      unfold needV needB at WY1
      simp only [hV] at WY1
      clear hV
      unfold exV strV
      go_enter Tryz.func46,Tryz.ntmps46
      go_upto_region 1 with fail
      generalize (w.alloc (.cells #[.int .i64 op,.int .i64 n,.string ⟨s.toArray⟩,.slice (some ⟨b,off,none⟩) 2 cap] 28)).alloc (.cells #[.int .i64 0,.int .i64 0,.string ⟨#[]⟩] 33) = W1 at *
      obtain ⟨⟨e0,e1,e2,e3⟩,-⟩ := four_all K0.out.tail.at0
      obtain ⟨x0,x1,x2,x3⟩ := Cx.out _ K0.out.below
      go_wp2_with fail
      refine (WX1.out _ K0.out.below).mono ?_
      rintro r W2 ⟨rfl,hb⟩
      have K1 := Lib.hid (K0.out.call hb)
      clear hb e0 e1 e2 e3 x0 x1 x2 x3 WX1 K0
      have K2 := Lib.hid (K1.out.new (.cells #[.int .i64 1,.int .i64 m,.string ⟨#[]⟩] 33))
      go_upto_region 4 with fail
      generalize W2.alloc (.cells #[.int .i64 1,.int .i64 m,.string ⟨#[]⟩] 33) = W3 at *
      generalize W2.heap.size = bU at *
      obtain ⟨⟨e0,e1,e2,e3⟩,-⟩ := four_all K2.out.tail.tail.at0
      obtain ⟨y0,y1,y2,y3⟩ := Cy.out _ K2.out.below
      go_wp2_with fail
      refine (WY1.out _ K2.out.below).mono ?_
      rintro r W4 ⟨rfl,hb⟩
      have K3 := Lib.hid (K2.out.call hb)
      clear hb e0 e1 e2 e3 y0 y1 y2 y3 WY1 K1 K2
      have K4 := Lib.hid (K3.out.new (.cells #[.int .i64 1,.int .i64 m2,.string ⟨#[]⟩] 33))
      go_upto_region 12 with fail
      generalize W4.alloc (.cells #[.int .i64 1,.int .i64 m2,.string ⟨#[]⟩] 33) = W5 at *
      generalize W4.heap.size = bY at *
      obtain ⟨⟨u0,u1,u2⟩,-⟩ := three_all K4.out.tail.at0
      obtain ⟨⟨y0,y1,y2⟩,-⟩ := three_all K4.out.at0
      obtain ⟨⟨e0,e1,e2,e3⟩,-⟩ := four_all K4.out.tail.tail.tail.at0
      rcases ho with rfl | rfl | rfl | rfl | rfl
      · have hR : fitM (m + m2) = R := hR
        have hs := HSM.out m m2 W5 hm hm2
        unfold fit2Post at hs
        by_cases hr : R64 (m + m2)
        · rw [decide_eq_true hr,wrap64_eq hr] at hs
          have hR2 : R = vInt (m + m2) := by rw [← hR]; exact fitM_yes hr
          generalize m + m2 = t at *
          have HR := Lib.hid hR2
          have HS := Lib.hid hs
          clear hs hR hR2 hr
          go_wp2_with fail
          refine HS.out.mono ?_
          rintro r W6 ⟨rfl,rfl⟩
          go_wp2_with fail
          refine (HNM.out _ _).mono ?_
          rintro r W7 ⟨rfl,hb⟩
          have K5 := Lib.hid (K4.out.call hb)
          clear hb u0 u1 u2 e0 e1 e2 e3 y0 y1 y2
          unfold valV strV vInt
          obtain ⟨⟨z0,z1,z2⟩,zf0,zf1,zf2⟩ := three_all K5.out.tail.tail.at0
          go_wp2
          have hh := three_all (set3_heap K5.out.tail.tail.at0 (.int .i64 1) (.int .i64 t) (.string ⟨#[]⟩))
          refine bodyPost_ret (v := valV (vInt t)) (by simp [results,Tryz.results46,go_sem,valV,strV,vInt,hh.1]) rfl ⟨by rw [HR.out],below_set3 K5.out.below (by omega) _ _ _⟩
        · rw [decide_eq_false hr] at hs
          have hR2 : R = vBad 1 := by rw [← hR]; exact fitM_no hr
          generalize wrap64 (m + m2) = t at *
          have HR := Lib.hid hR2
          have HS := Lib.hid hs
          clear hs hR hR2 hr
          go_wp2_with fail
          refine HS.out.mono ?_
          rintro r W6 ⟨rfl,rfl⟩
          go_wp2_with fail
          refine (HBD.out 1 _).mono ?_
          rintro r W7 ⟨rfl,hb⟩
          have K5 := Lib.hid (K4.out.call hb)
          clear hb u0 u1 u2 e0 e1 e2 e3 y0 y1 y2
          unfold valV strV vBad
          obtain ⟨⟨z0,z1,z2⟩,zf0,zf1,zf2⟩ := three_all K5.out.tail.tail.at0
          go_wp2
          have hh := three_all (set3_heap K5.out.tail.tail.at0 (.int .i64 4) (.int .i64 1) (.string ⟨#[]⟩))
          refine bodyPost_ret (v := valV (vBad 1)) (by simp [results,Tryz.results46,go_sem,valV,strV,vBad,hh.1]) rfl ⟨by rw [HR.out],below_set3 K5.out.below (by omega) _ _ _⟩
      · have hR : fitM (m - m2) = R := hR
        have hw := wrap64_in (m - m2)
        have hweq := fun h => wrap64_eq (x := m - m2) h
        have hlaw : R64 (m - m2) ↔ ((0 ≤ m2 ∧ wrap64 (m - m2) ≤ m) ∨ (¬ 0 ≤ m2 ∧ ¬ wrap64 (m - m2) ≤ m)) := by
          unfold R64 wrap64 at *
          omega
        have HWE := Lib.hid hweq
        have HLAW := Lib.hid hlaw
        have HRR := Lib.hid hR
        have HW := Lib.hid hw
        clear hw hweq hlaw hR hm hm2
        go_upto_region 28 with fail
        generalize wrap64 (m - m2) = t at *
        by_cases s1 : 0 ≤ m2 <;> by_cases s2 : t ≤ m
        · have HR : Hid (R = vInt t) := Lib.hid (by
            have hr := HLAW.out.2 (.inl ⟨s1,s2⟩)
            rw [← HRR.out,fitM_yes hr,HWE.out hr])
          go_wp2_with fail
          refine (HNM.out _ _).mono ?_
          rintro r W7 ⟨rfl,hb⟩
          have K5 := Lib.hid (K4.out.call hb)
          clear hb u0 u1 u2 e0 e1 e2 e3 y0 y1 y2
          unfold valV strV vInt
          obtain ⟨⟨z0,z1,z2⟩,zf0,zf1,zf2⟩ := three_all K5.out.tail.tail.at0
          go_wp2
          have hh := three_all (set3_heap K5.out.tail.tail.at0 (.int .i64 1) (.int .i64 t) (.string ⟨#[]⟩))
          refine bodyPost_ret (v := valV (vInt t)) (by simp [results,Tryz.results46,go_sem,valV,strV,vInt,hh.1]) rfl ⟨by rw [HR.out],below_set3 K5.out.below (by omega) _ _ _⟩
        · have HR : Hid (R = vBad 1) := Lib.hid (by
            refine HRR.out.symm.trans (fitM_no fun hr => ?_)
            rcases HLAW.out.1 hr with h | h
            · exact absurd h.2 s2
            · exact absurd s1 h.1)
          go_wp2_with fail
          refine (HBD.out 1 _).mono ?_
          rintro r W7 ⟨rfl,hb⟩
          have K5 := Lib.hid (K4.out.call hb)
          clear hb u0 u1 u2 e0 e1 e2 e3 y0 y1 y2
          unfold valV strV vBad
          obtain ⟨⟨z0,z1,z2⟩,zf0,zf1,zf2⟩ := three_all K5.out.tail.tail.at0
          go_wp2
          have hh := three_all (set3_heap K5.out.tail.tail.at0 (.int .i64 4) (.int .i64 1) (.string ⟨#[]⟩))
          refine bodyPost_ret (v := valV (vBad 1)) (by simp [results,Tryz.results46,go_sem,valV,strV,vBad,hh.1]) rfl ⟨by rw [HR.out],below_set3 K5.out.below (by omega) _ _ _⟩
        · have HR : Hid (R = vBad 1) := Lib.hid (by
            refine HRR.out.symm.trans (fitM_no fun hr => ?_)
            rcases HLAW.out.1 hr with h | h
            · exact absurd h.1 s1
            · exact absurd s2 h.2)
          go_wp2_with fail
          refine (HBD.out 1 _).mono ?_
          rintro r W7 ⟨rfl,hb⟩
          have K5 := Lib.hid (K4.out.call hb)
          clear hb u0 u1 u2 e0 e1 e2 e3 y0 y1 y2
          unfold valV strV vBad
          obtain ⟨⟨z0,z1,z2⟩,zf0,zf1,zf2⟩ := three_all K5.out.tail.tail.at0
          go_wp2
          have hh := three_all (set3_heap K5.out.tail.tail.at0 (.int .i64 4) (.int .i64 1) (.string ⟨#[]⟩))
          refine bodyPost_ret (v := valV (vBad 1)) (by simp [results,Tryz.results46,go_sem,valV,strV,vBad,hh.1]) rfl ⟨by rw [HR.out],below_set3 K5.out.below (by omega) _ _ _⟩
        · have HR : Hid (R = vInt t) := Lib.hid (by
            have hr := HLAW.out.2 (.inr ⟨s1,s2⟩)
            rw [← HRR.out,fitM_yes hr,HWE.out hr])
          go_wp2_with fail
          refine (HNM.out _ _).mono ?_
          rintro r W7 ⟨rfl,hb⟩
          have K5 := Lib.hid (K4.out.call hb)
          clear hb u0 u1 u2 e0 e1 e2 e3 y0 y1 y2
          unfold valV strV vInt
          obtain ⟨⟨z0,z1,z2⟩,zf0,zf1,zf2⟩ := three_all K5.out.tail.tail.at0
          go_wp2
          have hh := three_all (set3_heap K5.out.tail.tail.at0 (.int .i64 1) (.int .i64 t) (.string ⟨#[]⟩))
          refine bodyPost_ret (v := valV (vInt t)) (by simp [results,Tryz.results46,go_sem,valV,strV,vInt,hh.1]) rfl ⟨by rw [HR.out],below_set3 K5.out.below (by omega) _ _ _⟩
      · have hR : fitM (m * m2) = R := hR
        have hs := HPR.out m m2 W5 hm hm2
        unfold prodPost at hs
        by_cases hr : R64 (m * m2)
        · rw [decide_eq_true hr] at hs
          have hR2 : R = vInt (m * m2) := by rw [← hR]; exact fitM_yes hr
          have HRR := Lib.hid hr
          generalize m * m2 = t at *
          have HR := Lib.hid hR2
          have HS := Lib.hid hs
          clear hs hR hR2 hr
          go_wp2_with fail
          refine HS.out.mono ?_
          rintro r W6 ⟨c,rfl,hc,rfl⟩
          obtain rfl := hc HRR.out
          clear hc
          go_wp2_with fail
          refine (HNM.out _ _).mono ?_
          rintro r W7 ⟨rfl,hb⟩
          have K5 := Lib.hid (K4.out.call hb)
          clear hb u0 u1 u2 e0 e1 e2 e3 y0 y1 y2
          unfold valV strV vInt
          obtain ⟨⟨z0,z1,z2⟩,zf0,zf1,zf2⟩ := three_all K5.out.tail.tail.at0
          go_wp2
          have hh := three_all (set3_heap K5.out.tail.tail.at0 (.int .i64 1) (.int .i64 c) (.string ⟨#[]⟩))
          refine bodyPost_ret (v := valV (vInt c)) (by simp [results,Tryz.results46,go_sem,valV,strV,vInt,hh.1]) rfl ⟨by rw [HR.out],below_set3 K5.out.below (by omega) _ _ _⟩
        · rw [decide_eq_false hr] at hs
          have hR2 : R = vBad 1 := by rw [← hR]; exact fitM_no hr
          have HR := Lib.hid hR2
          have HS := Lib.hid hs
          clear hs hR hR2 hr
          go_wp2_with fail
          refine HS.out.mono ?_
          rintro r W6 ⟨c,rfl,-,rfl⟩
          go_wp2_with fail
          refine (HBD.out 1 _).mono ?_
          rintro r W7 ⟨rfl,hb⟩
          have K5 := Lib.hid (K4.out.call hb)
          clear hb u0 u1 u2 e0 e1 e2 e3 y0 y1 y2
          unfold valV strV vBad
          obtain ⟨⟨z0,z1,z2⟩,zf0,zf1,zf2⟩ := three_all K5.out.tail.tail.at0
          go_wp2
          have hh := three_all (set3_heap K5.out.tail.tail.at0 (.int .i64 4) (.int .i64 1) (.string ⟨#[]⟩))
          refine bodyPost_ret (v := valV (vBad 1)) (by simp [results,Tryz.results46,go_sem,valV,strV,vBad,hh.1]) rfl ⟨by rw [HR.out],below_set3 K5.out.below (by omega) _ _ _⟩
      · have hR : arith 10 m m2 = R := hR
        by_cases h0 : m2 = 0
        · subst h0
          have HR : Hid (R = vBad 2) := Lib.hid (by rw [← hR]; simp [arith])
          clear hR
          go_wp2_with fail
          refine (HBD.out 2 _).mono ?_
          rintro r W7 ⟨rfl,hb⟩
          have K5 := Lib.hid (K4.out.call hb)
          clear hb u0 u1 u2 e0 e1 e2 e3 y0 y1 y2
          unfold valV strV vBad
          obtain ⟨⟨z0,z1,z2⟩,zf0,zf1,zf2⟩ := three_all K5.out.tail.tail.at0
          go_wp2
          have hh := three_all (set3_heap K5.out.tail.tail.at0 (.int .i64 4) (.int .i64 2) (.string ⟨#[]⟩))
          refine bodyPost_ret (v := valV (vBad 2)) (by simp [results,Tryz.results46,go_sem,valV,strV,vBad,hh.1]) rfl ⟨by rw [HR.out],below_set3 K5.out.below (by omega) _ _ _⟩
        · by_cases hm1 : m2 = -1
          · subst hm1
            have hs := HPR.out m (-1) W5 hm (by decide)
            unfold prodPost at hs
            have q0 : ((-1 : Int) == 0) = false := rfl
            have q1 : ((-1 : Int) == -1) = true := rfl
            have hfm : fitM (m * -1) = R := by rw [← hR]; simp [arith,Int.tdiv_neg]
            clear hR
            by_cases hr : R64 (m * -1)
            · rw [decide_eq_true hr] at hs
              have hR2 : R = vInt (m * -1) := by rw [← hfm]; exact fitM_yes hr
              have HRR := Lib.hid hr
              generalize m * -1 = t at *
              have HR := Lib.hid hR2
              have HS := Lib.hid hs
              clear hs hfm hR2 hr
              go_wp2_with fail
              refine HS.out.mono ?_
              rintro r W6 ⟨c,rfl,hc,rfl⟩
              obtain rfl := hc HRR.out
              clear hc
              go_wp2_with fail
              refine (HNM.out _ _).mono ?_
              rintro r W7 ⟨rfl,hb⟩
              have K5 := Lib.hid (K4.out.call hb)
              clear hb u0 u1 u2 e0 e1 e2 e3 y0 y1 y2
              unfold valV strV vInt
              obtain ⟨⟨z0,z1,z2⟩,zf0,zf1,zf2⟩ := three_all K5.out.tail.tail.at0
              go_wp2
              have hh := three_all (set3_heap K5.out.tail.tail.at0 (.int .i64 1) (.int .i64 c) (.string ⟨#[]⟩))
              refine bodyPost_ret (v := valV (vInt c)) (by simp [results,Tryz.results46,go_sem,valV,strV,vInt,hh.1]) rfl ⟨by rw [HR.out],below_set3 K5.out.below (by omega) _ _ _⟩
            · rw [decide_eq_false hr] at hs
              have hR2 : R = vBad 1 := by rw [← hfm]; exact fitM_no hr
              have HR := Lib.hid hR2
              have HS := Lib.hid hs
              clear hs hfm hR2 hr
              go_wp2_with fail
              refine HS.out.mono ?_
              rintro r W6 ⟨c,rfl,-,rfl⟩
              go_wp2_with fail
              refine (HBD.out 1 _).mono ?_
              rintro r W7 ⟨rfl,hb⟩
              have K5 := Lib.hid (K4.out.call hb)
              clear hb u0 u1 u2 e0 e1 e2 e3 y0 y1 y2
              unfold valV strV vBad
              obtain ⟨⟨z0,z1,z2⟩,zf0,zf1,zf2⟩ := three_all K5.out.tail.tail.at0
              go_wp2
              have hh := three_all (set3_heap K5.out.tail.tail.at0 (.int .i64 4) (.int .i64 1) (.string ⟨#[]⟩))
              refine bodyPost_ret (v := valV (vBad 1)) (by simp [results,Tryz.results46,go_sem,valV,strV,vBad,hh.1]) rfl ⟨by rw [HR.out],below_set3 K5.out.below (by omega) _ _ _⟩
          · have hin := tdiv_in hm (b := m2) (fun h => hm1 h.2)
            have hR2 : R = vInt (m.tdiv m2) := by rw [← hR]; simp only [arith,if_neg h0]; exact fitM_yes hin
            have hw := wrap64_eq hin
            have HR := Lib.hid hR2
            have HW := Lib.hid hw
            have q0 : (m2 == 0) = false := beq_eq_false_iff_ne.2 h0
            have q1 : (m2 == -1) = false := beq_eq_false_iff_ne.2 hm1
            clear hR hR2 hin hw
            go_upto_region 31 with fail
            try rw [HW.out]
            generalize m.tdiv m2 = t at *
            go_wp2_with fail
            refine (HNM.out _ _).mono ?_
            rintro r W7 ⟨rfl,hb⟩
            have K5 := Lib.hid (K4.out.call hb)
            clear hb u0 u1 u2 e0 e1 e2 e3 y0 y1 y2
            unfold valV strV vInt
            obtain ⟨⟨z0,z1,z2⟩,zf0,zf1,zf2⟩ := three_all K5.out.tail.tail.at0
            go_wp2
            have hh := three_all (set3_heap K5.out.tail.tail.at0 (.int .i64 1) (.int .i64 t) (.string ⟨#[]⟩))
            refine bodyPost_ret (v := valV (vInt t)) (by simp [results,Tryz.results46,go_sem,valV,strV,vInt,hh.1]) rfl ⟨by rw [HR.out],below_set3 K5.out.below (by omega) _ _ _⟩
      · have hR : arith 11 m m2 = R := hR
        by_cases h0 : m2 = 0
        · subst h0
          have HR : Hid (R = vBad 2) := Lib.hid (by rw [← hR]; simp [arith])
          clear hR
          go_wp2_with fail
          refine (HBD.out 2 _).mono ?_
          rintro r W7 ⟨rfl,hb⟩
          have K5 := Lib.hid (K4.out.call hb)
          clear hb u0 u1 u2 e0 e1 e2 e3 y0 y1 y2
          unfold valV strV vBad
          obtain ⟨⟨z0,z1,z2⟩,zf0,zf1,zf2⟩ := three_all K5.out.tail.tail.at0
          go_wp2
          have hh := three_all (set3_heap K5.out.tail.tail.at0 (.int .i64 4) (.int .i64 2) (.string ⟨#[]⟩))
          refine bodyPost_ret (v := valV (vBad 2)) (by simp [results,Tryz.results46,go_sem,valV,strV,vBad,hh.1]) rfl ⟨by rw [HR.out],below_set3 K5.out.below (by omega) _ _ _⟩
        · by_cases hm1 : m2 = -1
          · subst hm1
            have hs := HPR.out m (-1) W5 hm (by decide)
            unfold prodPost at hs
            have q0 : ((-1 : Int) == 0) = false := rfl
            have q1 : ((-1 : Int) == -1) = true := rfl
            have HR : Hid (R = vInt 0) := Lib.hid (by rw [← hR]; simp [arith])
            obtain ⟨ok,hok⟩ : ∃ b,decide (R64 (m * -1)) = b := ⟨_,rfl⟩
            rw [hok] at hs
            have HS := Lib.hid hs
            clear hs hR hok
            go_wp2_with fail
            refine HS.out.mono ?_
            rintro r W6 ⟨c,rfl,-,rfl⟩
            go_wp2_with fail
            refine (HNM.out _ _).mono ?_
            rintro r W7 ⟨rfl,hb⟩
            have K5 := Lib.hid (K4.out.call hb)
            clear hb u0 u1 u2 e0 e1 e2 e3 y0 y1 y2
            unfold valV strV vInt
            obtain ⟨⟨z0,z1,z2⟩,zf0,zf1,zf2⟩ := three_all K5.out.tail.tail.at0
            go_wp2
            have hh := three_all (set3_heap K5.out.tail.tail.at0 (.int .i64 1) (.int .i64 0) (.string ⟨#[]⟩))
            refine bodyPost_ret (v := valV (vInt 0)) (by simp [results,Tryz.results46,go_sem,valV,strV,vInt,hh.1]) rfl ⟨by rw [HR.out],below_set3 K5.out.below (by omega) _ _ _⟩
          · have hin := tmod_fits m2 hm
            have hR2 : R = vInt (m.tmod m2) := by rw [← hR]; simp only [arith,if_neg h0]; rfl
            have hw := wrap64_eq hin
            have HR := Lib.hid hR2
            have HW := Lib.hid hw
            have q0 : (m2 == 0) = false := beq_eq_false_iff_ne.2 h0
            have q1 : (m2 == -1) = false := beq_eq_false_iff_ne.2 hm1
            clear hR hR2 hin hw
            go_upto_region 31 with fail
            try rw [HW.out]
            generalize m.tmod m2 = t at *
            go_wp2_with fail
            refine (HNM.out _ _).mono ?_
            rintro r W7 ⟨rfl,hb⟩
            have K5 := Lib.hid (K4.out.call hb)
            clear hb u0 u1 u2 e0 e1 e2 e3 y0 y1 y2
            unfold valV strV vInt
            obtain ⟨⟨z0,z1,z2⟩,zf0,zf1,zf2⟩ := three_all K5.out.tail.tail.at0
            go_wp2
            have hh := three_all (set3_heap K5.out.tail.tail.at0 (.int .i64 1) (.int .i64 t) (.string ⟨#[]⟩))
            refine bodyPost_ret (v := valV (vInt t)) (by simp [results,Tryz.results46,go_sem,valV,strV,vInt,hh.1]) rfl ⟨by rw [HR.out],below_set3 K5.out.below (by omega) _ _ _⟩
end Go.Proofs.YtfjpdphphieaoaaGreatDoor
namespace Go.Proofs.YtfjpdphphieaoaaGreatDoor
open Go.RowKit Pal
set_option maxRecDepth 1000000 in
set_option maxHeartbeats 8000000 in
theorem jtexts1_any (names : List Bs) (vals : List Val) (op n : Int) (s : Bs) (x : Ex) (v : Value) (p : Nat) (w : World) (ho : op = 19 ∨ op = 23)
    (hEx : JP names vals x) (hokx : VOk (ev (look names vals) x)) (hW : RW w p names vals) (hK : KV (gh w) v [x]) :
    Calls Tryz.prog 45 #[.pointer (some ⟨p,0,none⟩),exV op n s v] w (valPost (textM op (ev (look names vals) x) vNil) w) := by
  obtain ⟨a,cap,rfl⟩ := hK.form
  have hcap := hK.cap
  obtain ⟨b,off,ua,uc,rfl,c0,c1,c2,c3,hKx⟩ := hK.at0
  have Wx := Lib.hid (fun kind W (hb : Below w.heap.size w W) => jwant_any x kind names vals (.slice ua x.ks.length uc) p W hEx (hW.keep hb) (hKx.keep hb))
  have Ox := Lib.hid (fun W (hb : Below w.heap.size w W) => hEx (.slice ua x.ks.length uc) W p (hW.keep hb) (hKx.keep hb))
  have Cx := Lib.hid (kid_cells c0 c1 c2 c3)
  have K0 := Lib.hid ((Kept.start w).new2 (.cells #[.int .i64 op,.int .i64 n,.string ⟨s.toArray⟩,.slice (some ⟨b,off,none⟩) 1 cap] 28) (.cells #[.int .i64 0,.int .i64 0,.string ⟨#[]⟩] 33))
  generalize ev (look names vals) x = vx at *
  have HOKx := Lib.hid hokx
  unfold wantPost exV strV at Wx
  unfold valPost exV strV at Ox
  simp only [List.length_cons,List.length_nil,Nat.zero_add] at hcap ⊢
  clear hW hK hEx hKx hokx c0 c1 c2 c3
  obtain ⟨R,hR⟩ : ∃ R,textM op vx vNil = R := ⟨_,rfl⟩
  rw [hR]
  have hne : wants vx 3 = need vx [3] := wants_need HOKx.out 3 (by decide)
  have WX1 := Lib.hid (Wx.out 3)
  rw [hne] at WX1
  clear Wx Ox hne
  rcases need_ok HOKx.out [3] with ⟨u,hu,-⟩ | ⟨hu,hk1⟩
  · rw [textM_err hu] at hR
    rw [hu] at WX1
    have HR : Hid (R = u) := Lib.hid hR.symm
    clear hR hu
    obtain ⟨uk,huk⟩ : ∃ n,u.k = n := ⟨_,rfl⟩
    obtain ⟨un,hun⟩ : ∃ n,u.n = n := ⟨_,rfl⟩
    obtain ⟨us,hus⟩ : ∃ s : ByteArray,(⟨u.s.toArray⟩ : ByteArray) = s := ⟨_,rfl⟩
    have HU : Hid (valV u = .agg #[.int .i64 uk,.int .i64 un,.string us]) := Lib.hid (by unfold valV strV; rw [huk,hun,hus])
    clear huk hun hus
    unfold needV needB at WX1
    simp only [HU.out] at WX1
    unfold exV strV
    go_enter Tryz.func45,Tryz.ntmps45
    go_upto_region 1 with fail
    generalize (w.alloc (.cells #[.int .i64 op,.int .i64 n,.string ⟨s.toArray⟩,.slice (some ⟨b,off,none⟩) 1 cap] 28)).alloc (.cells #[.int .i64 0,.int .i64 0,.string ⟨#[]⟩] 33) = W1 at *
    obtain ⟨⟨e0,e1,e2,e3⟩,-⟩ := four_all K0.out.tail.at0
    obtain ⟨x0,x1,x2,x3⟩ := Cx.out _ K0.out.below
    go_wp2_with fail
    refine (WX1.out _ K0.out.below).mono ?_
    rintro r W2 ⟨rfl,hb⟩
    have K1 := Lib.hid (K0.out.call hb)
    clear hb e0 e1 e2 e3 x0 x1 x2 x3 WX1
    have K2 := Lib.hid (K1.out.new (.cells #[.int .i64 uk,.int .i64 un,.string us] 33))
    go_upto_region 3 with fail
    generalize W2.alloc (.cells #[.int .i64 uk,.int .i64 un,.string us] 33) = W3 at *
    generalize W2.heap.size = bU at *
    obtain ⟨⟨u0,u1,u2⟩,-⟩ := three_all K2.out.at0
    obtain ⟨⟨z0,z1,z2⟩,zf0,zf1,zf2⟩ := three_all K2.out.tail.at0
    go_wp2
    have hh := three_all (set3_heap K2.out.tail.at0 (.int .i64 uk) (.int .i64 un) (.string us))
    refine bodyPost_ret (v := .agg #[.int .i64 uk,.int .i64 un,.string us]) (by simp [results,Tryz.results45,go_sem,hh.1]) rfl ⟨by rw [HR.out,← HU.out],below_set3 K2.out.below (by omega) _ _ _⟩
  · rw [textM_ok' hu] at hR
    rw [hu] at WX1
    obtain ⟨tt,rfl,htt⟩ := HOKx.out.k3 (by simpa using hk1)
    clear hu hk1
    have hV : valV (vText tt) = .agg #[.int .i64 3,.int .i64 0,.string ⟨tt.toArray⟩] := rfl
    unfold needV needB at WX1
    simp only [hV] at WX1
    obtain ⟨tl,tv,tc⟩ := textOk_iff htt
    have HTV := Lib.hid tv
    clear hV htt tv
    rcases ho with rfl | rfl
    · have HR : Hid (R = vInt (cnt tt)) := Lib.hid hR.symm
      have hc := fun W => refCount_any ⟨tt.toArray⟩ W (by rw [mk_size]; omega)
      simp only [mk_list] at hc
      have HC := Lib.hid hc
      have HNM := Lib.hid (fun n W => jnum_any n W)
      clear hc hR
      obtain ⟨m,hm⟩ : ∃ m : Int,(cnt tt : Int) = m := ⟨_,rfl⟩
      rw [hm] at HC HR
      clear hm tc
      unfold exV strV
      go_enter Tryz.func45,Tryz.ntmps45
      go_upto_region 1 with fail
      generalize (w.alloc (.cells #[.int .i64 19,.int .i64 n,.string ⟨s.toArray⟩,.slice (some ⟨b,off,none⟩) 1 cap] 28)).alloc (.cells #[.int .i64 0,.int .i64 0,.string ⟨#[]⟩] 33) = W1 at *
      obtain ⟨⟨e0,e1,e2,e3⟩,-⟩ := four_all K0.out.tail.at0
      obtain ⟨x0,x1,x2,x3⟩ := Cx.out _ K0.out.below
      go_wp2_with fail
      refine (WX1.out _ K0.out.below).mono ?_
      rintro r W2 ⟨rfl,hb⟩
      have K1 := Lib.hid (K0.out.call hb)
      clear hb e0 e1 e2 e3 x0 x1 x2 x3 WX1 K0
      have K2 := Lib.hid (K1.out.new (.cells #[.int .i64 3,.int .i64 0,.string ⟨tt.toArray⟩] 33))
      go_upto_region 4 with fail
      generalize W2.alloc (.cells #[.int .i64 3,.int .i64 0,.string ⟨tt.toArray⟩] 33) = W3 at *
      generalize W2.heap.size = bU at *
      obtain ⟨⟨u0,u1,u2⟩,-⟩ := three_all K2.out.at0
      obtain ⟨⟨e0,e1,e2,e3⟩,-⟩ := four_all K2.out.tail.tail.at0
      go_wp2_with fail
      refine (HC.out _).mono ?_
      rintro r W4 ⟨rfl,hb⟩
      have K3 := Lib.hid (K2.out.call hb)
      clear hb u0 u1 u2 e0 e1 e2 e3
      go_wp2_with fail
      refine (HNM.out _ _).mono ?_
      rintro r W5 ⟨rfl,hb⟩
      have K4 := Lib.hid (K3.out.call hb)
      clear hb
      unfold valV strV vInt
      obtain ⟨⟨z0,z1,z2⟩,zf0,zf1,zf2⟩ := three_all K4.out.tail.at0
      go_wp2
      have hh := three_all (set3_heap K4.out.tail.at0 (.int .i64 1) (.int .i64 m) (.string ⟨#[]⟩))
      refine bodyPost_ret (v := valV (vInt m)) (by simp [results,Tryz.results45,go_sem,valV,strV,vInt,hh.1]) rfl ⟨by rw [HR.out],below_set3 K4.out.below (by omega) _ _ _⟩
    · have HR : Hid (R = longM (fold tt)) := Lib.hid hR.symm
      have HF := Lib.hid (fun W => refFold_any tt W (by omega) HTV.out)
      have hfl := fold_len tt.length tt
      have hfe : foldF tt.length tt = fold tt := rfl
      rw [hfe] at hfl
      have HTX := Lib.hid (fun W => jtext_any (fold tt) W (by omega))
      unfold strRet strV at HF
      unfold strV valPost at HTX
      clear hR hfl hfe
      generalize fold tt = ft at *
      generalize longM ft = lr at *
      obtain ⟨uk,huk⟩ : ∃ n,lr.k = n := ⟨_,rfl⟩
      obtain ⟨un,hun⟩ : ∃ n,lr.n = n := ⟨_,rfl⟩
      obtain ⟨us,hus⟩ : ∃ s : ByteArray,(⟨lr.s.toArray⟩ : ByteArray) = s := ⟨_,rfl⟩
      have HU : Hid (valV lr = .agg #[.int .i64 uk,.int .i64 un,.string us]) := Lib.hid (by unfold valV strV; rw [huk,hun,hus])
      clear huk hun hus
      simp only [HU.out] at HTX
      unfold exV strV
      go_enter Tryz.func45,Tryz.ntmps45
      go_upto_region 1 with fail
      generalize (w.alloc (.cells #[.int .i64 23,.int .i64 n,.string ⟨s.toArray⟩,.slice (some ⟨b,off,none⟩) 1 cap] 28)).alloc (.cells #[.int .i64 0,.int .i64 0,.string ⟨#[]⟩] 33) = W1 at *
      obtain ⟨⟨e0,e1,e2,e3⟩,-⟩ := four_all K0.out.tail.at0
      obtain ⟨x0,x1,x2,x3⟩ := Cx.out _ K0.out.below
      go_wp2_with fail
      refine (WX1.out _ K0.out.below).mono ?_
      rintro r W2 ⟨rfl,hb⟩
      have K1 := Lib.hid (K0.out.call hb)
      clear hb e0 e1 e2 e3 x0 x1 x2 x3 WX1 K0
      have K2 := Lib.hid (K1.out.new (.cells #[.int .i64 3,.int .i64 0,.string ⟨tt.toArray⟩] 33))
      go_upto_region 4 with fail
      generalize W2.alloc (.cells #[.int .i64 3,.int .i64 0,.string ⟨tt.toArray⟩] 33) = W3 at *
      generalize W2.heap.size = bU at *
      obtain ⟨⟨u0,u1,u2⟩,-⟩ := three_all K2.out.at0
      obtain ⟨⟨e0,e1,e2,e3⟩,-⟩ := four_all K2.out.tail.tail.at0
      go_wp2_with fail
      refine (HF.out _).mono ?_
      rintro r W4 ⟨rfl,hb⟩
      have K3 := Lib.hid (K2.out.call hb)
      clear hb u0 u1 u2 e0 e1 e2 e3
      go_wp2_with fail
      refine (HTX.out _).mono ?_
      rintro r W5 ⟨rfl,hb⟩
      have K4 := Lib.hid (K3.out.call hb)
      clear hb
      obtain ⟨⟨z0,z1,z2⟩,zf0,zf1,zf2⟩ := three_all K4.out.tail.at0
      go_wp2
      have hh := three_all (set3_heap K4.out.tail.at0 (.int .i64 uk) (.int .i64 un) (.string us))
      refine bodyPost_ret (v := .agg #[.int .i64 uk,.int .i64 un,.string us]) (by simp [results,Tryz.results45,go_sem,hh.1]) rfl ⟨by rw [HR.out,← HU.out],below_set3 K4.out.below (by omega) _ _ _⟩
end Go.Proofs.YtfjpdphphieaoaaGreatDoor
namespace Go.Proofs.YtfjpdphphieaoaaGreatDoor
open Go.RowKit Pal
set_option maxRecDepth 1000000 in
set_option maxHeartbeats 8000000 in
theorem jtexts20_any (names : List Bs) (vals : List Val) (op n : Int) (s : Bs) (x y : Ex) (v : Value) (p : Nat) (w : World) (ho : op = 20)
    (hEx : JP names vals x) (hokx : VOk (ev (look names vals) x)) (hEy : JP names vals y) (hoky : VOk (ev (look names vals) y)) (hW : RW w p names vals) (hK : KV (gh w) v [x,y]) :
    Calls Tryz.prog 45 #[.pointer (some ⟨p,0,none⟩),exV op n s v] w (valPost (textM op (ev (look names vals) x) (ev (look names vals) y)) w) := by
  subst ho
  obtain ⟨a,cap,rfl⟩ := hK.form
  have hcap := hK.cap
  obtain ⟨b,off,ua,uc,rfl,c0,c1,c2,c3,hKx⟩ := hK.at0
  obtain ⟨ub,uc2,d0,d1,d2,d3,hKy⟩ := hK.at1
  have Wx := Lib.hid (fun kind W (hb : Below w.heap.size w W) => jwant_any x kind names vals (.slice ua x.ks.length uc) p W hEx (hW.keep hb) (hKx.keep hb))
  have Ox := Lib.hid (fun W (hb : Below w.heap.size w W) => hEx (.slice ua x.ks.length uc) W p (hW.keep hb) (hKx.keep hb))
  have Cx := Lib.hid (kid_cells c0 c1 c2 c3)
  have Wy := Lib.hid (fun kind W (hb : Below w.heap.size w W) => jwant_any y kind names vals (.slice ub y.ks.length uc2) p W hEy (hW.keep hb) (hKy.keep hb))
  have Oy := Lib.hid (fun W (hb : Below w.heap.size w W) => hEy (.slice ub y.ks.length uc2) W p (hW.keep hb) (hKy.keep hb))
  have Cy := Lib.hid (kid_cells d0 d1 d2 d3)
  have K0 := Lib.hid ((Kept.start w).new2 (.cells #[.int .i64 20,.int .i64 n,.string ⟨s.toArray⟩,.slice (some ⟨b,off,none⟩) 2 cap] 28) (.cells #[.int .i64 0,.int .i64 0,.string ⟨#[]⟩] 33))
  generalize ev (look names vals) x = vx at *
  have HOKx := Lib.hid hokx
  generalize ev (look names vals) y = vy at *
  have HOKy := Lib.hid hoky
  unfold wantPost exV strV at Wx Wy
  unfold valPost exV strV at Ox Oy
  simp only [List.length_cons,List.length_nil,Nat.zero_add] at hcap ⊢
  clear hW hK hEx hKx hokx hEy hKy hoky c0 c1 c2 c3 d0 d1 d2 d3
  obtain ⟨R,hR⟩ : ∃ R,textM 20 vx vy = R := ⟨_,rfl⟩
  rw [hR]
  have hne : wants vx 3 = need vx [3] := wants_need HOKx.out 3 (by decide)
  have WX1 := Lib.hid (Wx.out 3)
  rw [hne] at WX1
  clear Wx Ox hne
  rcases need_ok HOKx.out [3] with ⟨u,hu,-⟩ | ⟨hu,hk1⟩
  · rw [textM_err hu] at hR
    rw [hu] at WX1
    have HR : Hid (R = u) := Lib.hid hR.symm
    clear hR hu
    obtain ⟨uk,huk⟩ : ∃ n,u.k = n := ⟨_,rfl⟩
    obtain ⟨un,hun⟩ : ∃ n,u.n = n := ⟨_,rfl⟩
    obtain ⟨us,hus⟩ : ∃ s : ByteArray,(⟨u.s.toArray⟩ : ByteArray) = s := ⟨_,rfl⟩
    have HU : Hid (valV u = .agg #[.int .i64 uk,.int .i64 un,.string us]) := Lib.hid (by unfold valV strV; rw [huk,hun,hus])
    clear huk hun hus
    unfold needV needB at WX1
    simp only [HU.out] at WX1
    unfold exV strV
    go_enter Tryz.func45,Tryz.ntmps45
    go_upto_region 1 with fail
    generalize (w.alloc (.cells #[.int .i64 20,.int .i64 n,.string ⟨s.toArray⟩,.slice (some ⟨b,off,none⟩) 2 cap] 28)).alloc (.cells #[.int .i64 0,.int .i64 0,.string ⟨#[]⟩] 33) = W1 at *
    obtain ⟨⟨e0,e1,e2,e3⟩,-⟩ := four_all K0.out.tail.at0
    obtain ⟨x0,x1,x2,x3⟩ := Cx.out _ K0.out.below
    go_wp2_with fail
    refine (WX1.out _ K0.out.below).mono ?_
    rintro r W2 ⟨rfl,hb⟩
    have K1 := Lib.hid (K0.out.call hb)
    clear hb e0 e1 e2 e3 x0 x1 x2 x3 WX1
    have K2 := Lib.hid (K1.out.new (.cells #[.int .i64 uk,.int .i64 un,.string us] 33))
    go_upto_region 3 with fail
    generalize W2.alloc (.cells #[.int .i64 uk,.int .i64 un,.string us] 33) = W3 at *
    generalize W2.heap.size = bU at *
    obtain ⟨⟨u0,u1,u2⟩,-⟩ := three_all K2.out.at0
    obtain ⟨⟨z0,z1,z2⟩,zf0,zf1,zf2⟩ := three_all K2.out.tail.at0
    go_wp2
    have hh := three_all (set3_heap K2.out.tail.at0 (.int .i64 uk) (.int .i64 un) (.string us))
    refine bodyPost_ret (v := .agg #[.int .i64 uk,.int .i64 un,.string us]) (by simp [results,Tryz.results45,go_sem,hh.1]) rfl ⟨by rw [HR.out,← HU.out],below_set3 K2.out.below (by omega) _ _ _⟩
  · rw [textM_ok' hu] at hR
    rw [hu] at WX1
    obtain ⟨tt,rfl,htt⟩ := HOKx.out.k3 (by simpa using hk1)
    clear hu hk1
    have hV : valV (vText tt) = .agg #[.int .i64 3,.int .i64 0,.string ⟨tt.toArray⟩] := rfl
    unfold needV needB at WX1
    simp only [hV] at WX1
    obtain ⟨tl,tv,tc⟩ := textOk_iff htt
    have HTV := Lib.hid tv
    clear hV htt tv
    have hne2 : wants vy 3 = need vy [3] := wants_need HOKy.out 3 (by decide)
    have WY1 := Lib.hid (Wy.out 3)
    rw [hne2] at WY1
    clear Wy Oy hne2
    have hR : (match need vy [3] with | .error v => v | .ok b => longM (tt ++ b.s)) = R := hR
    rcases need_ok HOKy.out [3] with ⟨u,hu,-⟩ | ⟨hu,hk1⟩
    · rw [hu] at WY1 hR
      have HR : Hid (R = u) := Lib.hid hR.symm
      clear hR hu
      obtain ⟨uk,huk⟩ : ∃ n,u.k = n := ⟨_,rfl⟩
      obtain ⟨un,hun⟩ : ∃ n,u.n = n := ⟨_,rfl⟩
      obtain ⟨us,hus⟩ : ∃ s : ByteArray,(⟨u.s.toArray⟩ : ByteArray) = s := ⟨_,rfl⟩
      have HU : Hid (valV u = .agg #[.int .i64 uk,.int .i64 un,.string us]) := Lib.hid (by unfold valV strV; rw [huk,hun,hus])
      clear huk hun hus
      unfold needV needB at WY1
      simp only [HU.out] at WY1
      unfold exV strV
      go_enter Tryz.func45,Tryz.ntmps45
      go_upto_region 1 with fail
      generalize (w.alloc (.cells #[.int .i64 20,.int .i64 n,.string ⟨s.toArray⟩,.slice (some ⟨b,off,none⟩) 2 cap] 28)).alloc (.cells #[.int .i64 0,.int .i64 0,.string ⟨#[]⟩] 33) = W1 at *
      obtain ⟨⟨e0,e1,e2,e3⟩,-⟩ := four_all K0.out.tail.at0
      obtain ⟨x0,x1,x2,x3⟩ := Cx.out _ K0.out.below
      go_wp2_with fail
      refine (WX1.out _ K0.out.below).mono ?_
      rintro r W2 ⟨rfl,hb⟩
      have K1 := Lib.hid (K0.out.call hb)
      clear hb e0 e1 e2 e3 x0 x1 x2 x3 WX1 K0
      have K2 := Lib.hid (K1.out.new (.cells #[.int .i64 3,.int .i64 0,.string ⟨tt.toArray⟩] 33))
      go_upto_region 4 with fail
      generalize W2.alloc (.cells #[.int .i64 3,.int .i64 0,.string ⟨tt.toArray⟩] 33) = W3 at *
      generalize W2.heap.size = bU at *
      obtain ⟨⟨u0,u1,u2⟩,-⟩ := three_all K2.out.at0
      obtain ⟨⟨e0,e1,e2,e3⟩,-⟩ := four_all K2.out.tail.tail.at0
      obtain ⟨y0,y1,y2,y3⟩ := Cy.out _ K2.out.below
      go_wp2_with fail
      refine (WY1.out _ K2.out.below).mono ?_
      rintro r W4 ⟨rfl,hb⟩
      have K3 := Lib.hid (K2.out.call hb)
      clear hb u0 u1 u2 e0 e1 e2 e3 y0 y1 y2 y3
      have K4 := Lib.hid (K3.out.new (.cells #[.int .i64 uk,.int .i64 un,.string us] 33))
      go_upto_region 12 with fail
      generalize W4.alloc (.cells #[.int .i64 uk,.int .i64 un,.string us] 33) = W5 at *
      generalize W4.heap.size = bY at *
      obtain ⟨⟨u0,u1,u2⟩,-⟩ := three_all K4.out.at0
      obtain ⟨⟨z0,z1,z2⟩,zf0,zf1,zf2⟩ := three_all K4.out.tail.tail.at0
      go_wp2
      have hh := three_all (set3_heap K4.out.tail.tail.at0 (.int .i64 uk) (.int .i64 un) (.string us))
      refine bodyPost_ret (v := .agg #[.int .i64 uk,.int .i64 un,.string us]) (by simp [results,Tryz.results45,go_sem,hh.1]) rfl ⟨by rw [HR.out,← HU.out],below_set3 K4.out.below (by omega) _ _ _⟩
    · obtain ⟨uu,rfl,huu⟩ := HOKy.out.k3 (by simpa using hk1)
      rw [hu] at WY1 hR
      have HR : Hid (R = longM (tt ++ uu)) := Lib.hid hR.symm
      clear hR hu hk1
      obtain ⟨ul,uv,ucn⟩ := textOk_iff huu
      clear uv ucn huu
      have hV2 : valV (vText uu) = .agg #[.int .i64 3,.int .i64 0,.string ⟨uu.toArray⟩] := rfl
      unfold needV needB at WY1
      simp only [hV2] at WY1
      clear hV2
      have HTX := Lib.hid (fun W => jtext_any (tt ++ uu) W (by rw [List.length_append]; omega))
      unfold strV valPost at HTX
      have HAP := Lib.hid (app_bytes tt uu)
      generalize longM (tt ++ uu) = lr at *
      obtain ⟨uk,huk⟩ : ∃ n,lr.k = n := ⟨_,rfl⟩
      obtain ⟨un,hun⟩ : ∃ n,lr.n = n := ⟨_,rfl⟩
      obtain ⟨us,hus⟩ : ∃ s : ByteArray,(⟨lr.s.toArray⟩ : ByteArray) = s := ⟨_,rfl⟩
      have HU : Hid (valV lr = .agg #[.int .i64 uk,.int .i64 un,.string us]) := Lib.hid (by unfold valV strV; rw [huk,hun,hus])
      clear huk hun hus
      simp only [HU.out] at HTX
      have hz1 : (⟨tt.toArray⟩ : ByteArray).size = tt.length := by simp [ByteArray.size]
      have hz2 : (⟨uu.toArray⟩ : ByteArray).size = uu.length := by simp [ByteArray.size]
      have hle : ¬ 9223372036854775807 < (⟨tt.toArray⟩ : ByteArray).size + (⟨uu.toArray⟩ : ByteArray).size := by omega
      clear hz1 hz2
      unfold exV strV
      go_enter Tryz.func45,Tryz.ntmps45
      go_upto_region 1 with fail
      generalize (w.alloc (.cells #[.int .i64 20,.int .i64 n,.string ⟨s.toArray⟩,.slice (some ⟨b,off,none⟩) 2 cap] 28)).alloc (.cells #[.int .i64 0,.int .i64 0,.string ⟨#[]⟩] 33) = W1 at *
      obtain ⟨⟨e0,e1,e2,e3⟩,-⟩ := four_all K0.out.tail.at0
      obtain ⟨x0,x1,x2,x3⟩ := Cx.out _ K0.out.below
      go_wp2_with fail
      refine (WX1.out _ K0.out.below).mono ?_
      rintro r W2 ⟨rfl,hb⟩
      have K1 := Lib.hid (K0.out.call hb)
      clear hb e0 e1 e2 e3 x0 x1 x2 x3 WX1 K0
      have K2 := Lib.hid (K1.out.new (.cells #[.int .i64 3,.int .i64 0,.string ⟨tt.toArray⟩] 33))
      go_upto_region 4 with fail
      generalize W2.alloc (.cells #[.int .i64 3,.int .i64 0,.string ⟨tt.toArray⟩] 33) = W3 at *
      generalize W2.heap.size = bU at *
      obtain ⟨⟨u0,u1,u2⟩,-⟩ := three_all K2.out.at0
      obtain ⟨⟨e0,e1,e2,e3⟩,-⟩ := four_all K2.out.tail.tail.at0
      obtain ⟨y0,y1,y2,y3⟩ := Cy.out _ K2.out.below
      go_wp2_with fail
      refine (WY1.out _ K2.out.below).mono ?_
      rintro r W4 ⟨rfl,hb⟩
      have K3 := Lib.hid (K2.out.call hb)
      clear hb u0 u1 u2 e0 e1 e2 e3 y0 y1 y2 y3
      have K4 := Lib.hid (K3.out.new (.cells #[.int .i64 3,.int .i64 0,.string ⟨uu.toArray⟩] 33))
      go_upto_region 13 with fail
      generalize W4.alloc (.cells #[.int .i64 3,.int .i64 0,.string ⟨uu.toArray⟩] 33) = W5 at *
      generalize W4.heap.size = bY at *
      obtain ⟨⟨y0,y1,y2⟩,-⟩ := three_all K4.out.at0
      obtain ⟨⟨u0,u1,u2⟩,-⟩ := three_all K4.out.tail.at0
      go_wp2_with fail
      try rw [HAP.out]
      refine (HTX.out _).mono ?_
      rintro r W6 ⟨rfl,hb⟩
      have K5 := Lib.hid (K4.out.call hb)
      clear hb u0 u1 u2 y0 y1 y2
      obtain ⟨⟨z0,z1,z2⟩,zf0,zf1,zf2⟩ := three_all K5.out.tail.tail.at0
      go_wp2
      have hh := three_all (set3_heap K5.out.tail.tail.at0 (.int .i64 uk) (.int .i64 un) (.string us))
      refine bodyPost_ret (v := .agg #[.int .i64 uk,.int .i64 un,.string us]) (by simp [results,Tryz.results45,go_sem,hh.1]) rfl ⟨by rw [HR.out,← HU.out],below_set3 K5.out.below (by omega) _ _ _⟩
end Go.Proofs.YtfjpdphphieaoaaGreatDoor
namespace Go.Proofs.YtfjpdphphieaoaaGreatDoor
open Go.RowKit Pal
theorem max_lo {ats : Array TypeId} {ty : TypeId} {m : Int} (h : m < 0) : Go.Builtin.max_ ats ty #[.int .i64 m,.int .i64 0] = pure (.int .i64 0) := by
  simp [Go.Builtin.max_,Go.Builtin.max2,h]
theorem max_up {ats : Array TypeId} {ty : TypeId} {j : Nat} : Go.Builtin.max_ ats ty #[.int .i64 (j : Int),.int .i64 0] = pure (.int .i64 (j : Int)) := by
  have h : ¬ (j : Int) < 0 := by omega
  simp [Go.Builtin.max_,Go.Builtin.max2,h]
attribute [local go_sem] max_lo max_up
set_option maxRecDepth 1000000 in
set_option maxHeartbeats 8000000 in
theorem jtexts21_any (names : List Bs) (vals : List Val) (op n : Int) (s : Bs) (x y : Ex) (v : Value) (p : Nat) (w : World) (ho : op = 21)
    (hEx : JP names vals x) (hokx : VOk (ev (look names vals) x)) (hEy : JP names vals y) (hoky : VOk (ev (look names vals) y)) (hW : RW w p names vals) (hK : KV (gh w) v [x,y]) :
    Calls Tryz.prog 45 #[.pointer (some ⟨p,0,none⟩),exV op n s v] w (valPost (textM op (ev (look names vals) x) (ev (look names vals) y)) w) := by
  subst ho
  obtain ⟨a,cap,rfl⟩ := hK.form
  have hcap := hK.cap
  obtain ⟨b,off,ua,uc,rfl,c0,c1,c2,c3,hKx⟩ := hK.at0
  obtain ⟨ub,uc2,d0,d1,d2,d3,hKy⟩ := hK.at1
  have Wx := Lib.hid (fun kind W (hb : Below w.heap.size w W) => jwant_any x kind names vals (.slice ua x.ks.length uc) p W hEx (hW.keep hb) (hKx.keep hb))
  have Ox := Lib.hid (fun W (hb : Below w.heap.size w W) => hEx (.slice ua x.ks.length uc) W p (hW.keep hb) (hKx.keep hb))
  have Cx := Lib.hid (kid_cells c0 c1 c2 c3)
  have Wy := Lib.hid (fun kind W (hb : Below w.heap.size w W) => jwant_any y kind names vals (.slice ub y.ks.length uc2) p W hEy (hW.keep hb) (hKy.keep hb))
  have Oy := Lib.hid (fun W (hb : Below w.heap.size w W) => hEy (.slice ub y.ks.length uc2) W p (hW.keep hb) (hKy.keep hb))
  have Cy := Lib.hid (kid_cells d0 d1 d2 d3)
  have K0 := Lib.hid ((Kept.start w).new2 (.cells #[.int .i64 21,.int .i64 n,.string ⟨s.toArray⟩,.slice (some ⟨b,off,none⟩) 2 cap] 28) (.cells #[.int .i64 0,.int .i64 0,.string ⟨#[]⟩] 33))
  generalize ev (look names vals) x = vx at *
  have HOKx := Lib.hid hokx
  generalize ev (look names vals) y = vy at *
  have HOKy := Lib.hid hoky
  unfold wantPost exV strV at Wx Wy
  unfold valPost exV strV at Ox Oy
  simp only [List.length_cons,List.length_nil,Nat.zero_add] at hcap ⊢
  clear hW hK hEx hKx hokx hEy hKy hoky c0 c1 c2 c3 d0 d1 d2 d3
  obtain ⟨R,hR⟩ : ∃ R,textM 21 vx vy = R := ⟨_,rfl⟩
  rw [hR]
  have hne : wants vx 3 = need vx [3] := wants_need HOKx.out 3 (by decide)
  have WX1 := Lib.hid (Wx.out 3)
  rw [hne] at WX1
  clear Wx Ox hne
  rcases need_ok HOKx.out [3] with ⟨u,hu,-⟩ | ⟨hu,hk1⟩
  · rw [textM_err hu] at hR
    rw [hu] at WX1
    have HR : Hid (R = u) := Lib.hid hR.symm
    clear hR hu
    obtain ⟨uk,huk⟩ : ∃ n,u.k = n := ⟨_,rfl⟩
    obtain ⟨un,hun⟩ : ∃ n,u.n = n := ⟨_,rfl⟩
    obtain ⟨us,hus⟩ : ∃ s : ByteArray,(⟨u.s.toArray⟩ : ByteArray) = s := ⟨_,rfl⟩
    have HU : Hid (valV u = .agg #[.int .i64 uk,.int .i64 un,.string us]) := Lib.hid (by unfold valV strV; rw [huk,hun,hus])
    clear huk hun hus
    unfold needV needB at WX1
    simp only [HU.out] at WX1
    unfold exV strV
    go_enter Tryz.func45,Tryz.ntmps45
    go_upto_region 1 with fail
    generalize (w.alloc (.cells #[.int .i64 21,.int .i64 n,.string ⟨s.toArray⟩,.slice (some ⟨b,off,none⟩) 2 cap] 28)).alloc (.cells #[.int .i64 0,.int .i64 0,.string ⟨#[]⟩] 33) = W1 at *
    obtain ⟨⟨e0,e1,e2,e3⟩,-⟩ := four_all K0.out.tail.at0
    obtain ⟨x0,x1,x2,x3⟩ := Cx.out _ K0.out.below
    go_wp2_with fail
    refine (WX1.out _ K0.out.below).mono ?_
    rintro r W2 ⟨rfl,hb⟩
    have K1 := Lib.hid (K0.out.call hb)
    clear hb e0 e1 e2 e3 x0 x1 x2 x3 WX1
    have K2 := Lib.hid (K1.out.new (.cells #[.int .i64 uk,.int .i64 un,.string us] 33))
    go_upto_region 3 with fail
    generalize W2.alloc (.cells #[.int .i64 uk,.int .i64 un,.string us] 33) = W3 at *
    generalize W2.heap.size = bU at *
    obtain ⟨⟨u0,u1,u2⟩,-⟩ := three_all K2.out.at0
    obtain ⟨⟨z0,z1,z2⟩,zf0,zf1,zf2⟩ := three_all K2.out.tail.at0
    go_wp2
    have hh := three_all (set3_heap K2.out.tail.at0 (.int .i64 uk) (.int .i64 un) (.string us))
    refine bodyPost_ret (v := .agg #[.int .i64 uk,.int .i64 un,.string us]) (by simp [results,Tryz.results45,go_sem,hh.1]) rfl ⟨by rw [HR.out,← HU.out],below_set3 K2.out.below (by omega) _ _ _⟩
  · rw [textM_ok' hu] at hR
    rw [hu] at WX1
    obtain ⟨tt,rfl,htt⟩ := HOKx.out.k3 (by simpa using hk1)
    clear hu hk1
    have hV : valV (vText tt) = .agg #[.int .i64 3,.int .i64 0,.string ⟨tt.toArray⟩] := rfl
    unfold needV needB at WX1
    simp only [hV] at WX1
    obtain ⟨tl,tv,tc⟩ := textOk_iff htt
    have HTV := Lib.hid tv
    clear hV htt tv
    have hne2 : wants vy 1 = need vy [1] := wants_need HOKy.out 1 (by decide)
    have WY1 := Lib.hid (Wy.out 1)
    rw [hne2] at WY1
    clear Wy Oy hne2
    have hR : (match need vy [1] with | .error v => v | .ok b => longM (takeP b.n.toNat tt)) = R := hR
    rcases need_ok HOKy.out [1] with ⟨u,hu,-⟩ | ⟨hu,hk1⟩
    · rw [hu] at WY1 hR
      have HR : Hid (R = u) := Lib.hid hR.symm
      clear hR hu
      obtain ⟨uk,huk⟩ : ∃ n,u.k = n := ⟨_,rfl⟩
      obtain ⟨un,hun⟩ : ∃ n,u.n = n := ⟨_,rfl⟩
      obtain ⟨us,hus⟩ : ∃ s : ByteArray,(⟨u.s.toArray⟩ : ByteArray) = s := ⟨_,rfl⟩
      have HU : Hid (valV u = .agg #[.int .i64 uk,.int .i64 un,.string us]) := Lib.hid (by unfold valV strV; rw [huk,hun,hus])
      clear huk hun hus
      unfold needV needB at WY1
      simp only [HU.out] at WY1
      unfold exV strV
      go_enter Tryz.func45,Tryz.ntmps45
      go_upto_region 1 with fail
      generalize (w.alloc (.cells #[.int .i64 21,.int .i64 n,.string ⟨s.toArray⟩,.slice (some ⟨b,off,none⟩) 2 cap] 28)).alloc (.cells #[.int .i64 0,.int .i64 0,.string ⟨#[]⟩] 33) = W1 at *
      obtain ⟨⟨e0,e1,e2,e3⟩,-⟩ := four_all K0.out.tail.at0
      obtain ⟨x0,x1,x2,x3⟩ := Cx.out _ K0.out.below
      go_wp2_with fail
      refine (WX1.out _ K0.out.below).mono ?_
      rintro r W2 ⟨rfl,hb⟩
      have K1 := Lib.hid (K0.out.call hb)
      clear hb e0 e1 e2 e3 x0 x1 x2 x3 WX1 K0
      have K2 := Lib.hid (K1.out.new (.cells #[.int .i64 3,.int .i64 0,.string ⟨tt.toArray⟩] 33))
      go_upto_region 4 with fail
      generalize W2.alloc (.cells #[.int .i64 3,.int .i64 0,.string ⟨tt.toArray⟩] 33) = W3 at *
      generalize W2.heap.size = bU at *
      obtain ⟨⟨u0,u1,u2⟩,-⟩ := three_all K2.out.at0
      obtain ⟨⟨e0,e1,e2,e3⟩,-⟩ := four_all K2.out.tail.tail.at0
      obtain ⟨y0,y1,y2,y3⟩ := Cy.out _ K2.out.below
      go_wp2_with fail
      refine (WY1.out _ K2.out.below).mono ?_
      rintro r W4 ⟨rfl,hb⟩
      have K3 := Lib.hid (K2.out.call hb)
      clear hb u0 u1 u2 e0 e1 e2 e3 y0 y1 y2 y3
      have K4 := Lib.hid (K3.out.new (.cells #[.int .i64 uk,.int .i64 un,.string us] 33))
      go_upto_region 16 with fail
      generalize W4.alloc (.cells #[.int .i64 uk,.int .i64 un,.string us] 33) = W5 at *
      generalize W4.heap.size = bY at *
      obtain ⟨⟨u0,u1,u2⟩,-⟩ := three_all K4.out.at0
      obtain ⟨⟨z0,z1,z2⟩,zf0,zf1,zf2⟩ := three_all K4.out.tail.tail.at0
      go_wp2
      have hh := three_all (set3_heap K4.out.tail.tail.at0 (.int .i64 uk) (.int .i64 un) (.string us))
      refine bodyPost_ret (v := .agg #[.int .i64 uk,.int .i64 un,.string us]) (by simp [results,Tryz.results45,go_sem,hh.1]) rfl ⟨by rw [HR.out,← HU.out],below_set3 K4.out.below (by omega) _ _ _⟩
    · obtain ⟨m,rfl,hm⟩ := HOKy.out.k1 (by simpa using hk1)
      rw [hu] at WY1 hR
      have hR : longM (takeP m.toNat tt) = R := hR
      have hV2 : valV (vInt m) = .agg #[.int .i64 1,.int .i64 m,.string ⟨#[]⟩] := rfl
      unfold needV needB at WY1
      simp only [hV2] at WY1
      clear hV2 hu hk1
      by_cases h100 : 100 < m
      · have HR : Hid (R = vText tt) := Lib.hid (by rw [← hR,takeP_over _ _ (by omega)]; unfold longM; rw [if_neg (by omega)])
        clear hR tc tl
        unfold exV strV
        go_enter Tryz.func45,Tryz.ntmps45
        go_upto_region 1 with fail
        generalize (w.alloc (.cells #[.int .i64 21,.int .i64 n,.string ⟨s.toArray⟩,.slice (some ⟨b,off,none⟩) 2 cap] 28)).alloc (.cells #[.int .i64 0,.int .i64 0,.string ⟨#[]⟩] 33) = W1 at *
        obtain ⟨⟨e0,e1,e2,e3⟩,-⟩ := four_all K0.out.tail.at0
        obtain ⟨x0,x1,x2,x3⟩ := Cx.out _ K0.out.below
        go_wp2_with fail
        refine (WX1.out _ K0.out.below).mono ?_
        rintro r W2 ⟨rfl,hb⟩
        have K1 := Lib.hid (K0.out.call hb)
        clear hb e0 e1 e2 e3 x0 x1 x2 x3 WX1 K0
        have K2 := Lib.hid (K1.out.new (.cells #[.int .i64 3,.int .i64 0,.string ⟨tt.toArray⟩] 33))
        go_upto_region 4 with fail
        generalize W2.alloc (.cells #[.int .i64 3,.int .i64 0,.string ⟨tt.toArray⟩] 33) = W3 at *
        generalize W2.heap.size = bU at *
        obtain ⟨⟨u0,u1,u2⟩,-⟩ := three_all K2.out.at0
        obtain ⟨⟨e0,e1,e2,e3⟩,-⟩ := four_all K2.out.tail.tail.at0
        obtain ⟨y0,y1,y2,y3⟩ := Cy.out _ K2.out.below
        go_wp2_with fail
        refine (WY1.out _ K2.out.below).mono ?_
        rintro r W4 ⟨rfl,hb⟩
        have K3 := Lib.hid (K2.out.call hb)
        clear hb u0 u1 u2 e0 e1 e2 e3 y0 y1 y2 y3
        have K4 := Lib.hid (K3.out.new (.cells #[.int .i64 1,.int .i64 m,.string ⟨#[]⟩] 33))
        go_upto_region 17 with fail
        generalize W4.alloc (.cells #[.int .i64 1,.int .i64 m,.string ⟨#[]⟩] 33) = W5 at *
        generalize W4.heap.size = bY at *
        obtain ⟨⟨y0,y1,y2⟩,-⟩ := three_all K4.out.at0
        obtain ⟨⟨u0,u1,u2⟩,-⟩ := three_all K4.out.tail.at0
        obtain ⟨⟨z0,z1,z2⟩,zf0,zf1,zf2⟩ := three_all K4.out.tail.tail.at0
        go_wp2
        have hh := three_all (set3_heap K4.out.tail.tail.at0 (.int .i64 3) (.int .i64 0) (.string ⟨tt.toArray⟩))
        refine bodyPost_ret (v := valV (vText tt)) (by simp [results,Tryz.results45,go_sem,valV,strV,vText,hh.1]) rfl ⟨by rw [HR.out],below_set3 K4.out.below (by omega) _ _ _⟩
      · obtain ⟨j,hj⟩ : ∃ j : Nat,m.toNat = j := ⟨_,rfl⟩
        rw [hj] at hR
        have hjm : (m < 0 ∧ j = 0) ∨ (0 ≤ m ∧ m = (j : Int)) := by omega
        have hCT := fun W => refCut_any tt j W (by omega) (by omega)
        have htp := takeP_pre j tt
        have hln : (takeP j tt).length ≤ tt.length := by
          obtain ⟨r,hr⟩ := htp
          have := congrArg List.length hr
          rw [List.length_append] at this
          omega
        have HTX := Lib.hid (fun W => jtext_any (takeP j tt) W (by omega))
        have HCT := Lib.hid hCT
        have HR := Lib.hid hR
        unfold strRet strV at HCT
        unfold strV valPost at HTX
        clear hR hCT htp hln hj
        generalize takeP j tt = ct at *
        generalize longM ct = lr at *
        obtain ⟨uk,huk⟩ : ∃ n,lr.k = n := ⟨_,rfl⟩
        obtain ⟨un,hun⟩ : ∃ n,lr.n = n := ⟨_,rfl⟩
        obtain ⟨us,hus⟩ : ∃ s : ByteArray,(⟨lr.s.toArray⟩ : ByteArray) = s := ⟨_,rfl⟩
        have HU : Hid (valV lr = .agg #[.int .i64 uk,.int .i64 un,.string us]) := Lib.hid (by unfold valV strV; rw [huk,hun,hus])
        clear huk hun hus
        simp only [HU.out] at HTX
        rcases hjm with ⟨hm0,rfl⟩ | ⟨hm0,rfl⟩
        · skip
          unfold exV strV
          go_enter Tryz.func45,Tryz.ntmps45
          go_upto_region 1 with fail
          generalize (w.alloc (.cells #[.int .i64 21,.int .i64 n,.string ⟨s.toArray⟩,.slice (some ⟨b,off,none⟩) 2 cap] 28)).alloc (.cells #[.int .i64 0,.int .i64 0,.string ⟨#[]⟩] 33) = W1 at *
          obtain ⟨⟨e0,e1,e2,e3⟩,-⟩ := four_all K0.out.tail.at0
          obtain ⟨x0,x1,x2,x3⟩ := Cx.out _ K0.out.below
          go_wp2_with fail
          refine (WX1.out _ K0.out.below).mono ?_
          rintro r W2 ⟨rfl,hb⟩
          have K1 := Lib.hid (K0.out.call hb)
          clear hb e0 e1 e2 e3 x0 x1 x2 x3 WX1 K0
          have K2 := Lib.hid (K1.out.new (.cells #[.int .i64 3,.int .i64 0,.string ⟨tt.toArray⟩] 33))
          go_upto_region 4 with fail
          generalize W2.alloc (.cells #[.int .i64 3,.int .i64 0,.string ⟨tt.toArray⟩] 33) = W3 at *
          generalize W2.heap.size = bU at *
          obtain ⟨⟨u0,u1,u2⟩,-⟩ := three_all K2.out.at0
          obtain ⟨⟨e0,e1,e2,e3⟩,-⟩ := four_all K2.out.tail.tail.at0
          obtain ⟨y0,y1,y2,y3⟩ := Cy.out _ K2.out.below
          go_wp2_with fail
          refine (WY1.out _ K2.out.below).mono ?_
          rintro r W4 ⟨rfl,hb⟩
          have K3 := Lib.hid (K2.out.call hb)
          clear hb u0 u1 u2 e0 e1 e2 e3 y0 y1 y2 y3
          have K4 := Lib.hid (K3.out.new (.cells #[.int .i64 1,.int .i64 m,.string ⟨#[]⟩] 33))
          go_upto_region 17 with fail
          generalize W4.alloc (.cells #[.int .i64 1,.int .i64 m,.string ⟨#[]⟩] 33) = W5 at *
          generalize W4.heap.size = bY at *
          obtain ⟨⟨y0,y1,y2⟩,-⟩ := three_all K4.out.at0
          obtain ⟨⟨u0,u1,u2⟩,-⟩ := three_all K4.out.tail.at0
          go_wp2_with fail
          refine (HCT.out _).mono ?_
          rintro r W6 ⟨rfl,hb⟩
          have K5 := Lib.hid (K4.out.call hb)
          clear hb u0 u1 u2 y0 y1 y2
          go_wp2_with fail
          refine (HTX.out _).mono ?_
          rintro r W7 ⟨rfl,hb⟩
          have K6 := Lib.hid (K5.out.call hb)
          clear hb
          obtain ⟨⟨z0,z1,z2⟩,zf0,zf1,zf2⟩ := three_all K6.out.tail.tail.at0
          go_wp2
          have hh := three_all (set3_heap K6.out.tail.tail.at0 (.int .i64 uk) (.int .i64 un) (.string us))
          refine bodyPost_ret (v := .agg #[.int .i64 uk,.int .i64 un,.string us]) (by simp [results,Tryz.results45,go_sem,hh.1]) rfl ⟨by rw [← HR.out,← HU.out],below_set3 K6.out.below (by omega) _ _ _⟩
        · skip
          unfold exV strV
          go_enter Tryz.func45,Tryz.ntmps45
          go_upto_region 1 with fail
          generalize (w.alloc (.cells #[.int .i64 21,.int .i64 n,.string ⟨s.toArray⟩,.slice (some ⟨b,off,none⟩) 2 cap] 28)).alloc (.cells #[.int .i64 0,.int .i64 0,.string ⟨#[]⟩] 33) = W1 at *
          obtain ⟨⟨e0,e1,e2,e3⟩,-⟩ := four_all K0.out.tail.at0
          obtain ⟨x0,x1,x2,x3⟩ := Cx.out _ K0.out.below
          go_wp2_with fail
          refine (WX1.out _ K0.out.below).mono ?_
          rintro r W2 ⟨rfl,hb⟩
          have K1 := Lib.hid (K0.out.call hb)
          clear hb e0 e1 e2 e3 x0 x1 x2 x3 WX1 K0
          have K2 := Lib.hid (K1.out.new (.cells #[.int .i64 3,.int .i64 0,.string ⟨tt.toArray⟩] 33))
          go_upto_region 4 with fail
          generalize W2.alloc (.cells #[.int .i64 3,.int .i64 0,.string ⟨tt.toArray⟩] 33) = W3 at *
          generalize W2.heap.size = bU at *
          obtain ⟨⟨u0,u1,u2⟩,-⟩ := three_all K2.out.at0
          obtain ⟨⟨e0,e1,e2,e3⟩,-⟩ := four_all K2.out.tail.tail.at0
          obtain ⟨y0,y1,y2,y3⟩ := Cy.out _ K2.out.below
          go_wp2_with fail
          refine (WY1.out _ K2.out.below).mono ?_
          rintro r W4 ⟨rfl,hb⟩
          have K3 := Lib.hid (K2.out.call hb)
          clear hb u0 u1 u2 e0 e1 e2 e3 y0 y1 y2 y3
          have K4 := Lib.hid (K3.out.new (.cells #[.int .i64 1,.int .i64 (j : Int),.string ⟨#[]⟩] 33))
          go_upto_region 17 with fail
          generalize W4.alloc (.cells #[.int .i64 1,.int .i64 (j : Int),.string ⟨#[]⟩] 33) = W5 at *
          generalize W4.heap.size = bY at *
          obtain ⟨⟨y0,y1,y2⟩,-⟩ := three_all K4.out.at0
          obtain ⟨⟨u0,u1,u2⟩,-⟩ := three_all K4.out.tail.at0
          go_wp2_with fail
          refine (HCT.out _).mono ?_
          rintro r W6 ⟨rfl,hb⟩
          have K5 := Lib.hid (K4.out.call hb)
          clear hb u0 u1 u2 y0 y1 y2
          go_wp2_with fail
          refine (HTX.out _).mono ?_
          rintro r W7 ⟨rfl,hb⟩
          have K6 := Lib.hid (K5.out.call hb)
          clear hb
          obtain ⟨⟨z0,z1,z2⟩,zf0,zf1,zf2⟩ := three_all K6.out.tail.tail.at0
          go_wp2
          have hh := three_all (set3_heap K6.out.tail.tail.at0 (.int .i64 uk) (.int .i64 un) (.string us))
          refine bodyPost_ret (v := .agg #[.int .i64 uk,.int .i64 un,.string us]) (by simp [results,Tryz.results45,go_sem,hh.1]) rfl ⟨by rw [← HR.out,← HU.out],below_set3 K6.out.below (by omega) _ _ _⟩
end Go.Proofs.YtfjpdphphieaoaaGreatDoor
