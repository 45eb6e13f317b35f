/- The walks of value.Unbox, Kind, Int, Bool, Text, Box. Conditions: the value may be; the tables hold what they are laid with. The walks of value.Box, eval's named, bad. Conditions: the texts are no longer than any may be; the tables hold what they are laid with. The walk of eval's need. Conditions: what is worked out may be a value. The walks of runes.Cut, Upper, Fold. Conditions: the text is no longer than any may be; for Fold each piece is a rune. The walk of eval's text. Conditions: its parts come to what the plain law says, and that may be values. -/
import Derived.Test.YtfjpdphphieaoaaGreatDoorEA
import Derived.Defers
import Derived.Recover
set_option linter.unusedSectionVars false
set_option linter.unusedSimpArgs false
set_option linter.unusedVariables false
namespace Go.Proofs.YtfjpdphphieaoaaGreatDoor
open Go.RowKit Pal
theorem ta_int (n : Int) : ∀ (T : TypeId) (w : World),(Instr.typeAssert (.iface 2 (.int .i64 n)) T 2 true).run Tryz.prog w = .ok (.tuple #[.int .i64 n,.bool true]) w := fun _ _ => by kernel_rfl
theorem tb_int (n : Int) : ∀ (T : TypeId) (w : World),(Instr.typeAssert (.iface 2 (.int .i64 n)) T 2 false).run Tryz.prog w = .ok (.int .i64 n) w := fun _ _ => by kernel_rfl
theorem tn_int_v (n : Int) : ∀ (T : TypeId) (w : World),(Instr.typeAssert (.iface 2 (.int .i64 n)) T 33 true).run Tryz.prog w = .ok (.tuple #[.agg #[.int .i64 0,.int .i64 0,.string ⟨#[]⟩],.bool false]) w := fun _ _ => by kernel_rfl
theorem ta_bool (b : Bool) : ∀ (T : TypeId) (w : World),(Instr.typeAssert (.iface 4 (.bool b)) T 4 true).run Tryz.prog w = .ok (.tuple #[.bool b,.bool true]) w := fun _ _ => by kernel_rfl
theorem tb_bool (b : Bool) : ∀ (T : TypeId) (w : World),(Instr.typeAssert (.iface 4 (.bool b)) T 4 false).run Tryz.prog w = .ok (.bool b) w := fun _ _ => by kernel_rfl
theorem tn_bool_i (b : Bool) : ∀ (T : TypeId) (w : World),(Instr.typeAssert (.iface 4 (.bool b)) T 2 true).run Tryz.prog w = .ok (.tuple #[.int .i64 0,.bool false]) w := fun _ _ => by kernel_rfl
theorem tn_bool_s (b : Bool) : ∀ (T : TypeId) (w : World),(Instr.typeAssert (.iface 4 (.bool b)) T 9 true).run Tryz.prog w = .ok (.tuple #[.string ⟨#[]⟩,.bool false]) w := fun _ _ => by kernel_rfl
theorem tn_bool_v (b : Bool) : ∀ (T : TypeId) (w : World),(Instr.typeAssert (.iface 4 (.bool b)) T 33 true).run Tryz.prog w = .ok (.tuple #[.agg #[.int .i64 0,.int .i64 0,.string ⟨#[]⟩],.bool false]) w := fun _ _ => by kernel_rfl
theorem ta_text (s : Bs) : ∀ (T : TypeId) (w : World),(Instr.typeAssert (.iface 9 (.string ⟨s.toArray⟩)) T 9 true).run Tryz.prog w = .ok (.tuple #[.string ⟨s.toArray⟩,.bool true]) w := fun _ _ => by kernel_rfl
theorem tb_text (s : Bs) : ∀ (T : TypeId) (w : World),(Instr.typeAssert (.iface 9 (.string ⟨s.toArray⟩)) T 9 false).run Tryz.prog w = .ok (.string ⟨s.toArray⟩) w := fun _ _ => by kernel_rfl
theorem tn_text_i (s : Bs) : ∀ (T : TypeId) (w : World),(Instr.typeAssert (.iface 9 (.string ⟨s.toArray⟩)) T 2 true).run Tryz.prog w = .ok (.tuple #[.int .i64 0,.bool false]) w := fun _ _ => by kernel_rfl
theorem tn_text_b (s : Bs) : ∀ (T : TypeId) (w : World),(Instr.typeAssert (.iface 9 (.string ⟨s.toArray⟩)) T 4 true).run Tryz.prog w = .ok (.tuple #[.bool false,.bool false]) w := fun _ _ => by kernel_rfl
theorem tn_text_v (s : Bs) : ∀ (T : TypeId) (w : World),(Instr.typeAssert (.iface 9 (.string ⟨s.toArray⟩)) T 33 true).run Tryz.prog w = .ok (.tuple #[.agg #[.int .i64 0,.int .i64 0,.string ⟨#[]⟩],.bool false]) w := fun _ _ => by kernel_rfl
theorem ta_bad (n : Int) : ∀ (T : TypeId) (w : World),(Instr.typeAssert (.iface 33 (.agg #[.int .i64 4,.int .i64 n,.string ⟨#[]⟩])) T 33 true).run Tryz.prog w = .ok (.tuple #[.agg #[.int .i64 4,.int .i64 n,.string ⟨#[]⟩],.bool true]) w := fun _ _ => by kernel_rfl
theorem tn_bad_i (n : Int) : ∀ (T : TypeId) (w : World),(Instr.typeAssert (.iface 33 (.agg #[.int .i64 4,.int .i64 n,.string ⟨#[]⟩])) T 2 true).run Tryz.prog w = .ok (.tuple #[.int .i64 0,.bool false]) w := fun _ _ => by kernel_rfl
theorem tn_bad_b (n : Int) : ∀ (T : TypeId) (w : World),(Instr.typeAssert (.iface 33 (.agg #[.int .i64 4,.int .i64 n,.string ⟨#[]⟩])) T 4 true).run Tryz.prog w = .ok (.tuple #[.bool false,.bool false]) w := fun _ _ => by kernel_rfl
theorem tn_bad_s (n : Int) : ∀ (T : TypeId) (w : World),(Instr.typeAssert (.iface 33 (.agg #[.int .i64 4,.int .i64 n,.string ⟨#[]⟩])) T 9 true).run Tryz.prog w = .ok (.tuple #[.string ⟨#[]⟩,.bool false]) w := fun _ _ => by kernel_rfl
def unboxPost (v : Val) (w : World) (e : Ending) (w' : World) : Prop := e = .returned (.tuple #[valV v,.bool true]) ∧ Below w.heap.size w w'
set_option maxRecDepth 1000000 in
set_option maxHeartbeats 2000000 in
theorem unbox_nil (w : World) : Calls Tryz.prog 18 #[.nilIface] w (unboxPost vNil w) := by
  have hz := heap_alloc_new w (.cells #[.int .i64 0,.int .i64 0,.string ⟨#[]⟩] 33)
  have hb : Below w.heap.size w (w.alloc (.cells #[.int .i64 0,.int .i64 0,.string ⟨#[]⟩] 33)) := (Below.refl _ _).alloc (Nat.le_refl _) _
  have HZ := Lib.hid hz
  have HB := Lib.hid hb
  clear hz hb
  go_enter Tryz.func18,Tryz.ntmps18
  go_wp2
  have hh := three_all (heap_alloc_new w (.cells #[.int .i64 0,.int .i64 0,.string ⟨#[]⟩] 33))
  refine bodyPost_ret (v := .tuple #[valV vNil,.bool true]) (by simp [results,Tryz.results18,go_sem,valV,strV,vNil,vInt,vBool,vText,vBad,hh.1]) rfl ⟨rfl,(Below.refl _ _).alloc (Nat.le_refl _) _⟩
set_option maxRecDepth 1000000 in
set_option maxHeartbeats 2000000 in
theorem unbox_int (n : Int) (w : World) : Calls Tryz.prog 18 #[.iface 2 (.int .i64 n)] w (unboxPost (vInt n) w) := by
  have hz := heap_alloc_new w (.cells #[.int .i64 0,.int .i64 0,.string ⟨#[]⟩] 33)
  have hb : Below w.heap.size w (w.alloc (.cells #[.int .i64 0,.int .i64 0,.string ⟨#[]⟩] 33)) := (Below.refl _ _).alloc (Nat.le_refl _) _
  have HZ := Lib.hid hz
  have HB := Lib.hid hb
  clear hz hb
  have x1 := ta_int n
  go_enter Tryz.func18,Tryz.ntmps18
  go_wp2
  have hh := three_all (heap_alloc_new w (.cells #[.int .i64 1,.int .i64 n,.string ⟨#[]⟩] 33))
  refine bodyPost_ret (v := .tuple #[valV (vInt n),.bool true]) (by simp [results,Tryz.results18,go_sem,valV,strV,vNil,vInt,vBool,vText,vBad,hh.1]) rfl ⟨rfl,(Below.refl _ _).alloc (Nat.le_refl _) _⟩
set_option maxRecDepth 1000000 in
set_option maxHeartbeats 2000000 in
theorem unbox_bool (b : Bool) (w : World) : Calls Tryz.prog 18 #[.iface 4 (.bool b)] w (unboxPost (vBool b) w) := by
  have hz := heap_alloc_new w (.cells #[.int .i64 0,.int .i64 0,.string ⟨#[]⟩] 33)
  have hb : Below w.heap.size w (w.alloc (.cells #[.int .i64 0,.int .i64 0,.string ⟨#[]⟩] 33)) := (Below.refl _ _).alloc (Nat.le_refl _) _
  have HZ := Lib.hid hz
  have HB := Lib.hid hb
  clear hz hb
  have x1 := tn_bool_i
  have x2 := ta_bool
  cases b
  · go_enter Tryz.func18,Tryz.ntmps18
    go_wp2
    have hh := three_all ((Lib.alloc_old _ (.cells #[.int .i64 2,.int .i64 0,.string ⟨#[]⟩] 33) _ (by simp)).trans (heap_alloc_new w (.cells #[.int .i64 2,.int .i64 0,.string ⟨#[]⟩] 33)))
    refine bodyPost_ret (v := .tuple #[valV (vBool false),.bool true]) (by simp [results,Tryz.results18,go_sem,valV,strV,vNil,vInt,vBool,vText,vBad,hh.1]) rfl ⟨rfl,((Below.refl _ _).alloc (Nat.le_refl _) _).alloc (by simp) _⟩
  · go_enter Tryz.func18,Tryz.ntmps18
    go_wp2
    have hh := three_all ((Lib.alloc_old _ (.cells #[.int .i64 2,.int .i64 1,.string ⟨#[]⟩] 33) _ (by simp)).trans (heap_alloc_new w (.cells #[.int .i64 2,.int .i64 1,.string ⟨#[]⟩] 33)))
    refine bodyPost_ret (v := .tuple #[valV (vBool true),.bool true]) (by simp [results,Tryz.results18,go_sem,valV,strV,vNil,vInt,vBool,vText,vBad,hh.1]) rfl ⟨rfl,((Below.refl _ _).alloc (Nat.le_refl _) _).alloc (by simp) _⟩
set_option maxRecDepth 1000000 in
set_option maxHeartbeats 2000000 in
theorem unbox_text (s : Bs) (w : World) (h : textOk s = true) (hL : Lay (gh w)) : Calls Tryz.prog 18 #[.iface 9 (strV s)] w (unboxPost (vText s) w) := by
  have hz := heap_alloc_new w (.cells #[.int .i64 0,.int .i64 0,.string ⟨#[]⟩] 33)
  have hb : Below w.heap.size w (w.alloc (.cells #[.int .i64 0,.int .i64 0,.string ⟨#[]⟩] 33)) := (Below.refl _ _).alloc (Nat.le_refl _) _
  have HZ := Lib.hid hz
  have HB := Lib.hid hb
  have hv := valueText_any s _ (by have := (textOk_iff h).1; omega) (hL.below hb)
  rw [h] at hv
  have HV := Lib.hid hv
  clear hv h hz hb
  unfold strV at *
  have x1 := tn_text_i s
  have x2 := tn_text_b s
  have x3 := ta_text s
  go_enter Tryz.func18,Tryz.ntmps18
  go_wp2_with fail
  refine HV.out.mono ?_
  rintro e W ⟨rfl,hb⟩
  have hzW := (hb.block _ (by simp)).trans HZ.out
  have hbW := HB.out.seq hb
  obtain ⟨⟨c0,c1,c2⟩,f0,f1,f2⟩ := three_all hzW
  have HZW := Lib.hid hzW
  have HBW := Lib.hid hbW
  clear hb hzW hbW
  go_wp2
  have hh := three_all (set3_heap HZW.out (.int .i64 3) (.int .i64 0) (.string ⟨s.toArray⟩))
  refine bodyPost_ret (v := .tuple #[valV (vText s),.bool true]) (by simp [results,Tryz.results18,go_sem,valV,strV,vNil,vInt,vBool,vText,vBad,hh.1]) rfl ⟨rfl,below_set3 HBW.out (Nat.le_refl _) _ _ _⟩
set_option maxRecDepth 1000000 in
set_option maxHeartbeats 2000000 in
theorem unbox_bad (n : Int) (w : World) (h : 1 ≤ n ∧ n ≤ 4) (hL : Lay (gh w)) : Calls Tryz.prog 18 #[.iface 33 (.agg #[.int .i64 4,.int .i64 n,.string ⟨#[]⟩])] w (unboxPost (vBad n) w) := by
  have hz := heap_alloc_new w (.cells #[.int .i64 0,.int .i64 0,.string ⟨#[]⟩] 33)
  have hb : Below w.heap.size w (w.alloc (.cells #[.int .i64 0,.int .i64 0,.string ⟨#[]⟩] 33)) := (Below.refl _ _).alloc (Nat.le_refl _) _
  have HZ := Lib.hid hz
  have HB := Lib.hid hb
  have hb2 := hb.alloc hb.size (.cells #[.int .i64 4,.int .i64 n,.string ⟨#[]⟩] 33)
  have hv := valueCheck_any 4 n [] _ (by simp) (hL.below hb2)
  have hk : okV ⟨4,n,[]⟩ = true := (VOk.bad n h).ok
  simp only [hk] at hv
  unfold strV at hv
  have HV := Lib.hid hv
  have HB2 := Lib.hid hb2
  have hz2 : ((w.alloc (.cells #[.int .i64 0,.int .i64 0,.string ⟨#[]⟩] 33)).alloc (.cells #[.int .i64 4,.int .i64 n,.string ⟨#[]⟩] 33)).heap[w.heap.size + 1]? = some (.cells #[.int .i64 4,.int .i64 n,.string ⟨#[]⟩] 33 (0,0)) := by
    have := heap_alloc_new (w.alloc (.cells #[.int .i64 0,.int .i64 0,.string ⟨#[]⟩] 33)) (.cells #[.int .i64 4,.int .i64 n,.string ⟨#[]⟩] 33)
    simpa using this
  have HZ2 := Lib.hid hz2
  clear hv h hk hL hb2 hz hb hz2
  have x1 := tn_bad_i n
  have x2 := tn_bad_b n
  have x3 := tn_bad_s n
  have x4 := ta_bad n
  go_enter Tryz.func18,Tryz.ntmps18
  go_wp2_with fail
  refine HV.out.mono ?_
  rintro e W ⟨rfl,hb⟩
  have hzW := (hb.block _ (by simp; omega)).trans ((Lib.alloc_old _ _ _ (by simp)).trans HZ.out)
  have hzX := (hb.block _ (by simp)).trans HZ2.out
  have hbW := HB2.out.seq hb
  obtain ⟨⟨c0,c1,c2⟩,f0,f1,f2⟩ := three_all hzW
  obtain ⟨⟨d0,d1,d2⟩,g0,g1,g2⟩ := three_all hzX
  have HZW := Lib.hid hzW
  have HBW := Lib.hid hbW
  clear hb hzW hbW hzX HV HB2 HZ2 HZ HB
  go_wp2
  have hh := three_all (set3_heap HZW.out (.int .i64 4) (.int .i64 n) (.string ⟨#[]⟩))
  refine bodyPost_ret (v := .tuple #[valV (vBad n),.bool true]) (by simp [results,Tryz.results18,go_sem,valV,strV,vNil,vInt,vBool,vText,vBad,hh.1]) rfl ⟨rfl,below_set3 HBW.out (Nat.le_refl _) _ _ _⟩
theorem unbox_any {v : Val} (hv : VOk v) (w : World) (hL : Lay (gh w)) : Calls Tryz.prog 18 #[boxV v] w (unboxPost v w) := by
  cases hv with
  | nil => exact unbox_nil w
  | int n h => exact unbox_int n w
  | bool b => rw [boxV_bool]; exact unbox_bool b w
  | text s h => exact unbox_text s w h hL
  | bad n h => exact unbox_bad n w h hL
set_option maxRecDepth 1000000 in
set_option maxHeartbeats 1000000 in
theorem kind_any {v : Val} (hv : VOk v) (w : World) (hL : Lay (gh w)) : Calls Tryz.prog 73 #[boxV v] w fun e w' => e = .returned (.int .i64 v.k) ∧ Below w.heap.size w w' := by
  have HU := Lib.hid (unbox_any hv w hL)
  unfold unboxPost valV strV at HU
  clear hv hL
  generalize boxV v = x at *
  go_enter Tryz.func73,Tryz.ntmps73
  go_wp2_with fail
  refine HU.out.mono ?_
  rintro e W ⟨rfl,hb⟩
  have hb2 := fun o => hb.alloc hb.size o
  go_wp2
  go_ret
  exact ⟨rfl,by first | exact hb | exact hb2 _⟩
/-- What is deferred: nothing, where nothing panics. -/
theorem wrong_idle (x y : Value) (w : World) :
    CallsD Tryz.prog 101 #[x,y] .returning w fun e u' w' => e = .returned (.tuple #[]) ∧ u' = .returning ∧ w' = w := by
  refine callsD_of_wpS Tryz.func101 rfl fun c₀ cs hu => ?_
  apply wpS_seq
  apply wpS_region
  simp [wpOpsS,go_sem,recoverD,hu,Tryz.ntmps101,Exit.thenS]
  refine wpS_of_wp ?_
  go_wp2
  cases c₀
  simp_all [bodyPostS,results,Tryz.results101]
set_option maxRecDepth 1000000 in
set_option maxHeartbeats 1000000 in
theorem int_any (n : Int) (w : World) : Calls Tryz.prog 64 #[.iface 2 (.int .i64 n)] w fun e w' => e = .returned (.int .i64 n) ∧ w' = w := by
  have x1 := tb_int n
  go_enter_defers Tryz.func64,Tryz.ntmps64
  go_wp2
  refine leaves_cons (f := 101) (args := #[.int .i64 1,.iface 2 (.int .i64 n)]) (by simp) (by simp [go_sem]) ?_
  refine (wrong_idle _ _ _).mono ?_
  rintro e u' w'' ⟨rfl,rfl,rfl⟩
  exact ⟨_,results_tmp rfl _ _ _,rfl,rfl⟩
set_option maxRecDepth 1000000 in
set_option maxHeartbeats 1000000 in
theorem bool_any (b : Bool) (w : World) : Calls Tryz.prog 74 #[.iface 4 (.bool b)] w fun e w' => e = .returned (.bool b) ∧ w' = w := by
  have x1 := tb_bool b
  go_enter_defers Tryz.func74,Tryz.ntmps74
  go_wp2
  refine leaves_cons (f := 101) (args := #[.int .i64 2,.iface 4 (.bool b)]) (by simp) (by simp [go_sem]) ?_
  refine (wrong_idle _ _ _).mono ?_
  rintro e u' w'' ⟨rfl,rfl,rfl⟩
  exact ⟨_,results_tmp rfl _ _ _,rfl,rfl⟩
set_option maxRecDepth 1000000 in
set_option maxHeartbeats 1000000 in
theorem text_any (s : Bs) (w : World) (h : textOk s = true) (hL : Lay (gh w)) : Calls Tryz.prog 69 #[.iface 9 (strV s)] w (strRet s w) := by
  have hv := valueText_any s w (by have := (textOk_iff h).1; omega) hL
  rw [h] at hv
  have HV := Lib.hid hv
  clear hv h
  unfold strV at HV
  unfold strRet strV
  have x1 := tb_text s
  go_enter_defers Tryz.func69,Tryz.ntmps69
  go_wp2_with fail
  refine HV.out.mono ?_
  rintro e W ⟨rfl,hb⟩
  go_wp2
  refine leaves_cons (f := 101) (args := #[.int .i64 3,.iface 9 (.string ⟨s.toArray⟩)]) (by simp) (by simp [go_sem]) ?_
  refine (wrong_idle _ _ _).mono ?_
  rintro e u' w'' ⟨rfl,rfl,rfl⟩
  exact ⟨_,results_tmp rfl _ _ _,rfl,hb⟩
end Go.Proofs.YtfjpdphphieaoaaGreatDoor
namespace Go.Proofs.YtfjpdphphieaoaaGreatDoor
open Go.RowKit Pal
set_option maxRecDepth 1000000 in
set_option maxHeartbeats 2000000 in
theorem box_any (v : Val) (w : World) (hs : v.s.length ≤ 9223372036854775806) (hL : Lay (gh w)) : Calls Tryz.prog 62 #[valV v] w (boxPost (if okV v then v else vNil) w) := by
  obtain ⟨k,n,s⟩ := v
  have hb := (Below.refl w.heap.size w).alloc (Nat.le_refl _) (.cells #[.int .i64 k,.int .i64 n,strV s] 33)
  have hc := valueCheck_any k n s _ hs (hL.below hb)
  have hz := heap_alloc_new w (.cells #[.int .i64 k,.int .i64 n,strV s] 33)
  have HC := Lib.hid hc
  have HZ := Lib.hid hz
  have HB := Lib.hid hb
  clear hc hz hb hs hL
  unfold valV
  by_cases hok : okV ⟨k,n,s⟩ = true
  · rw [if_pos hok]
    have HO := Lib.hid hok
    have hk : k = 0 ∨ k = 1 ∨ k = 2 ∨ k = 3 ∨ k = 4 := by
      unfold okV at hok
      simp only at hok
      apply Classical.byContradiction
      intro hh
      rw [if_neg (fun x => hh (by simp_all)),if_neg (fun x => hh (by simp_all)),if_neg (fun x => hh (by simp_all)),if_neg (fun x => hh (by simp_all)),if_neg (fun x => hh (by simp_all))] at hok
      cases hok
    clear hok
    unfold boxPost strV at *
    rcases hk with rfl | rfl | rfl | rfl | rfl
    all_goals
      go_enter Tryz.func62,Tryz.ntmps62
      go_wp2_with fail
      refine HC.out.mono ?_
      rintro e W ⟨rfl,hb⟩
      rw [HO.out]
      have hzW := (hb.block _ (by simp)).trans HZ.out
      obtain ⟨⟨c0,c1,c2⟩,-⟩ := three_all hzW
      have HBW := Lib.hid (HB.out.seq hb)
      clear hb hzW
      go_wp2
      go_ret
      exact ⟨rfl,HBW.out⟩
  · rw [if_neg hok]
    have HO : Hid (okV ⟨k,n,s⟩ = false) := Lib.hid (by simpa using hok)
    clear hok
    unfold boxPost strV at *
    go_enter Tryz.func62,Tryz.ntmps62
    go_wp2_with fail
    refine HC.out.mono ?_
    rintro e W ⟨rfl,hb⟩
    rw [HO.out]
    have HBW := Lib.hid (HB.out.seq hb)
    clear hb
    go_wp2
    go_ret
    exact ⟨rfl,HBW.out⟩
theorem look_nil (vs : List Val) (s : Bs) : look [] vs s = vNil := by unfold look; rfl
theorem look_hit {m s : Bs} {ms : List Bs} {vs : List Val} (h : m = s) : look (m :: ms) vs s = (match vs with | v :: _ => if okV v then v else vNil | [] => vNil) := by rw [look.eq_def]; simp only; rw [if_pos h]; cases vs <;> rfl
theorem look_miss {m s : Bs} {ms : List Bs} {vs : List Val} (h : ¬ m = s) : look (m :: ms) vs s = look ms vs.tail s := by rw [look.eq_def]; simp only; rw [if_neg h]
set_option maxRecDepth 1000000 in
set_option maxHeartbeats 4000000 in
theorem named_any (s : Bs) (names : List Bs) (vals : List Val) (p : Nat) (w : World) (hW : WithV w p names vals) :
    Calls Tryz.prog 36 #[.pointer (some ⟨p,0,none⟩),strV s] w (boxPost (look names vals s) w) := by
  obtain ⟨hL,hF,nv,vv,hc,hN,hV⟩ := hW
  obtain ⟨na,nc,rfl⟩ := hN.form
  obtain ⟨va,vc,rfl,hv1,hv2⟩ := hV.form
  have hnl : names.length ≤ 9223372036854775807 := by
    obtain ⟨_,_,hv,_,h1,h2,_⟩ := hN
    simp only [Value.slice.injEq] at hv
    unfold maxLen at h2
    omega
  obtain ⟨p0,p1,-⟩ := two_cells hc
  obtain ⟨R,hR⟩ : ∃ R,look names vals s = R := ⟨_,rfl⟩
  rw [hR]
  have HR := Lib.hid hR
  have HB : Hid (Below w.heap.size w w) := Lib.hid (Below.refl _ _)
  clear hR hc
  unfold strV
  go_enter Tryz.func36,Tryz.ntmps36
  go_wp2
  go_loopg [12] names.length (fun g i wr => ∃ k : Nat,i = .int .i64 k ∧ k + g = names.length ∧ wr = w ∧ Hid (look (names.drop k) (vals.drop k) s = R))
  case atStart => exact ⟨0,rfl,by omega,rfl,Lib.hid HR.out⟩
  case round =>
    obtain ⟨k,rfl,hg,rfl,HC⟩ := hrel
    have k0 : ¬ ((k : Int) < 0) := by omega
    by_cases hlt : k < names.length
    · obtain ⟨b,off,rfl,c0⟩ := hN.at (List.getElem?_eq_getElem hlt)
      unfold strV at c0
      have hdr : names.drop k = names[k] :: names.drop (k + 1) := List.drop_eq_getElem_cons hlt
      by_cases hs : names[k] = s
      · have hc := HC.out
        rw [hdr,look_hit hs] at hc
        have q : (names[k] == s) = true := by simp [hs]
        by_cases hlt2 : k < vals.length
        · have hbx := box_any vals[k] wr (hF _ (List.getElem_mem hlt2)).2 hL
          rw [List.drop_eq_getElem_cons hlt2] at hc
          simp only at hc
          obtain ⟨b2,off2,rfl,c2,c3,c4⟩ := hV.at (List.getElem?_eq_getElem hlt2)
          generalize vals[k] = x at *
          rw [hc] at hbx
          unfold valV strV at hbx
          unfold strV at c4
          have HX := Lib.hid hbx
          have q3 : ¬ vals.length ≤ k := by omega
          clear hc hdr HC hN hV hbx hs
          go_wp2_with fail
          refine HX.out.mono ?_
          rintro e W ⟨rfl,hb⟩
          go_wp2
          try rw [Exit.noGoto_ret]
          go_ret
          exact ⟨rfl,hb⟩
        · rw [List.drop_eq_nil_of_le (by omega)] at hc
          have HE : Hid (R = vNil) := Lib.hid (by rw [← hc])
          have q3 : vals.length ≤ k := by omega
          clear hc hdr HC hs hN hV
          go_wp2
          try rw [Exit.noGoto_ret]
          go_ret
          (refine ⟨?_,HB.out⟩; rw [HE.out]; rfl)
      · have hc := HC.out
        rw [hdr,look_miss hs,List.tail_drop] at hc
        have HD := Lib.hid hc
        have q : (names[k] == s) = false := beq_no hs
        clear hc hdr HC hs
        go_wp2
        go_roundg (gk - 1)
        case rel => exact ⟨k + 1,by go_num,by omega,rfl,Lib.hid HD.out⟩
        case measure => omega
    · have HE : Hid (R = vNil) := Lib.hid (by rw [← HC.out,List.drop_eq_nil_of_le (by omega),look_nil])
      clear HC
      go_wp2
      try rw [Exit.noGoto_ret]
      go_ret
      (refine ⟨?_,HB.out⟩; rw [HE.out]; rfl)
set_option maxRecDepth 1000000 in
set_option maxHeartbeats 1000000 in
theorem bad_any (n : Int) (w : World) : Calls Tryz.prog 68 #[.int .i64 n] w fun e w' => e = .returned (boxV (vBad n)) ∧ w' = w := by
  go_enter Tryz.func68,Tryz.ntmps68
  go_wp2
  go_ret
  exact ⟨rfl,rfl⟩
end Go.Proofs.YtfjpdphphieaoaaGreatDoor
namespace Go.Proofs.YtfjpdphphieaoaaGreatDoor
open Go.RowKit Pal
theorem notBad {v : Val} (h : VOk v) (hk : v.k ≠ 4) : ∀ (T : TypeId) (w : World),(Instr.typeAssert (boxV v) T 33 true).run Tryz.prog w = .ok (.tuple #[.agg #[.int .i64 0,.int .i64 0,.string ⟨#[]⟩],.bool false]) w := by
  intro T w
  cases h with
  | nil => rw [boxV_nil]; kernel_rfl
  | int n h => rw [boxV_int]; kernel_rfl
  | bool b => rw [boxV_bool]; kernel_rfl
  | text s h => rw [boxV_text]; kernel_rfl
  | bad n h => exact absurd rfl hk
theorem need_bad {v : Val} (ks : List Int) (h : v.k = 4) : need v ks = .error v := by unfold need; rw [if_pos h]
theorem need_in {v : Val} {ks : List Int} (h : v.k ≠ 4) (g : ks.contains v.k = true) : need v ks = .ok v := by unfold need; rw [if_neg h,if_pos g]
theorem need_out {v : Val} {ks : List Int} (h : v.k ≠ 4) (g : ks.contains v.k = false) : need v ks = .error (vBad 3) := by unfold need; rw [if_neg h,if_neg (by rw [g]; decide)]
set_option maxRecDepth 1000000 in
set_option maxHeartbeats 4000000 in
theorem need_any (k : Ex) (names : List Bs) (vals : List Val) (ks : List Int) (v ksv : Value) (p : Nat) (w : World) (hE : EvP names vals k) (hok : VOk (ev (look names vals) k)) (hW : WithV w p names vals) (hK : KV (gh w) v k.ks) (hI : IntsV (gh w) ksv ks) :
    Calls Tryz.prog 63 #[.pointer (some ⟨p,0,none⟩),exV k.op k.n k.s v,ksv] w (needPost (need (ev (look names vals) k) ks) w) := by
  obtain ⟨a,cap,rfl⟩ := hK.form
  obtain ⟨ia,icap,rfl,hil⟩ := intsV_form hI
  have hb0 := (Below.refl w.heap.size w).alloc (Nat.le_refl _) (.cells #[.int .i64 k.op,.int .i64 k.n,strV k.s,.slice a k.ks.length cap] 28)
  have hev := hE (.slice a k.ks.length cap) _ p (hW.keep hb0) (hK.keep hb0)
  generalize ev (look names vals) k = x at *
  have HEV := Lib.hid hev
  have HB0 := Lib.hid hb0
  have HL := Lib.hid hW.lay
  have HI := Lib.hid hI
  have HOK := Lib.hid hok
  clear hev hb0 hW hI hE hK
  unfold exV strV at *
  by_cases hk : x.k = 4
  · have HN := Lib.hid (need_bad ks hk)
    cases hok with
    | nil => cases hk
    | int n h => cases hk
    | bool b => cases hk
    | text s h => cases hk
    | bad n h =>
      unfold boxPost at HEV
      rw [boxV_bad] at HEV
      have x4 := ta_bad n
      go_enter Tryz.func63,Tryz.ntmps63
      go_wp2_with fail
      refine HEV.out.mono ?_
      rintro e W ⟨rfl,hb⟩
      have hbW := HB0.out.seq hb
      have hbA := fun o => hbW.alloc hbW.size o
      have HBA := Lib.hid hbA
      clear hb hbW hbA
      go_wp2
      go_ret2
      exact ⟨by rw [HN.out]; rfl,HBA.out _⟩
  · have hta := notBad hok hk
    have hkd := fun w hL => kind_any hok w hL
    have HX : Hid (x.k ≠ 4) := Lib.hid hk
    have HKD := Lib.hid hkd
    have hkr : 0 ≤ x.k ∧ x.k ≤ 4 := by cases hok <;> simp [vNil,vInt,vBool,vText,vBad]
    unfold boxPost at HEV
    obtain ⟨bx,hbx⟩ : ∃ bx,boxV x = bx := ⟨_,rfl⟩
    have HBX := Lib.hid hbx
    rw [hbx] at HEV hta HKD
    obtain ⟨xk,hxk⟩ : ∃ xk,x.k = xk := ⟨_,rfl⟩
    have HXK := Lib.hid hxk
    rw [hxk] at HKD hkr
    clear hk hkd hok hbx hxk
    go_enter Tryz.func63,Tryz.ntmps63
    go_wp2_with fail
    refine HEV.out.mono ?_
    rintro e W ⟨rfl,hb⟩
    have hbW := HB0.out.seq hb
    have hbA := hbW.alloc hbW.size (.cells #[.int .i64 0,.int .i64 0,.string ⟨#[]⟩] 33)
    have HBA := Lib.hid hbA
    clear hb hbW hbA
    go_wp2_with fail
    generalize W.alloc _ = WA at *
    refine (HKD.out _ (HL.out.below HBA.out)).mono ?_
    rintro e W2 ⟨rfl,hb2⟩
    have hbB := HBA.out.seq hb2
    have HBB := Lib.hid hbB
    clear hb2 hbB
    go_wp2
    go_loopg [29] ks.length (fun g i wr => ∃ j : Nat,i = .int .i64 j ∧ j + g = ks.length ∧ wr = W2 ∧ Hid ((ks.drop j).contains xk = ks.contains xk))
    case atStart => exact ⟨0,rfl,by omega,rfl,Lib.hid (by rw [List.drop_zero])⟩
    case round =>
      obtain ⟨j,rfl,hg,rfl,HC⟩ := hrel
      have k0 : ¬ ((j : Int) < 0) := by omega
      by_cases hlt : j < ks.length
      · obtain ⟨b,off,rfl,c0⟩ := intsV_at (HI.out.mono (below_gh HBB.out)) (List.getElem?_eq_getElem hlt)
        have hdr : ks.drop j = ks[j] :: ks.drop (j + 1) := List.drop_eq_getElem_cons hlt
        have hcc := HC.out
        rw [hdr,List.contains_cons] at hcc
        generalize ks[j] = y at *
        by_cases hy : xk = y
        · subst hy
          have HT : Hid (ks.contains xk = true) := Lib.hid (by rw [← hcc]; simp)
          clear hcc hdr HC
          go_wp2
          try rw [Exit.noGoto_ret]
          go_ret2
          refine ⟨?_,HBB.out⟩
          rw [need_in HX.out (by rw [HXK.out]; exact HT.out),← HBX.out]
          rfl
        · have q : (xk == y) = false := beq_eq_false_iff_ne.2 hy
          rw [q,Bool.false_or] at hcc
          have HD := Lib.hid hcc
          clear hcc hdr HC hy
          go_wp2
          go_roundg (gk - 1)
          case rel => exact ⟨j + 1,by go_num,by omega,rfl,Lib.hid HD.out⟩
          case measure => omega
      · have HT : Hid (ks.contains xk = false) := Lib.hid (by rw [← HC.out,List.drop_eq_nil_of_le (by omega)]; rfl)
        clear HC
        go_wp2_with fail
        refine (bad_any 3 _).mono ?_
        rintro e W3 ⟨rfl,rfl⟩
        go_wp2
        try rw [Exit.noGoto_ret]
        go_ret2
        refine ⟨?_,HBB.out⟩
        rw [need_out HX.out (by rw [HXK.out]; exact HT.out)]
        rfl
end Go.Proofs.YtfjpdphphieaoaaGreatDoor
namespace Go.Proofs.YtfjpdphphieaoaaGreatDoor
open Go.RowKit Pal
theorem bs_take (s : ByteArray) (p : Nat) (l : Bs) (h : s.data.toList.take p = l) : s.extract 0 p = ⟨l.toArray⟩ := by
  rw [← h,← ext_take]
set_option maxRecDepth 1000000 in
set_option maxHeartbeats 4000000 in
theorem cut_any (s : ByteArray) (n : Int) (w : World) (hn : -9223372036854775808 ≤ n ∧ n ≤ 9223372036854775807) (hm : s.size ≤ 1000000) :
    Calls Tryz.prog 71 #[.string s,.int .i64 n] w (strRet (takeP n.toNat s.data.toList) w) := by
  unfold strRet strV
  by_cases h1 : n < 1
  · have HT : Hid (takeP n.toNat s.data.toList = []) := Lib.hid (by rw [show n.toNat = 0 by omega]; simp [takeP])
    have HB : Hid (Below w.heap.size w w) := Lib.hid (Below.refl _ _)
    go_enter Tryz.func71,Tryz.ntmps71
    go_wp2
    go_ret
    exact ⟨by rw [HT.out]; rfl,HB.out⟩
  · obtain ⟨m,rfl⟩ : ∃ m : Nat,n = m := ⟨n.toNat,by omega⟩
    have hmt : ((m : Int).toNat) = m := by omega
    rw [hmt]
    obtain ⟨R,hR⟩ : ∃ R,takeP m s.data.toList = R := ⟨_,rfl⟩
    rw [hR]
    have HR := Lib.hid hR
    clear hR hmt
    have hn0 : w.alloc (.stringIter s 0) = w.iter s 0 := rfl
    have hbw0 : Below w.heap.size w (w.iter s 0) := (Below.refl _ _).alloc (Nat.le_refl _) (.stringIter s 0)
    go_enter Tryz.func71,Tryz.ntmps71
    go_wp2
    go_loopg [1] s.size (fun g v wr => ∃ (pos j : Nat),v = .int .i64 j ∧ j ≤ m ∧ Below w.heap.size w wr ∧ wr.heap[w.heap.size]? = some (.stringIter s pos) ∧
      Hid (s.data.toList.take pos ++ takeP j (s.data.toList.drop pos) = R) ∧ s.size ≤ pos + g ∧ pos ≤ s.size)
    case atStart => exact ⟨0,m,rfl,Nat.le_refl _,hbw0,World.iter_heap w s 0,Lib.hid (by rw [← HR.out]; simp),by omega,by omega⟩
    case round =>
      obtain ⟨pos,j,rfl,hj,hbw,hit,HC,hg,hp⟩ := hrel
      have hsz : w.heap.size < wr.heap.size := (Array.getElem?_eq_some_iff.1 hit).1
      by_cases hps : pos < s.size
      · have hnx : ∀ ty,(Instr.next (.pointer (some ⟨w.heap.size,0,none⟩)) true ty).run Tryz.prog wr = .ok (.tuple #[.bool true,.int .i64 pos,.int .i32 (dRune s pos)]) (wr.iterAt w.heap.size s (pos + dLen s pos)) := fun ty => Lib.run_next_any_at wr w.heap.size s pos ty hit hps
        have hwd := dLen_pos hps
        have hit2 := Lib.iterAt_heap wr w.heap.size s pos (pos + dLen s pos) hit
        have hb2 : Below w.heap.size w (wr.iterAt w.heap.size s (pos + dLen s pos)) := Lib.below_iterAt hbw (by omega) _ _
        have hdl := dLen_at s pos
        have hll : (s.data.toList.drop pos).length = s.size - pos := by rw [List.length_drop]; rfl
        have hne : s.data.toList.drop pos ≠ [] := fun h => by rw [h] at hll; simp at hll; omega
        have hwl := wd_le hne
        rw [hll,← hdl] at hwl
        have Hne := Lib.hid hne
        have HDL := Lib.hid hdl
        obtain ⟨g,rfl⟩ : ∃ g,gk = g + 1 := ⟨gk - 1,by omega⟩
        clear hne hdl hll hbw hit hsz
        generalize hW : wr.iterAt w.heap.size s (pos + dLen s pos) = W at *
        clear hW
        generalize dLen s pos = z at *
        by_cases h0 : j = 0
        · subst h0
          have HE : Hid (s.data.toList.take pos = R) := Lib.hid (by rw [← HC.out]; simp [takeP])
          have k0 : ¬ ((pos : Int) < 0) := by omega
          have HBB := Lib.hid hb2
          clear HC hb2 hit2 hwl hwd
          go_wp2
          try rw [Exit.noGoto_ret]
          go_ret
          exact ⟨by rw [← bs_take s pos R HE.out]; rfl,HBB.out⟩
        · have q0 : ((j : Int) == 0) = false := beq_eq_false_iff_ne.2 (by omega)
          obtain ⟨i,rfl⟩ : ∃ i,j = i + 1 := ⟨j - 1,by omega⟩
          have HD : Hid (s.data.toList.take (pos + z) ++ takeP i (s.data.toList.drop (pos + z)) = R) := Lib.hid (by
            rw [← HC.out,takeP_go Hne.out,← HDL.out,List.drop_drop,← List.append_assoc,← List.take_add])
          have HBB := Lib.hid hb2
          have HI2 := Lib.hid hit2
          clear HC hb2 hit2
          go_wp2
          go_roundg g
          case rel => exact ⟨pos + z,i,by go_num,by omega,HBB.out,HI2.out,HD,by omega,by omega⟩
          case measure => omega
      · have hnx : ∀ ty,(Instr.next (.pointer (some ⟨w.heap.size,0,none⟩)) true ty).run Tryz.prog wr = _ := fun ty => Lib.run_next_end_at wr w.heap.size s pos ty hit hps
        have hnil : s.data.toList.drop pos = [] := List.drop_eq_nil_of_le (by rw [len_toList]; omega)
        have HE : Hid (s.data.toList = R) := Lib.hid (by
          rw [← HC.out,hnil,takeP_nil,List.append_nil,List.take_of_length_le (by rw [len_toList]; omega)])
        have HBB := Lib.hid hbw
        clear hnil HC hbw hit hsz
        go_wp2
        try rw [Exit.noGoto_ret]
        go_ret
        exact ⟨by rw [← HE.out]; rfl,HBB.out⟩
def rg : List (Int × Int) := [(97,122),(224,246),(248,254),(945,961),(963,969),(1072,1103)]
def uprL : List (Int × Int) → Int → Int
  | [],r => if r = 962 then 931 else r
  | (a,b) :: t,r => if a ≤ r ∧ r ≤ b then r - 32 else uprL t r
theorem und_upper : Tryz.prog.underlying 159 = some (.array 6 112) := by kernel_rfl
theorem upper_ix0 (W : World) : (Instr.index 159 (.agg #[.int .i32 97,.int .i32 122,.int .i32 224,.int .i32 246,.int .i32 248,.int .i32 254,.int .i32 945,.int .i32 961,.int .i32 963,.int .i32 969,.int .i32 1072,.int .i32 1103]) (.int .i64 0)).run Tryz.prog W = .ok (.agg #[.int .i32 97,.int .i32 122]) W := by
  simp only [Instr.index,asIntOf]
  simp [run_underlying und_upper,Tryz.sizeOf112,Tryz.isAgg112,part,Result.andThen]
theorem upper_ix1 (W : World) : (Instr.index 159 (.agg #[.int .i32 97,.int .i32 122,.int .i32 224,.int .i32 246,.int .i32 248,.int .i32 254,.int .i32 945,.int .i32 961,.int .i32 963,.int .i32 969,.int .i32 1072,.int .i32 1103]) (.int .i64 1)).run Tryz.prog W = .ok (.agg #[.int .i32 224,.int .i32 246]) W := by
  simp only [Instr.index,asIntOf]
  simp [run_underlying und_upper,Tryz.sizeOf112,Tryz.isAgg112,part,Result.andThen]
theorem upper_ix2 (W : World) : (Instr.index 159 (.agg #[.int .i32 97,.int .i32 122,.int .i32 224,.int .i32 246,.int .i32 248,.int .i32 254,.int .i32 945,.int .i32 961,.int .i32 963,.int .i32 969,.int .i32 1072,.int .i32 1103]) (.int .i64 2)).run Tryz.prog W = .ok (.agg #[.int .i32 248,.int .i32 254]) W := by
  simp only [Instr.index,asIntOf]
  simp [run_underlying und_upper,Tryz.sizeOf112,Tryz.isAgg112,part,Result.andThen]
theorem upper_ix3 (W : World) : (Instr.index 159 (.agg #[.int .i32 97,.int .i32 122,.int .i32 224,.int .i32 246,.int .i32 248,.int .i32 254,.int .i32 945,.int .i32 961,.int .i32 963,.int .i32 969,.int .i32 1072,.int .i32 1103]) (.int .i64 3)).run Tryz.prog W = .ok (.agg #[.int .i32 945,.int .i32 961]) W := by
  simp only [Instr.index,asIntOf]
  simp [run_underlying und_upper,Tryz.sizeOf112,Tryz.isAgg112,part,Result.andThen]
theorem upper_ix4 (W : World) : (Instr.index 159 (.agg #[.int .i32 97,.int .i32 122,.int .i32 224,.int .i32 246,.int .i32 248,.int .i32 254,.int .i32 945,.int .i32 961,.int .i32 963,.int .i32 969,.int .i32 1072,.int .i32 1103]) (.int .i64 4)).run Tryz.prog W = .ok (.agg #[.int .i32 963,.int .i32 969]) W := by
  simp only [Instr.index,asIntOf]
  simp [run_underlying und_upper,Tryz.sizeOf112,Tryz.isAgg112,part,Result.andThen]
theorem upper_ix5 (W : World) : (Instr.index 159 (.agg #[.int .i32 97,.int .i32 122,.int .i32 224,.int .i32 246,.int .i32 248,.int .i32 254,.int .i32 945,.int .i32 961,.int .i32 963,.int .i32 969,.int .i32 1072,.int .i32 1103]) (.int .i64 5)).run Tryz.prog W = .ok (.agg #[.int .i32 1072,.int .i32 1103]) W := by
  simp only [Instr.index,asIntOf]
  simp [run_underlying und_upper,Tryz.sizeOf112,Tryz.isAgg112,part,Result.andThen]
theorem uprL_upr (r : Int) : uprL rg r = upr r := by
  unfold rg upr
  simp only [uprL]
  repeat' split
  all_goals omega
set_option maxRecDepth 1000000 in
set_option maxHeartbeats 4000000 in
theorem upper_any (r : Int) (w : World) (hr : 0 ≤ r ∧ r ≤ 1114111) : Calls Tryz.prog 107 #[.int .i32 r] w fun e w' => e = .returned (.int .i32 (upr r)) ∧ Below w.heap.size w w' := by
  obtain ⟨R,hR⟩ : ∃ R,uprL rg r = R := ⟨_,rfl⟩
  have HU : Hid (upr r = R) := Lib.hid (by rw [← uprL_upr,hR])
  have HR := Lib.hid hR
  rw [HU.out]
  clear hR HU
  go_enter Tryz.func107,Tryz.ntmps107
  go_wp2
  go_loopg [12] 6 (fun g i wr => ∃ k : Nat,i = .int .i64 k ∧ k + g = 6 ∧ Below w.heap.size w wr ∧ Hid (uprL (rg.drop k) r = R))
  case atStart => exact ⟨0,rfl,rfl,Below.refl _ _,Lib.hid HR.out⟩
  case round =>
    obtain ⟨k,rfl,hg,hbw,HC⟩ := hrel
    have hbA := fun o => hbw.alloc hbw.size o
    have HBA := Lib.hid hbA
    rcases (by omega : k = 0 ∨ k = 1 ∨ k = 2 ∨ k = 3 ∨ k = 4 ∨ k = 5 ∨ k = 6) with rfl | rfl | rfl | rfl | rfl | rfl | rfl
    · have hix := upper_ix0
      have hc : (if 97 ≤ r ∧ r ≤ 122 then r - 32 else uprL (rg.drop 1) r) = R := HC.out
      by_cases h1 : 97 ≤ r
      · by_cases h2 : r ≤ 122
        · rw [if_pos ⟨h1,h2⟩] at hc
          have HE := Lib.hid hc
          clear hc HC hbw hbA
          go_wp2
          try rw [Exit.noGoto_ret]
          go_ret
          exact ⟨by rw [← HE.out]; rfl,HBA.out _⟩
        · rw [if_neg (fun h => h2 h.2)] at hc
          have HE := Lib.hid hc
          clear hc HC hbw hbA
          go_wp2
          go_roundg (gk - 1)
          case rel => exact ⟨1,by go_num,by omega,HBA.out _,Lib.hid HE.out⟩
          case measure => omega
      · rw [if_neg (fun h => h1 h.1)] at hc
        have HE := Lib.hid hc
        clear hc HC hbw hbA
        go_wp2
        go_roundg (gk - 1)
        case rel => exact ⟨1,by go_num,by omega,HBA.out _,Lib.hid HE.out⟩
        case measure => omega
    · have hix := upper_ix1
      have hc : (if 224 ≤ r ∧ r ≤ 246 then r - 32 else uprL (rg.drop 2) r) = R := HC.out
      by_cases h1 : 224 ≤ r
      · by_cases h2 : r ≤ 246
        · rw [if_pos ⟨h1,h2⟩] at hc
          have HE := Lib.hid hc
          clear hc HC hbw hbA
          go_wp2
          try rw [Exit.noGoto_ret]
          go_ret
          exact ⟨by rw [← HE.out]; rfl,HBA.out _⟩
        · rw [if_neg (fun h => h2 h.2)] at hc
          have HE := Lib.hid hc
          clear hc HC hbw hbA
          go_wp2
          go_roundg (gk - 1)
          case rel => exact ⟨2,by go_num,by omega,HBA.out _,Lib.hid HE.out⟩
          case measure => omega
      · rw [if_neg (fun h => h1 h.1)] at hc
        have HE := Lib.hid hc
        clear hc HC hbw hbA
        go_wp2
        go_roundg (gk - 1)
        case rel => exact ⟨2,by go_num,by omega,HBA.out _,Lib.hid HE.out⟩
        case measure => omega
    · have hix := upper_ix2
      have hc : (if 248 ≤ r ∧ r ≤ 254 then r - 32 else uprL (rg.drop 3) r) = R := HC.out
      by_cases h1 : 248 ≤ r
      · by_cases h2 : r ≤ 254
        · rw [if_pos ⟨h1,h2⟩] at hc
          have HE := Lib.hid hc
          clear hc HC hbw hbA
          go_wp2
          try rw [Exit.noGoto_ret]
          go_ret
          exact ⟨by rw [← HE.out]; rfl,HBA.out _⟩
        · rw [if_neg (fun h => h2 h.2)] at hc
          have HE := Lib.hid hc
          clear hc HC hbw hbA
          go_wp2
          go_roundg (gk - 1)
          case rel => exact ⟨3,by go_num,by omega,HBA.out _,Lib.hid HE.out⟩
          case measure => omega
      · rw [if_neg (fun h => h1 h.1)] at hc
        have HE := Lib.hid hc
        clear hc HC hbw hbA
        go_wp2
        go_roundg (gk - 1)
        case rel => exact ⟨3,by go_num,by omega,HBA.out _,Lib.hid HE.out⟩
        case measure => omega
    · have hix := upper_ix3
      have hc : (if 945 ≤ r ∧ r ≤ 961 then r - 32 else uprL (rg.drop 4) r) = R := HC.out
      by_cases h1 : 945 ≤ r
      · by_cases h2 : r ≤ 961
        · rw [if_pos ⟨h1,h2⟩] at hc
          have HE := Lib.hid hc
          clear hc HC hbw hbA
          go_wp2
          try rw [Exit.noGoto_ret]
          go_ret
          exact ⟨by rw [← HE.out]; rfl,HBA.out _⟩
        · rw [if_neg (fun h => h2 h.2)] at hc
          have HE := Lib.hid hc
          clear hc HC hbw hbA
          go_wp2
          go_roundg (gk - 1)
          case rel => exact ⟨4,by go_num,by omega,HBA.out _,Lib.hid HE.out⟩
          case measure => omega
      · rw [if_neg (fun h => h1 h.1)] at hc
        have HE := Lib.hid hc
        clear hc HC hbw hbA
        go_wp2
        go_roundg (gk - 1)
        case rel => exact ⟨4,by go_num,by omega,HBA.out _,Lib.hid HE.out⟩
        case measure => omega
    · have hix := upper_ix4
      have hc : (if 963 ≤ r ∧ r ≤ 969 then r - 32 else uprL (rg.drop 5) r) = R := HC.out
      by_cases h1 : 963 ≤ r
      · by_cases h2 : r ≤ 969
        · rw [if_pos ⟨h1,h2⟩] at hc
          have HE := Lib.hid hc
          clear hc HC hbw hbA
          go_wp2
          try rw [Exit.noGoto_ret]
          go_ret
          exact ⟨by rw [← HE.out]; rfl,HBA.out _⟩
        · rw [if_neg (fun h => h2 h.2)] at hc
          have HE := Lib.hid hc
          clear hc HC hbw hbA
          go_wp2
          go_roundg (gk - 1)
          case rel => exact ⟨5,by go_num,by omega,HBA.out _,Lib.hid HE.out⟩
          case measure => omega
      · rw [if_neg (fun h => h1 h.1)] at hc
        have HE := Lib.hid hc
        clear hc HC hbw hbA
        go_wp2
        go_roundg (gk - 1)
        case rel => exact ⟨5,by go_num,by omega,HBA.out _,Lib.hid HE.out⟩
        case measure => omega
    · have hix := upper_ix5
      have hc : (if 1072 ≤ r ∧ r ≤ 1103 then r - 32 else uprL (rg.drop 6) r) = R := HC.out
      by_cases h1 : 1072 ≤ r
      · by_cases h2 : r ≤ 1103
        · rw [if_pos ⟨h1,h2⟩] at hc
          have HE := Lib.hid hc
          clear hc HC hbw hbA
          go_wp2
          try rw [Exit.noGoto_ret]
          go_ret
          exact ⟨by rw [← HE.out]; rfl,HBA.out _⟩
        · rw [if_neg (fun h => h2 h.2)] at hc
          have HE := Lib.hid hc
          clear hc HC hbw hbA
          go_wp2
          go_roundg (gk - 1)
          case rel => exact ⟨6,by go_num,by omega,HBA.out _,Lib.hid HE.out⟩
          case measure => omega
      · rw [if_neg (fun h => h1 h.1)] at hc
        have HE := Lib.hid hc
        clear hc HC hbw hbA
        go_wp2
        go_roundg (gk - 1)
        case rel => exact ⟨6,by go_num,by omega,HBA.out _,Lib.hid HE.out⟩
        case measure => omega
    · have hc : (if r = 962 then 931 else r) = R := HC.out
      have HB := Lib.hid hbw
      by_cases h1 : r = 962
      · rw [if_pos h1] at hc
        have HE := Lib.hid hc
        subst h1
        clear hc HC hbw hbA
        go_wp2
        try rw [Exit.noGoto_ret]
        go_ret
        exact ⟨by rw [← HE.out]; rfl,HB.out⟩
      · rw [if_neg h1] at hc
        have HE := Lib.hid hc
        have q : (r == 962) = false := beq_eq_false_iff_ne.2 h1
        clear hc HC hbw hbA
        go_wp2
        try rw [Exit.noGoto_ret]
        go_ret
        exact ⟨by rw [← HE.out]; rfl,HB.out⟩
theorem foldF_end (f : Nat) (l : Bs) (h : l = []) : foldF f l = [] := by subst h; cases f <;> simp [foldF]
theorem foldF_go {f : Nat} {l : Bs} (hn : l ≠ []) (hv : val l = true) : foldF (f + 1) l = Lib.encodeRune (upr (rn l)) ++ foldF f (l.drop (wd l)) := by
  have hne : ¬ (rn l = 65533 ∧ wd l = 1) := by
    intro hc
    rw [val_cons hn,if_pos hc] at hv
    cases hv
  rw [foldF,if_neg hn,if_neg hne]
set_option maxRecDepth 1000000 in
set_option maxHeartbeats 4000000 in
theorem fold_any (s : ByteArray) (w : World) (hv : val s.data.toList = true) (hm : s.size ≤ 1000000) (hL : Lay (gh w)) :
    Calls Tryz.prog 70 #[.string s] w (strRet (fold s.data.toList) w) := by
  unfold strRet
  have hI := Lib.IsBuilderF.of (Lib.fresh_isBuilder 136 5 w)
  have hbw0 : Below w.heap.size w (w.alloc (.cells #[.pointer none,.slice none 0 0] 136)) := (Below.refl _ _).alloc (Nat.le_refl _) _
  go_enter Tryz.func70,Tryz.ntmps70
  go_wp2
  have hs0 : (w.alloc (.cells #[.pointer none,.slice none 0 0] 136)).heap.size = w.heap.size + 1 := by simp
  generalize w.alloc (.cells #[.pointer none,.slice none 0 0] 136) = W1 at *
  have hI0 : Lib.IsBuilderF 136 5 w.heap.size w.heap.size (Lib.byteCells []) (W1.iter s 0) := builder_below hI ((Below.refl W1.heap.size W1).alloc (Nat.le_refl _) _)
  have hbw1 : Below w.heap.size w (W1.iter s 0) := hbw0.alloc hbw0.size (.stringIter s 0)
  have hn0 : W1.alloc (.stringIter s 0) = W1.iter s 0 := rfl
  have HL := Lib.hid hL
  have hq : fold s.data.toList = foldF s.size s.data.toList := by unfold fold; rw [len_toList]
  have HQ := Lib.hid hq
  have HV := Lib.hid hv
  have hit0 := World.iter_heap W1 s 0
  rw [hs0] at hit0
  have HIT := Lib.hid hit0
  clear hI hbw0 hL hq hv hs0 hit0
  go_loopg [5] s.size (fun g r wr => ∃ (pos : Nat) (acc : Bs),Lib.IsBuilderF 136 5 w.heap.size w.heap.size (Lib.byteCells acc) wr ∧ Below w.heap.size w wr ∧ wr.heap[(w.heap.size + 1)]? = some (.stringIter s pos) ∧
      Hid (acc ++ foldF g (s.data.toList.drop pos) = fold s.data.toList) ∧ Hid (val (s.data.toList.drop pos) = true) ∧ s.size ≤ pos + g ∧ pos ≤ s.size ∧ acc.length ≤ 4 * pos)
  case atStart => exact ⟨0,[],hI0,hbw1,HIT.out,Lib.hid (by rw [HQ.out]; rfl),Lib.hid HV.out,by omega,by omega,by simp⟩
  case round =>
    obtain ⟨pos,acc,hI,hbw,hit,HR,HVV,hg,hp,hal⟩ := hrel
    have hsz : (w.heap.size + 1) < wr.heap.size := (Array.getElem?_eq_some_iff.1 hit).1
    by_cases hps : pos < s.size
    · have hnx : ∀ ty,(Instr.next (.pointer (some ⟨(w.heap.size + 1),0,none⟩)) true ty).run Tryz.prog wr = .ok (.tuple #[.bool true,.int .i64 pos,.int .i32 (dRune s pos)]) (wr.iterAt (w.heap.size + 1) s (pos + dLen s pos)) := fun ty => Lib.run_next_any_at wr (w.heap.size + 1) s pos ty hit hps
      have hwd := dLen_pos hps
      have hit2 := Lib.iterAt_heap wr (w.heap.size + 1) s pos (pos + dLen s pos) hit
      have hiB : Lib.IsBuilderF 136 5 w.heap.size w.heap.size (Lib.byteCells acc) (wr.iterAt (w.heap.size + 1) s (pos + dLen s pos)) := hI.iterAt hit _
      have hb2 : Below w.heap.size w (wr.iterAt (w.heap.size + 1) s (pos + dLen s pos)) := Lib.below_iterAt hbw (by omega) _ _
      have hlt2 : (w.heap.size + 1) < (wr.iterAt (w.heap.size + 1) s (pos + dLen s pos)).heap.size := by rw [Lib.iterAt_size]; exact hsz
      obtain ⟨g,rfl⟩ : ∃ g,gk = g + 1 := ⟨gk - 1,by omega⟩
      have hll : (s.data.toList.drop pos).length = s.size - pos := by rw [List.length_drop]; rfl
      have hne : s.data.toList.drop pos ≠ [] := fun h => by rw [h] at hll; simp at hll; omega
      have hwl := wd_le hne
      have hdl := dLen_at s pos
      have hdr := dRune_at s pos
      rw [hll,← hdl] at hwl
      have hst := val_step hne HVV.out
      have hq1 := HR.out
      rw [foldF_go hne HVV.out,← hdr,← hdl,List.drop_drop,← List.append_assoc] at hq1
      rw [← hdl,List.drop_drop] at hst
      have hnb : ¬ (dRune s pos = 65533 ∧ dLen s pos = 1) := fun h => by
        have := HVV.out
        rw [val_cons hne,if_pos ⟨by rw [← hdr]; exact h.1,by rw [← hdl]; exact h.2⟩] at this
        cases this
      have HQ1 := Lib.hid hq1
      have HV2 := Lib.hid hst.2.2.1
      have hrr := rn_range (s.data.toList.drop pos)
      rw [← hdr] at hrr
      have hde := decode_any (s.extract pos s.size) (wr.iterAt (w.heap.size + 1) s (pos + dLen s pos)) (by rw [ext_drop]; exact hne) (HL.out.below hb2)
      rw [ext_drop,← hdr,← hdl] at hde
      have HDE := Lib.hid hde
      clear hq1 hst hne hll HR hdl hdr hde HVV
      clear hI hbw hit hsz hI0 hbw1
      generalize hW : wr.iterAt (w.heap.size + 1) s (pos + dLen s pos) = W at *
      generalize dRune s pos = r at *
      generalize dLen s pos = z at *
      clear hW
      have hup := fun w => upper_any r w hrr
      have hur : -2147483648 ≤ upr r ∧ upr r ≤ 2147483647 := by unfold upr; split <;> (try split) <;> omega
      have HUP := Lib.hid hup
      generalize upr r = ur at *
      have hpe : (pos : Int) ≤ (s.size : Int) := by omega
      have hcs : (r = 65533 ∧ (((z : Nat) : Int) == 1) = false) ∨ ((r == 65533) = false) := by
        by_cases h : r = 65533
        · exact .inl ⟨h,beq_eq_false_iff_ne.2 (fun hz => hnb ⟨h,by omega⟩)⟩
        · exact .inr (beq_eq_false_iff_ne.2 h)
      clear hup hnb
      rcases hcs with ⟨rfl,q2⟩ | q1
      all_goals
        go_wp2_with fail
        refine HDE.out.mono ?_
        rintro e W2 ⟨rfl,hb3⟩
        have hb4 := hb2.seq hb3
        have hi2 := builder_below hiB hb3
        have hit3 := (hb3.block _ hlt2).trans hit2
        have hlt3 : (w.heap.size + 1) < W2.heap.size := Nat.lt_of_lt_of_le hlt2 hb3.size
        clear hb2 hb3 hiB hit2 hlt2 HDE
        go_wp2_with fail
        refine (HUP.out _).mono ?_
        rintro e W3 ⟨rfl,hb5⟩
        have hb6 := hb4.seq hb5
        have hi4 := builder_below hi2 hb5
        have hit4 := (hb5.block _ hlt3).trans hit3
        have hs6 := hb6.size
        have hlen := (enc_len ur).2
        have hl2 : (Lib.byteCells acc).length + 4 ≤ 140737488355328 := by rw [Lib.byteCells_length]; omega
        clear hb4 hb5 hi2 hit3 hlt3
        go_wp2_with fail
        refine (writeRune_k w.heap.size w.heap.size _ ur hur.1 hur.2 _ hi4 hl2 hs6).mono ?_
        rintro e W4 ⟨rfl,hi5,hb7,ho7⟩
        have hb8 := hb6.trans hb7
        have hit5 : W4.heap[(w.heap.size + 1)]? = some (.stringIter s (pos + z)) := ho7 _ _ hit4 (by simp) (by intro c fz h; cases h)
        rw [byteCells_snoc] at hi5
        clear hi4 hb6 hb7 ho7 hit4
        go_wp2
        go_roundg g
        case rel => exact ⟨pos + z,acc ++ Lib.encodeRune ur,hi5,hb8,hit5,HQ1,HV2,by omega,by omega,by simp; omega⟩
        case measure => omega
    · have hnx : ∀ ty,(Instr.next (.pointer (some ⟨(w.heap.size + 1),0,none⟩)) true ty).run Tryz.prog wr = _ := fun ty => Lib.run_next_end_at wr (w.heap.size + 1) s pos ty hit hps
      have hnil : s.data.toList.drop pos = [] := List.drop_eq_nil_of_le (by rw [len_toList]; omega)
      have hq := HR.out
      rw [foldF_end _ _ hnil,List.append_nil] at hq
      have HQ2 := Lib.hid hq
      clear hnil hq HR hI0 hbw1 hit
      go_wp2_with fail
      refine (Tryz.Builder_String_any_k _ _ _ _ hI hbw.size).mono ?_
      rintro e W3 ⟨rfl,_,hb5,_⟩
      go_wp2
      go_ret
      refine ⟨?_,hbw.trans hb5⟩
      rw [← HQ2.out]; rfl
end Go.Proofs.YtfjpdphphieaoaaGreatDoor
namespace Go.Proofs.YtfjpdphphieaoaaGreatDoor
open Go.RowKit Pal
theorem mk_list (t : Bs) : (⟨t.toArray⟩ : ByteArray).data.toList = t := by simp
theorem mk_size (t : Bs) : (⟨t.toArray⟩ : ByteArray).size = t.length := by simp [ByteArray.size]
/-- Eval's need of a part that lies in a world ahead. -/
theorem need_kid {k : Ex} {names : List Bs} {vals : List Val} {p : Nat} {w : World} {ua : Option Addr} {uc : Nat} (hE : EvP names vals k) (hok : VOk (ev (look names vals) k)) (hW : WithV w p names vals) (hK : KV (gh w) (.slice ua k.ks.length uc) k.ks) :
    ∀ W,Below w.heap.size w W → ∀ (b : Nat) (T : TypeId) (l : List Int),W.heap[b]? = some (.cells (l.map (Value.int .i64)).toArray T (0,0)) → l.length ≤ 17592186044416 →
    Calls Tryz.prog 63 #[.pointer (some ⟨p,0,none⟩),.agg #[.int .i64 k.op,.int .i64 k.n,.string ⟨k.s.toArray⟩,.slice ua k.ks.length uc],.slice (some ⟨b,0,none⟩) l.length l.length] W (needPost (need (ev (look names vals) k) l) W) := by
  intro W hb b T l hc hl
  exact need_any k names vals l (.slice ua k.ks.length uc) _ p W hE hok (hW.keep hb) (hK.keep hb) (intsV_row l T hc hl)
/-- The cells of the first part, and of the second. -/
theorem KV.at0 {w : World} {a : Option Addr} {n cap : Nat} {k : Ex} {ks : List Ex} (t : KV (gh w) (.slice a n cap) (k :: ks)) :
    ∃ b off ua uc,a = some ⟨b,off,none⟩ ∧ w.cell? ⟨b,off,none⟩ = some (.int .i64 k.op) ∧ w.cell? ⟨b,off + 1,none⟩ = some (.int .i64 k.n) ∧ w.cell? ⟨b,off + 2,none⟩ = some (.string ⟨k.s.toArray⟩) ∧ w.cell? ⟨b,off + 3,none⟩ = some (.slice ua k.ks.length uc) ∧ KV (gh w) (.slice ua k.ks.length uc) k.ks := by
  obtain ⟨b,off,u,ha,c0,c1,c2,c3,hk⟩ := t.at (j := 0) (k := k) rfl
  obtain ⟨ua,uc,rfl⟩ := hk.form
  rw [Nat.zero_mul,Nat.add_zero] at c0 c1 c2 c3
  exact ⟨b,off,ua,uc,ha,c0,c1,c2,c3,hk⟩
theorem KV.at1 {w : World} {b off : Nat} {n cap : Nat} {k0 k : Ex} {ks : List Ex} (t : KV (gh w) (.slice (some ⟨b,off,none⟩) n cap) (k0 :: k :: ks)) :
    ∃ ua uc,w.cell? ⟨b,off + 4,none⟩ = some (.int .i64 k.op) ∧ w.cell? ⟨b,off + 4 + 1,none⟩ = some (.int .i64 k.n) ∧ w.cell? ⟨b,off + 4 + 2,none⟩ = some (.string ⟨k.s.toArray⟩) ∧ w.cell? ⟨b,off + 4 + 3,none⟩ = some (.slice ua k.ks.length uc) ∧ KV (gh w) (.slice ua k.ks.length uc) k.ks := by
  obtain ⟨b',off',u,ha,c0,c1,c2,c3,hk⟩ := t.at (j := 1) (k := k) rfl
  simp only [Option.some.injEq,Addr.mk.injEq,and_true] at ha
  obtain ⟨rfl,rfl⟩ := ha
  obtain ⟨ua,uc,rfl⟩ := hk.form
  rw [Nat.one_mul] at c0 c1 c2 c3
  exact ⟨ua,uc,c0,c1,c2,c3,hk⟩
theorem textM_err {op : Int} {a b u : Val} (h : need a [3] = .error u) : textM op a b = u := by unfold textM; rw [h]
theorem textM_ok' {op : Int} {a b : Val} (h : need a [3] = .ok a) : textM op a b = if op = 19 then vInt (cnt a.s)
    else if op = 23 then longM (fold a.s)
    else if op = 21 then (match need b [1] with | .error v => v | .ok b => longM (takeP b.n.toNat a.s))
    else (match need b [3] with | .error v => v | .ok b => longM (a.s ++ b.s)) := by unfold textM; rw [h]; rfl
set_option maxRecDepth 1000000 in
set_option maxHeartbeats 8000000 in
theorem text1_any (names : List Bs) (vals : List Val) (op n : Int) (s : Bs) (k : Ex) (v : Value) (p : Nat) (w : World) (ho : op = 19 ∨ op = 23)
    (hE : EvP names vals k) (hok : VOk (ev (look names vals) k)) (hW : WithV w p names vals) (hK : KV (gh w) v [k]) :
    Calls Tryz.prog 38 #[.pointer (some ⟨p,0,none⟩),exV op n s v] w (boxPost (textM op (ev (look names vals) k) vNil) w) := by
  obtain ⟨a,cap,rfl⟩ := hK.form
  have hcap := hK.cap
  obtain ⟨b,off,ua,uc,rfl,c0,c1,c2,c3,hKu⟩ := hK.at0
  have hnd := need_kid hE hok hW hKu
  generalize ev (look names vals) k = x at *
  have HN := Lib.hid hnd
  have HL := Lib.hid hW.lay
  have hbl := World.block_lt_of_cell? w _ c0
  have hb0 := (((Below.refl w.heap.size w).alloc (Nat.le_refl _) (.cells #[.int .i64 op,.int .i64 n,.string ⟨s.toArray⟩,.slice (some ⟨b,off,none⟩) 1 cap] 28)).alloc (by simp) (.cells #[.int .i64 3] 3))
  have he0 : ((w.alloc (.cells #[.int .i64 op,.int .i64 n,.string ⟨s.toArray⟩,.slice (some ⟨b,off,none⟩) 1 cap] 28)).alloc (.cells #[.int .i64 3] 3)).heap[w.heap.size]? = some (.cells #[.int .i64 op,.int .i64 n,.string ⟨s.toArray⟩,.slice (some ⟨b,off,none⟩) 1 cap] 28 (0,0)) := by
    rw [Lib.alloc_old _ _ _ (by simp)]; exact heap_alloc_new w _
  have hi0 : ((w.alloc (.cells #[.int .i64 op,.int .i64 n,.string ⟨s.toArray⟩,.slice (some ⟨b,off,none⟩) 1 cap] 28)).alloc (.cells #[.int .i64 3] 3)).heap[w.heap.size + 1]? = some (.cells (([3] : List Int).map (Value.int .i64)).toArray 3 (0,0)) := by
    have := heap_alloc_new (w.alloc (.cells #[.int .i64 op,.int .i64 n,.string ⟨s.toArray⟩,.slice (some ⟨b,off,none⟩) 1 cap] 28)) (.cells #[.int .i64 3] 3)
    simpa using this
  have HN3 := Lib.hid (hnd _ hb0 _ _ _ hi0 (by simp))
  have HB0 := Lib.hid hb0
  have HE0 := Lib.hid he0
  have HOK := Lib.hid hok
  clear hnd hE hW hK hKu hb0 he0 hi0 hok
  simp only [List.length_singleton] at *
  unfold exV strV
  go_enter Tryz.func38,Tryz.ntmps38
  go_wp2_with fail
  refine HN3.out.mono ?_
  rintro e W1 ⟨rfl,hb1⟩
  have hb2 := HB0.out.seq hb1
  have he1 := (hb1.block _ (by simp; omega)).trans HE0.out
  have hL1 := HL.out.below hb2
  have HB2 := Lib.hid hb2
  clear hb1 hb2 HB0 HE0 HN3 HN c0 c1 c2 c3
  rcases need_ok HOK.out [3] with ⟨u,hu,hvu⟩ | ⟨hu,hk1⟩
  · have HE : Hid (textM op x vNil = u) := Lib.hid (textM_err hu)
    rw [hu]
    clear hu
    unfold needV needB
    go_wp2
    try rw [Exit.noGoto_ret]
    go_ret
    exact ⟨by rw [HE.out]; rfl,HB2.out⟩
  · obtain ⟨d0,-⟩ := (four_all he1).1
    have HM := Lib.hid (textM_ok' (op := op) (b := vNil) hu)
    obtain ⟨tt,rfl,htt⟩ := HOK.out.k3 (by simpa using hk1)
    rw [hu]
    clear hu hk1
    unfold needV needB
    simp only [boxV_text]
    have htx := text_any tt W1 htt hL1
    obtain ⟨t1,t2,t3⟩ := textOk_iff htt
    have HT3 := Lib.hid t2
    have HTX := Lib.hid htx
    have HHL := Lib.hid hL1
    clear htx htt hL1
    unfold strRet strV at HTX
    unfold strV
    go_wp2_with fail
    refine HTX.out.mono ?_
    rintro e W2 ⟨rfl,hb3⟩
    have hb4 := HB2.out.seq hb3
    have hlt : w.heap.size < W1.heap.size := World.block_lt_of_cell? W1 _ d0
    have d1 : W2.cell? ⟨w.heap.size,0,none⟩ = some (.int .i64 op) := (hb3.cell (p := ⟨w.heap.size,0,none⟩) hlt).trans d0
    have hL2 := HHL.out.below hb3
    clear d0 hlt hb3 HB2 HTX he1 HHL
    rcases ho with rfl | rfl
    · have HG : Hid (textM 19 (vText tt) vNil = vInt (cnt tt)) := Lib.hid (by rw [HM.out]; rfl)
      have hc := runesCount_any ⟨tt.toArray⟩ W2 (by rw [mk_size]; omega)
      rw [mk_list] at hc
      have HC := Lib.hid hc
      clear hc
      go_wp2_with fail
      refine HC.out.mono ?_
      rintro e W3 ⟨rfl,hb5⟩
      have hb6 := hb4.seq hb5
      clear hb4 hb5
      go_wp2
      try rw [Exit.noGoto_ret]
      go_ret
      exact ⟨by rw [HG.out]; rfl,hb6⟩
    · have HG : Hid (textM 23 (vText tt) vNil = longM (fold tt)) := Lib.hid (by rw [HM.out]; rfl)
      have hf := fold_any ⟨tt.toArray⟩ W2 (by rw [mk_list]; exact HT3.out) (by rw [mk_size]; omega) hL2
      rw [mk_list] at hf
      unfold strRet strV at hf
      have hfl := fold_law tt.length tt (Nat.le_refl _) HT3.out
      have hfe : foldF tt.length tt = fold tt := rfl
      rw [hfe] at hfl
      have hln := len_cnt _ (fold tt) (Nat.le_refl _)
      generalize fold tt = ft at *
      have hcc := fun W => runesCount_any ⟨ft.toArray⟩ W (by rw [mk_size]; omega)
      simp only [mk_list] at hcc
      have HF := Lib.hid hf
      have HC := Lib.hid hcc
      clear hf hcc hln hfe
      go_wp2_with fail
      refine HF.out.mono ?_
      rintro e W3 ⟨rfl,hb5⟩
      have hb6 := hb4.seq hb5
      clear hb4 hb5 HF
      go_wp2_with fail
      refine (HC.out _).mono ?_
      rintro e W4 ⟨rfl,hb7⟩
      have hb8 := hb6.seq hb7
      clear hb6 hb7 HC
      have hng : ¬ 100 < cnt ft := by omega
      have HG2 : Hid (longM ft = vText ft) := Lib.hid (by unfold longM; rw [if_neg hng])
      have q : decide ((100 : Int) < (cnt ft : Int)) = false := decide_eq_false (by omega)
      clear hfl
      generalize cnt ft = cf at *
      go_wp2
      try rw [Exit.noGoto_ret]
      go_ret
      exact ⟨by rw [HG.out,HG2.out]; rfl,hb8⟩
end Go.Proofs.YtfjpdphphieaoaaGreatDoor
