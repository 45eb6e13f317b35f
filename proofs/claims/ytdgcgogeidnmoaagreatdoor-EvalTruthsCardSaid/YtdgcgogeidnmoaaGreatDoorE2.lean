/- The walks of value.Unbox, Kind, Int, Bool, Text, Box. Conditions: the value may be; the tables hold what they are laid with. -/
import Derived.Test.YtdgcgogeidnmoaaGreatDoorE1
import Derived.Defers
import Derived.Recover
set_option linter.unusedSimpArgs false
set_option linter.unusedVariables false
set_option linter.unusedSectionVars false
namespace Go.Proofs.YtdgcgogeidnmoaaGreatDoor
open Go.RowKit Pal
theorem ta_int (n : Int) : ∀ (T : TypeId) (w : World), (Instr.typeAssert (.iface 2 (.int .i64 n)) T 2 true).run Tryz.prog w = .ok (.tuple #[.int .i64 n, .bool true]) w := fun _ _ => by kernel_rfl
theorem tb_int (n : Int) : ∀ (T : TypeId) (w : World), (Instr.typeAssert (.iface 2 (.int .i64 n)) T 2 false).run Tryz.prog w = .ok (.int .i64 n) w := fun _ _ => by kernel_rfl
theorem tn_int_b (n : Int) : ∀ (T : TypeId) (w : World), (Instr.typeAssert (.iface 2 (.int .i64 n)) T 4 true).run Tryz.prog w = .ok (.tuple #[.bool false, .bool false]) w := fun _ _ => by kernel_rfl
theorem tn_int_s (n : Int) : ∀ (T : TypeId) (w : World), (Instr.typeAssert (.iface 2 (.int .i64 n)) T 9 true).run Tryz.prog w = .ok (.tuple #[.string ⟨#[]⟩, .bool false]) w := fun _ _ => by kernel_rfl
theorem tn_int_v (n : Int) : ∀ (T : TypeId) (w : World), (Instr.typeAssert (.iface 2 (.int .i64 n)) T 47 true).run Tryz.prog w = .ok (.tuple #[.agg #[.int .i64 0, .int .i64 0, .string ⟨#[]⟩], .bool false]) w := fun _ _ => by kernel_rfl
theorem ta_bool (b : Bool) : ∀ (T : TypeId) (w : World), (Instr.typeAssert (.iface 4 (.bool b)) T 4 true).run Tryz.prog w = .ok (.tuple #[.bool b, .bool true]) w := fun _ _ => by kernel_rfl
theorem tb_bool (b : Bool) : ∀ (T : TypeId) (w : World), (Instr.typeAssert (.iface 4 (.bool b)) T 4 false).run Tryz.prog w = .ok (.bool b) w := fun _ _ => by kernel_rfl
theorem tn_bool_i (b : Bool) : ∀ (T : TypeId) (w : World), (Instr.typeAssert (.iface 4 (.bool b)) T 2 true).run Tryz.prog w = .ok (.tuple #[.int .i64 0, .bool false]) w := fun _ _ => by kernel_rfl
theorem tn_bool_s (b : Bool) : ∀ (T : TypeId) (w : World), (Instr.typeAssert (.iface 4 (.bool b)) T 9 true).run Tryz.prog w = .ok (.tuple #[.string ⟨#[]⟩, .bool false]) w := fun _ _ => by kernel_rfl
theorem tn_bool_v (b : Bool) : ∀ (T : TypeId) (w : World), (Instr.typeAssert (.iface 4 (.bool b)) T 47 true).run Tryz.prog w = .ok (.tuple #[.agg #[.int .i64 0, .int .i64 0, .string ⟨#[]⟩], .bool false]) w := fun _ _ => by kernel_rfl
theorem ta_text (s : Bs) : ∀ (T : TypeId) (w : World), (Instr.typeAssert (.iface 9 (.string ⟨s.toArray⟩)) T 9 true).run Tryz.prog w = .ok (.tuple #[.string ⟨s.toArray⟩, .bool true]) w := fun _ _ => by kernel_rfl
theorem tb_text (s : Bs) : ∀ (T : TypeId) (w : World), (Instr.typeAssert (.iface 9 (.string ⟨s.toArray⟩)) T 9 false).run Tryz.prog w = .ok (.string ⟨s.toArray⟩) w := fun _ _ => by kernel_rfl
theorem tn_text_i (s : Bs) : ∀ (T : TypeId) (w : World), (Instr.typeAssert (.iface 9 (.string ⟨s.toArray⟩)) T 2 true).run Tryz.prog w = .ok (.tuple #[.int .i64 0, .bool false]) w := fun _ _ => by kernel_rfl
theorem tn_text_b (s : Bs) : ∀ (T : TypeId) (w : World), (Instr.typeAssert (.iface 9 (.string ⟨s.toArray⟩)) T 4 true).run Tryz.prog w = .ok (.tuple #[.bool false, .bool false]) w := fun _ _ => by kernel_rfl
theorem tn_text_v (s : Bs) : ∀ (T : TypeId) (w : World), (Instr.typeAssert (.iface 9 (.string ⟨s.toArray⟩)) T 47 true).run Tryz.prog w = .ok (.tuple #[.agg #[.int .i64 0, .int .i64 0, .string ⟨#[]⟩], .bool false]) w := fun _ _ => by kernel_rfl
theorem ta_bad (n : Int) : ∀ (T : TypeId) (w : World), (Instr.typeAssert (.iface 47 (.agg #[.int .i64 4, .int .i64 n, .string ⟨#[]⟩])) T 47 true).run Tryz.prog w = .ok (.tuple #[.agg #[.int .i64 4, .int .i64 n, .string ⟨#[]⟩], .bool true]) w := fun _ _ => by kernel_rfl
theorem tn_bad_i (n : Int) : ∀ (T : TypeId) (w : World), (Instr.typeAssert (.iface 47 (.agg #[.int .i64 4, .int .i64 n, .string ⟨#[]⟩])) T 2 true).run Tryz.prog w = .ok (.tuple #[.int .i64 0, .bool false]) w := fun _ _ => by kernel_rfl
theorem tn_bad_b (n : Int) : ∀ (T : TypeId) (w : World), (Instr.typeAssert (.iface 47 (.agg #[.int .i64 4, .int .i64 n, .string ⟨#[]⟩])) T 4 true).run Tryz.prog w = .ok (.tuple #[.bool false, .bool false]) w := fun _ _ => by kernel_rfl
theorem tn_bad_s (n : Int) : ∀ (T : TypeId) (w : World), (Instr.typeAssert (.iface 47 (.agg #[.int .i64 4, .int .i64 n, .string ⟨#[]⟩])) T 9 true).run Tryz.prog w = .ok (.tuple #[.string ⟨#[]⟩, .bool false]) w := fun _ _ => by kernel_rfl
def unboxPost (v : Val) (w : World) (e : Ending) (w' : World) : Prop := e = .returned (.tuple #[valV v, .bool true]) ∧ Below w.heap.size w w'
set_option maxRecDepth 1000000 in
set_option maxHeartbeats 2000000 in
theorem unbox_nil (w : World) : Calls Tryz.prog 65 #[.nilIface] w (unboxPost vNil w) := by
  have hz := heap_alloc_new w (.cells #[.int .i64 0, .int .i64 0, .string ⟨#[]⟩] 47)
  have hb : Below w.heap.size w (w.alloc (.cells #[.int .i64 0, .int .i64 0, .string ⟨#[]⟩] 47)) := (Below.refl _ _).alloc (Nat.le_refl _) _
  have HZ := Lib.hid hz
  have HB := Lib.hid hb
  clear hz hb
  go_enter Tryz.func65, Tryz.ntmps65
  go_wp2
  have hh := three_all (heap_alloc_new w (.cells #[.int .i64 0, .int .i64 0, .string ⟨#[]⟩] 47))
  refine bodyPost_ret (v := .tuple #[valV vNil, .bool true]) (by simp [results, Tryz.results65, go_sem, valV, strV, vNil, vInt, vBool, vText, vBad, hh.1]) rfl ⟨rfl, (Below.refl _ _).alloc (Nat.le_refl _) _⟩
set_option maxRecDepth 1000000 in
set_option maxHeartbeats 2000000 in
theorem unbox_int (n : Int) (w : World) : Calls Tryz.prog 65 #[.iface 2 (.int .i64 n)] w (unboxPost (vInt n) w) := by
  have hz := heap_alloc_new w (.cells #[.int .i64 0, .int .i64 0, .string ⟨#[]⟩] 47)
  have hb : Below w.heap.size w (w.alloc (.cells #[.int .i64 0, .int .i64 0, .string ⟨#[]⟩] 47)) := (Below.refl _ _).alloc (Nat.le_refl _) _
  have HZ := Lib.hid hz
  have HB := Lib.hid hb
  clear hz hb
  have x1 := ta_int n
  go_enter Tryz.func65, Tryz.ntmps65
  go_wp2
  have hh := three_all (heap_alloc_new w (.cells #[.int .i64 1, .int .i64 n, .string ⟨#[]⟩] 47))
  refine bodyPost_ret (v := .tuple #[valV (vInt n), .bool true]) (by simp [results, Tryz.results65, go_sem, valV, strV, vNil, vInt, vBool, vText, vBad, hh.1]) rfl ⟨rfl, (Below.refl _ _).alloc (Nat.le_refl _) _⟩
set_option maxRecDepth 1000000 in
set_option maxHeartbeats 2000000 in
theorem unbox_bool (b : Bool) (w : World) : Calls Tryz.prog 65 #[.iface 4 (.bool b)] w (unboxPost (vBool b) w) := by
  have hz := heap_alloc_new w (.cells #[.int .i64 0, .int .i64 0, .string ⟨#[]⟩] 47)
  have hb : Below w.heap.size w (w.alloc (.cells #[.int .i64 0, .int .i64 0, .string ⟨#[]⟩] 47)) := (Below.refl _ _).alloc (Nat.le_refl _) _
  have HZ := Lib.hid hz
  have HB := Lib.hid hb
  clear hz hb
  have x1 := tn_bool_i
  have x2 := ta_bool
  cases b
  · go_enter Tryz.func65, Tryz.ntmps65
    go_wp2
    have hh := three_all ((Lib.alloc_old _ (.cells #[.int .i64 2, .int .i64 0, .string ⟨#[]⟩] 47) _ (by simp)).trans (heap_alloc_new w (.cells #[.int .i64 2, .int .i64 0, .string ⟨#[]⟩] 47)))
    refine bodyPost_ret (v := .tuple #[valV (vBool false), .bool true]) (by simp [results, Tryz.results65, go_sem, valV, strV, vNil, vInt, vBool, vText, vBad, hh.1]) rfl ⟨rfl, ((Below.refl _ _).alloc (Nat.le_refl _) _).alloc (by simp) _⟩
  · go_enter Tryz.func65, Tryz.ntmps65
    go_wp2
    have hh := three_all ((Lib.alloc_old _ (.cells #[.int .i64 2, .int .i64 1, .string ⟨#[]⟩] 47) _ (by simp)).trans (heap_alloc_new w (.cells #[.int .i64 2, .int .i64 1, .string ⟨#[]⟩] 47)))
    refine bodyPost_ret (v := .tuple #[valV (vBool true), .bool true]) (by simp [results, Tryz.results65, go_sem, valV, strV, vNil, vInt, vBool, vText, vBad, hh.1]) rfl ⟨rfl, ((Below.refl _ _).alloc (Nat.le_refl _) _).alloc (by simp) _⟩
set_option maxRecDepth 1000000 in
set_option maxHeartbeats 2000000 in
theorem unbox_text (s : Bs) (w : World) (h : textOk s = true) (hL : Lay (gh w)) : Calls Tryz.prog 65 #[.iface 9 (strV s)] w (unboxPost (vText s) w) := by
  have hz := heap_alloc_new w (.cells #[.int .i64 0, .int .i64 0, .string ⟨#[]⟩] 47)
  have hb : Below w.heap.size w (w.alloc (.cells #[.int .i64 0, .int .i64 0, .string ⟨#[]⟩] 47)) := (Below.refl _ _).alloc (Nat.le_refl _) _
  have HZ := Lib.hid hz
  have HB := Lib.hid hb
  have hv := valueText_any s _ (by have := (textOk_iff h).1; omega) (hL.below hb)
  rw [h] at hv
  have HV := Lib.hid hv
  clear hv h hz hb
  unfold strV at *
  have x1 := tn_text_i s
  have x2 := tn_text_b s
  have x3 := ta_text s
  go_enter Tryz.func65, Tryz.ntmps65
  go_wp2_with fail
  refine HV.out.mono ?_
  rintro e W ⟨rfl, hb⟩
  have hzW := (hb.block _ (by simp)).trans HZ.out
  have hbW := HB.out.seq hb
  obtain ⟨⟨c0, c1, c2⟩, f0, f1, f2⟩ := three_all hzW
  have HZW := Lib.hid hzW
  have HBW := Lib.hid hbW
  clear hb hzW hbW
  go_wp2
  have hh := three_all (set3_heap HZW.out (.int .i64 3) (.int .i64 0) (.string ⟨s.toArray⟩))
  refine bodyPost_ret (v := .tuple #[valV (vText s), .bool true]) (by simp [results, Tryz.results65, go_sem, valV, strV, vNil, vInt, vBool, vText, vBad, hh.1]) rfl ⟨rfl, below_set3 HBW.out (Nat.le_refl _) _ _ _⟩
set_option maxRecDepth 1000000 in
set_option maxHeartbeats 2000000 in
theorem unbox_bad (n : Int) (w : World) (h : 1 ≤ n ∧ n ≤ 4) (hL : Lay (gh w)) : Calls Tryz.prog 65 #[.iface 47 (.agg #[.int .i64 4, .int .i64 n, .string ⟨#[]⟩])] w (unboxPost (vBad n) w) := by
  have hz := heap_alloc_new w (.cells #[.int .i64 0, .int .i64 0, .string ⟨#[]⟩] 47)
  have hb : Below w.heap.size w (w.alloc (.cells #[.int .i64 0, .int .i64 0, .string ⟨#[]⟩] 47)) := (Below.refl _ _).alloc (Nat.le_refl _) _
  have HZ := Lib.hid hz
  have HB := Lib.hid hb
  have hb2 := hb.alloc hb.size (.cells #[.int .i64 4, .int .i64 n, .string ⟨#[]⟩] 47)
  have hv := valueCheck_any 4 n [] _ (by simp) (hL.below hb2)
  have hk : okV ⟨4, n, []⟩ = true := (VOk.bad n h).ok
  simp only [hk] at hv
  unfold strV at hv
  have HV := Lib.hid hv
  have HB2 := Lib.hid hb2
  have hz2 : ((w.alloc (.cells #[.int .i64 0, .int .i64 0, .string ⟨#[]⟩] 47)).alloc (.cells #[.int .i64 4, .int .i64 n, .string ⟨#[]⟩] 47)).heap[w.heap.size + 1]? = some (.cells #[.int .i64 4, .int .i64 n, .string ⟨#[]⟩] 47 (0, 0)) := by
    have := heap_alloc_new (w.alloc (.cells #[.int .i64 0, .int .i64 0, .string ⟨#[]⟩] 47)) (.cells #[.int .i64 4, .int .i64 n, .string ⟨#[]⟩] 47)
    simpa using this
  have HZ2 := Lib.hid hz2
  clear hv h hk hL hb2 hz hb hz2
  have x1 := tn_bad_i n
  have x2 := tn_bad_b n
  have x3 := tn_bad_s n
  have x4 := ta_bad n
  go_enter Tryz.func65, Tryz.ntmps65
  go_wp2_with fail
  refine HV.out.mono ?_
  rintro e W ⟨rfl, hb⟩
  have hzW := (hb.block _ (by simp; omega)).trans ((Lib.alloc_old _ _ _ (by simp)).trans HZ.out)
  have hzX := (hb.block _ (by simp)).trans HZ2.out
  have hbW := HB2.out.seq hb
  obtain ⟨⟨c0, c1, c2⟩, f0, f1, f2⟩ := three_all hzW
  obtain ⟨⟨d0, d1, d2⟩, g0, g1, g2⟩ := three_all hzX
  have HZW := Lib.hid hzW
  have HBW := Lib.hid hbW
  clear hb hzW hbW hzX HV HB2 HZ2 HZ HB
  go_wp2
  have hh := three_all (set3_heap HZW.out (.int .i64 4) (.int .i64 n) (.string ⟨#[]⟩))
  refine bodyPost_ret (v := .tuple #[valV (vBad n), .bool true]) (by simp [results, Tryz.results65, go_sem, valV, strV, vNil, vInt, vBool, vText, vBad, hh.1]) rfl ⟨rfl, below_set3 HBW.out (Nat.le_refl _) _ _ _⟩
theorem unbox_any {v : Val} (hv : VOk v) (w : World) (hL : Lay (gh w)) : Calls Tryz.prog 65 #[boxV v] w (unboxPost v w) := by
  cases hv with
  | nil => exact unbox_nil w
  | int n h => exact unbox_int n w
  | bool b => rw [boxV_bool]; exact unbox_bool b w
  | text s h => exact unbox_text s w h hL
  | bad n h => exact unbox_bad n w h hL
set_option maxRecDepth 1000000 in
set_option maxHeartbeats 1000000 in
theorem kind_any {v : Val} (hv : VOk v) (w : World) (hL : Lay (gh w)) : Calls Tryz.prog 152 #[boxV v] w fun e w' => e = .returned (.int .i64 v.k) ∧ Below w.heap.size w w' := by
  have HU := Lib.hid (unbox_any hv w hL)
  unfold unboxPost valV strV at HU
  clear hv hL
  generalize boxV v = x at *
  go_enter Tryz.func152, Tryz.ntmps152
  go_wp2_with fail
  refine HU.out.mono ?_
  rintro e W ⟨rfl, hb⟩
  have hb2 := fun o => hb.alloc hb.size o
  go_wp2
  go_ret
  exact ⟨rfl, by first | exact hb | exact hb2 _⟩
/-- What is deferred: nothing, where nothing panics. -/
theorem wrong_idle (x y : Value) (w : World) :
    CallsD Tryz.prog 193 #[x, y] .returning w fun e u' w' => e = .returned (.tuple #[]) ∧ u' = .returning ∧ w' = w := by
  refine callsD_of_wpS Tryz.func193 rfl fun c₀ cs hu => ?_
  apply wpS_seq
  apply wpS_region
  simp [wpOpsS, go_sem, recoverD, hu, Tryz.ntmps193, Exit.thenS]
  refine wpS_of_wp ?_
  go_wp2
  cases c₀
  simp_all [bodyPostS, results, Tryz.results193]
set_option maxRecDepth 1000000 in
set_option maxHeartbeats 1000000 in
theorem int_any (n : Int) (w : World) : Calls Tryz.prog 143 #[.iface 2 (.int .i64 n)] w fun e w' => e = .returned (.int .i64 n) ∧ w' = w := by
  have x1 := tb_int n
  go_enter_defers Tryz.func143, Tryz.ntmps143
  go_wp2
  refine leaves_cons (f := 193) (args := #[.int .i64 1, .iface 2 (.int .i64 n)]) (by simp) (by simp [go_sem]) ?_
  refine (wrong_idle _ _ _).mono ?_
  rintro e u' w'' ⟨rfl, rfl, rfl⟩
  exact ⟨_, results_tmp rfl _ _ _, rfl, rfl⟩
set_option maxRecDepth 1000000 in
set_option maxHeartbeats 1000000 in
theorem bool_any (b : Bool) (w : World) : Calls Tryz.prog 153 #[.iface 4 (.bool b)] w fun e w' => e = .returned (.bool b) ∧ w' = w := by
  have x1 := tb_bool b
  go_enter_defers Tryz.func153, Tryz.ntmps153
  go_wp2
  refine leaves_cons (f := 193) (args := #[.int .i64 2, .iface 4 (.bool b)]) (by simp) (by simp [go_sem]) ?_
  refine (wrong_idle _ _ _).mono ?_
  rintro e u' w'' ⟨rfl, rfl, rfl⟩
  exact ⟨_, results_tmp rfl _ _ _, rfl, rfl⟩
set_option maxRecDepth 1000000 in
set_option maxHeartbeats 1000000 in
theorem text_any (s : Bs) (w : World) (h : textOk s = true) (hL : Lay (gh w)) : Calls Tryz.prog 148 #[.iface 9 (strV s)] w (strRet s w) := by
  have hv := valueText_any s w (by have := (textOk_iff h).1; omega) hL
  rw [h] at hv
  have HV := Lib.hid hv
  clear hv h
  unfold strV at HV
  unfold strRet strV
  have x1 := tb_text s
  go_enter_defers Tryz.func148, Tryz.ntmps148
  go_wp2_with fail
  refine HV.out.mono ?_
  rintro e W ⟨rfl, hb⟩
  go_wp2
  refine leaves_cons (f := 193) (args := #[.int .i64 3, .iface 9 (.string ⟨s.toArray⟩)]) (by simp) (by simp [go_sem]) ?_
  refine (wrong_idle _ _ _).mono ?_
  rintro e u' w'' ⟨rfl, rfl, rfl⟩
  exact ⟨_, results_tmp rfl _ _ _, rfl, hb⟩
end Go.Proofs.YtdgcgogeidnmoaaGreatDoor
