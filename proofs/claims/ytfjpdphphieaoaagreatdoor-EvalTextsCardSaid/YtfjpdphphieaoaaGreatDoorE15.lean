/- The walk of eval's eval, by induction; of eval.Eval. Conditions: the names' values are no longer than any may be; the tables hold what they are laid with. The walk of eval.Eval: it comes to what the plain law says. Conditions: the expression's texts, the values' texts are no longer than any may be; the tables hold what they are laid with. The walks of palaverlaw09.awake, truth, two. Conditions: the tables hold what they are laid with; both numbers are an int64's. -/
import Derived.Test.YtfjpdphphieaoaaGreatDoorED
import Derived.Test.YtfjpdphphieaoaaGreatDoorEC
import Derived.Test.YtfjpdphphieaoaaGreatDoorG9
set_option linter.unusedSectionVars false
set_option linter.unusedSimpArgs false
set_option linter.unusedVariables false
namespace Go.Proofs.YtfjpdphphieaoaaGreatDoor
open Go.RowKit Pal
set_option maxRecDepth 1000000 in
set_option maxHeartbeats 8000000 in
theorem eval_num (op n : Int) (s : Bs) (a : Option Addr) (len cap : Nat) (p : Nat) (w : World) (R : Val) (h : op = 5 ∨ op = 7 ∨ op = 8 ∨ op = 9 ∨ op = 10 ∨ op = 11)
    (hc : Calls Tryz.prog 37 #[.pointer (some ⟨p,0,none⟩),exV op n s (.slice a len cap)] (w.alloc (.cells #[.int .i64 op,.int .i64 n,.string ⟨s.toArray⟩,.slice a len cap] 28)) (boxPost R (w.alloc (.cells #[.int .i64 op,.int .i64 n,.string ⟨s.toArray⟩,.slice a len cap] 28)))) :
    Calls Tryz.prog 19 #[.pointer (some ⟨p,0,none⟩),exV op n s (.slice a len cap)] w (boxPost R w) := by
  have hb0 := (Below.refl w.heap.size w).alloc (Nat.le_refl _) (.cells #[.int .i64 op,.int .i64 n,.string ⟨s.toArray⟩,.slice a len cap] 28)
  have HC := Lib.hid hc
  have HB := Lib.hid hb0
  clear hc hb0
  unfold exV strV at *
  rcases h with rfl | rfl | rfl | rfl | rfl | rfl
  all_goals
    go_enter Tryz.func19,Tryz.ntmps19
    go_wp2_with fail
    refine HC.out.mono ?_
    rintro e W ⟨rfl,hb⟩
    have hb2 := HB.out.seq hb
    go_wp2
    go_ret
    exact ⟨rfl,hb2⟩
set_option maxRecDepth 1000000 in
set_option maxHeartbeats 8000000 in
theorem eval_text (op n : Int) (s : Bs) (a : Option Addr) (len cap : Nat) (p : Nat) (w : World) (R : Val) (h : op = 19 ∨ op = 20 ∨ op = 21 ∨ op = 23)
    (hc : Calls Tryz.prog 38 #[.pointer (some ⟨p,0,none⟩),exV op n s (.slice a len cap)] (w.alloc (.cells #[.int .i64 op,.int .i64 n,.string ⟨s.toArray⟩,.slice a len cap] 28)) (boxPost R (w.alloc (.cells #[.int .i64 op,.int .i64 n,.string ⟨s.toArray⟩,.slice a len cap] 28)))) :
    Calls Tryz.prog 19 #[.pointer (some ⟨p,0,none⟩),exV op n s (.slice a len cap)] w (boxPost R w) := by
  have hb0 := (Below.refl w.heap.size w).alloc (Nat.le_refl _) (.cells #[.int .i64 op,.int .i64 n,.string ⟨s.toArray⟩,.slice a len cap] 28)
  have HC := Lib.hid hc
  have HB := Lib.hid hb0
  clear hc hb0
  unfold exV strV at *
  rcases h with rfl | rfl | rfl | rfl
  all_goals
    go_enter Tryz.func19,Tryz.ntmps19
    go_wp2_with fail
    refine HC.out.mono ?_
    rintro e W ⟨rfl,hb⟩
    have hb2 := HB.out.seq hb
    go_wp2
    go_ret
    exact ⟨rfl,hb2⟩
set_option maxRecDepth 1000000 in
set_option maxHeartbeats 8000000 in
theorem eval_truth (op n : Int) (s : Bs) (a : Option Addr) (len cap : Nat) (p : Nat) (w : World) (R : Val) (h : op = 6 ∨ op = 12 ∨ op = 13 ∨ op = 14 ∨ op = 15 ∨ op = 16 ∨ op = 17 ∨ op = 18)
    (hc : Calls Tryz.prog 39 #[.pointer (some ⟨p,0,none⟩),exV op n s (.slice a len cap)] (w.alloc (.cells #[.int .i64 op,.int .i64 n,.string ⟨s.toArray⟩,.slice a len cap] 28)) (boxPost R (w.alloc (.cells #[.int .i64 op,.int .i64 n,.string ⟨s.toArray⟩,.slice a len cap] 28)))) :
    Calls Tryz.prog 19 #[.pointer (some ⟨p,0,none⟩),exV op n s (.slice a len cap)] w (boxPost R w) := by
  have hb0 := (Below.refl w.heap.size w).alloc (Nat.le_refl _) (.cells #[.int .i64 op,.int .i64 n,.string ⟨s.toArray⟩,.slice a len cap] 28)
  have HC := Lib.hid hc
  have HB := Lib.hid hb0
  clear hc hb0
  unfold exV strV at *
  rcases h with rfl | rfl | rfl | rfl | rfl | rfl | rfl | rfl
  all_goals
    go_enter Tryz.func19,Tryz.ntmps19
    go_wp2_with fail
    refine HC.out.mono ?_
    rintro e W ⟨rfl,hb⟩
    have hb2 := HB.out.seq hb
    go_wp2
    go_ret
    exact ⟨rfl,hb2⟩
set_option maxRecDepth 1000000 in
set_option maxHeartbeats 8000000 in
theorem truth_dec (op n : Int) (s : Bs) (a : Option Addr) (len cap : Nat) (p : Nat) (w : World) (R : Val) (h : op = 6 ∨ op = 16 ∨ op = 17 ∨ op = 18)
    (hc : Calls Tryz.prog 72 #[.pointer (some ⟨p,0,none⟩),exV op n s (.slice a len cap)] (w.alloc (.cells #[.int .i64 op,.int .i64 n,.string ⟨s.toArray⟩,.slice a len cap] 28)) (boxPost R (w.alloc (.cells #[.int .i64 op,.int .i64 n,.string ⟨s.toArray⟩,.slice a len cap] 28)))) :
    Calls Tryz.prog 39 #[.pointer (some ⟨p,0,none⟩),exV op n s (.slice a len cap)] w (boxPost R w) := by
  have hb0 := (Below.refl w.heap.size w).alloc (Nat.le_refl _) (.cells #[.int .i64 op,.int .i64 n,.string ⟨s.toArray⟩,.slice a len cap] 28)
  have HC := Lib.hid hc
  have HB := Lib.hid hb0
  clear hc hb0
  unfold exV strV at *
  rcases h with rfl | rfl | rfl | rfl
  all_goals
    go_enter Tryz.func39,Tryz.ntmps39
    go_wp2_with fail
    refine HC.out.mono ?_
    rintro e W ⟨rfl,hb⟩
    have hb2 := HB.out.seq hb
    go_wp2
    go_ret
    exact ⟨rfl,hb2⟩
def leafV (op n : Int) (s : Bs) : Val := if op = 1 then vInt n else if op = 2 then vText s else vBool (decide (n = 1))
set_option maxRecDepth 1000000 in
set_option maxHeartbeats 8000000 in
theorem eval_leaf (op n : Int) (s : Bs) (a : Option Addr) (len cap : Nat) (p : Nat) (w : World) (h : op = 1 ∨ op = 2 ∨ op = 3) :
    Calls Tryz.prog 19 #[.pointer (some ⟨p,0,none⟩),exV op n s (.slice a len cap)] w (boxPost (leafV op n s) w) := by
  have hb0 := (Below.refl w.heap.size w).alloc (Nat.le_refl _) (.cells #[.int .i64 op,.int .i64 n,.string ⟨s.toArray⟩,.slice a len cap] 28)
  have HB := Lib.hid hb0
  clear hb0
  unfold exV strV at *
  rcases h with rfl | rfl | rfl
  · go_enter Tryz.func19,Tryz.ntmps19
    go_wp2
    go_ret
    exact ⟨rfl,HB.out⟩
  · go_enter Tryz.func19,Tryz.ntmps19
    go_wp2
    go_ret
    exact ⟨rfl,HB.out⟩
  · have HN : Hid (boxV (leafV 3 n s) = .iface 4 (.bool (n == 1))) := Lib.hid (by unfold leafV; rw [if_neg (by decide),if_neg (by decide),boxV_bool]; rfl)
    go_enter Tryz.func19,Tryz.ntmps19
    go_wp2
    go_ret
    exact ⟨by rw [HN.out]; rfl,HB.out⟩
set_option maxRecDepth 1000000 in
set_option maxHeartbeats 8000000 in
theorem eval_name (names : List Bs) (vals : List Val) (n : Int) (s : Bs) (a : Option Addr) (len cap : Nat) (p : Nat) (w : World) (hW : WithV w p names vals) :
    Calls Tryz.prog 19 #[.pointer (some ⟨p,0,none⟩),exV 4 n s (.slice a len cap)] w (boxPost (look names vals s) w) := by
  have hb0 := (Below.refl w.heap.size w).alloc (Nat.le_refl _) (.cells #[.int .i64 4,.int .i64 n,.string ⟨s.toArray⟩,.slice a len cap] 28)
  have hc := named_any s names vals p _ (hW.keep hb0)
  have HC := Lib.hid hc
  have HB := Lib.hid hb0
  clear hb0 hc hW
  unfold exV strV at *
  go_enter Tryz.func19,Tryz.ntmps19
  go_wp2_with fail
  refine HC.out.mono ?_
  rintro e W ⟨rfl,hb⟩
  have hb2 := HB.out.seq hb
  go_wp2
  go_ret
  exact ⟨rfl,hb2⟩
set_option maxRecDepth 1000000 in
set_option maxHeartbeats 8000000 in
theorem eval_has (names : List Bs) (vals : List Val) (n : Int) (s : Bs) (k : Ex) (v : Value) (p : Nat) (w : World) (hW : WithV w p names vals) (hK : KV (gh w) v [k]) :
    Calls Tryz.prog 19 #[.pointer (some ⟨p,0,none⟩),exV 22 n s v] w (boxPost (vBool (decide (¬ ((look names vals k.s).k = 0 ∨ (look names vals k.s).k = 4)))) w) := by
  obtain ⟨a,cap,rfl⟩ := hK.form
  have hcap := hK.cap
  obtain ⟨b,off,ua,uc,rfl,c0,c1,c2,c3,hK0⟩ := hK.at0
  have hbl := World.block_lt_of_cell? w _ c0
  have hb0 := (Below.refl w.heap.size w).alloc (Nat.le_refl _) (.cells #[.int .i64 22,.int .i64 n,.string ⟨s.toArray⟩,.slice (some ⟨b,off,none⟩) 1 cap] 28)
  have hc := named_any k.s names vals p _ (hW.keep hb0)
  have hok := hW.ok k.s
  generalize look names vals k.s = x at *
  have HC := Lib.hid hc
  have HB := Lib.hid hb0
  clear hb0 hc hW hK hK0
  simp only [List.length_singleton] at *
  unfold exV strV boxPost at *
  cases hok with
  | nil =>
    go_enter Tryz.func19,Tryz.ntmps19
    go_wp2_with fail
    refine HC.out.mono ?_
    rintro e W ⟨rfl,hb⟩
    rw [boxV_nil]
    have hb2 := HB.out.seq hb
    clear HC hb
    have x4 : ∀ (T : TypeId) (w : World),(Instr.typeAssert .nilIface T 33 true).run Tryz.prog w = .ok (.tuple #[.agg #[.int .i64 0,.int .i64 0,.string ⟨#[]⟩],.bool false]) w := fun _ _ => by kernel_rfl
    go_wp2
    go_ret
    exact ⟨rfl,hb2⟩
  | bad m h =>
    go_enter Tryz.func19,Tryz.ntmps19
    go_wp2_with fail
    refine HC.out.mono ?_
    rintro e W ⟨rfl,hb⟩
    rw [boxV_bad]
    have hb2 := HB.out.seq hb
    clear HC hb
    have x4 := ta_bad m
    go_wp2
    go_ret
    exact ⟨rfl,hb2⟩
  | int m h =>
    go_enter Tryz.func19,Tryz.ntmps19
    go_wp2_with fail
    refine HC.out.mono ?_
    rintro e W ⟨rfl,hb⟩
    rw [boxV_int]
    have hb2 := HB.out.seq hb
    clear HC hb
    have x4 := tn_int_v m
    go_wp2
    go_ret
    exact ⟨rfl,hb2⟩
  | bool m =>
    go_enter Tryz.func19,Tryz.ntmps19
    go_wp2_with fail
    refine HC.out.mono ?_
    rintro e W ⟨rfl,hb⟩
    rw [boxV_bool]
    have hb2 := HB.out.seq hb
    clear HC hb
    have x4 := tn_bool_v m
    go_wp2
    go_ret
    exact ⟨rfl,hb2⟩
  | text t h =>
    go_enter Tryz.func19,Tryz.ntmps19
    go_wp2_with fail
    refine HC.out.mono ?_
    rintro e W ⟨rfl,hb⟩
    rw [boxV_text]
    unfold strV
    have hb2 := HB.out.seq hb
    clear HC hb
    have x4 := tn_text_v t
    go_wp2
    go_ret
    exact ⟨rfl,hb2⟩
theorem kid1 {op : Int} {ks : List Ex} (h : (ks.length : Int) = arity op) (ho : op = 5 ∨ op = 6 ∨ op = 19 ∨ op = 22 ∨ op = 23) : ∃ k,ks = [k] := by
  have : ks.length = 1 := by unfold arity at h; rw [if_neg (by omega),if_pos ho] at h; omega
  match ks,this with
  | [k],_ => exact ⟨k,rfl⟩
theorem kid2 {op : Int} {ks : List Ex} (h : (ks.length : Int) = arity op) (ho : (7 ≤ op ∧ op ≤ 17) ∨ op = 20 ∨ op = 21) : ∃ k k',ks = [k,k'] := by
  have : ks.length = 2 := by unfold arity at h; rw [if_neg (by omega),if_neg (by omega),if_pos ho] at h; omega
  match ks,this with
  | [k,k'],_ => exact ⟨k,k',rfl⟩
theorem kid3 {op : Int} {ks : List Ex} (h : (ks.length : Int) = arity op) (ho : op = 18) : ∃ k k' k'',ks = [k,k',k''] := by
  have : ks.length = 3 := by unfold arity at h; rw [if_neg (by omega),if_neg (by omega),if_neg (by omega),if_pos ho] at h; omega
  match ks,this with
  | [k,k',k''],_ => exact ⟨k,k',k'',rfl⟩
theorem arity_in {op : Int} {n : Nat} (h : (n : Int) = arity op) : 1 ≤ op ∧ op ≤ 23 := by
  unfold arity at h
  split at h
  · omega
  · split at h
    · omega
    · split at h
      · omega
      · split at h <;> omega
/-- What eval's inner walk comes to, of any expression that may be. -/
theorem eval_all (names : List Bs) (vals : List Val) (e : Ex) : Good e → EvP names vals e := by
  refine Ex.ind (P := fun e => Good e → EvP names vals e) ?_ e
  intro op n s ks ih hG
  cases hG with
  | mk _ _ _ _ ha hn hk =>
  intro v W p hW hK
  simp only [Ex.op,Ex.n,Ex.s,Ex.ks] at hK ⊢
  have hE : ∀ k ∈ ks,EvP names vals k := fun k hm => ih k hm (hk k hm)
  have hok : ∀ k ∈ ks,VOk (ev (look names vals) k) := fun k hm => ev_ok (fun s => hW.ok s) k (hk k hm)
  have hl := alone_kids ha
  have hop := arity_in hl
  obtain ⟨a,cap,rfl⟩ := hK.form
  have hb0 := (Below.refl W.heap.size W).alloc (Nat.le_refl _) (.cells #[.int .i64 op,.int .i64 n,.string ⟨s.toArray⟩,.slice a ks.length cap] 28)
  have hW0 := hW.keep hb0
  have hK0 := hK.keep hb0
  have hb1 := ((Below.refl W.heap.size W).alloc (Nat.le_refl _) (.cells #[.int .i64 op,.int .i64 n,.string ⟨s.toArray⟩,.slice a ks.length cap] 28)).alloc (by simp) (.cells #[.int .i64 op,.int .i64 n,.string ⟨s.toArray⟩,.slice a ks.length cap] 28)
  have hW1 := hW.keep hb1
  have hK1 := hK.keep hb1
  rw [ev_mk]
  by_cases hnum : op = 5 ∨ (7 ≤ op ∧ op ≤ 11)
  · have e1 : evOp (look names vals) op n s ks ((evL (look names vals) ks).getD 0 vNil) ((evL (look names vals) ks).getD 1 vNil) ((evL (look names vals) ks).getD 2 vNil) = finN op (numX (look names vals) ks) := by
      have hq : (op = 5 ∧ ks.length = 1) ∨ ((7 ≤ op ∧ op ≤ 11) ∧ ks.length = 2) := by
        rcases hnum with h | h
        · obtain ⟨k,rfl⟩ := kid1 hl (.inl h); exact .inl ⟨h,rfl⟩
        · obtain ⟨k,k',rfl⟩ := kid2 hl (.inl (by omega)); exact .inr ⟨h,rfl⟩
      rw [← fin_law _ _ _ hq]
      unfold evOp
      rw [if_neg (by omega),if_neg (by omega),if_neg (by omega),if_neg (by omega),if_neg (by omega),if_pos hnum]
    rw [e1]
    refine eval_num op n s a ks.length cap p W _ (by omega) (number_any names vals op n s ks _ p _ ?_ hE hok hW0 hK0)
    rcases hnum with h | h
    · obtain ⟨k,rfl⟩ := kid1 hl (.inl h); exact .inl ⟨h,rfl⟩
    · obtain ⟨k,k',rfl⟩ := kid2 hl (.inl (by omega)); exact .inr ⟨h,rfl⟩
  by_cases hleaf : op = 1 ∨ op = 2 ∨ op = 3
  · have e1 : evOp (look names vals) op n s ks ((evL (look names vals) ks).getD 0 vNil) ((evL (look names vals) ks).getD 1 vNil) ((evL (look names vals) ks).getD 2 vNil) = leafV op n s := by
      unfold evOp leafV
      rcases hleaf with rfl | rfl | rfl <;> simp
    rw [e1]
    exact eval_leaf op n s a ks.length cap p W hleaf
  by_cases h4 : op = 4
  · subst h4
    exact eval_name names vals n s a ks.length cap p W hW
  by_cases h22 : op = 22
  · subst h22
    obtain ⟨k,rfl⟩ := kid1 hl (by omega)
    exact eval_has names vals n s k _ p W hW hK
  by_cases ht1 : op = 19 ∨ op = 23
  · obtain ⟨k,rfl⟩ := kid1 hl (by omega)
    have hc := text1_any names vals op n s k _ p _ ht1 (hE k (by simp)) (hok k (by simp)) hW0 hK0
    have e1 : evOp (look names vals) op n s [k] ((evL (look names vals) [k]).getD 0 vNil) ((evL (look names vals) [k]).getD 1 vNil) ((evL (look names vals) [k]).getD 2 vNil) = textM op (ev (look names vals) k) vNil := by
      rw [evL_cons,evL_nil]
      unfold evOp
      rw [if_neg (by omega),if_neg (by omega),if_neg (by omega),if_neg (by omega),if_neg (by omega),if_neg (by omega),if_pos (by omega)]
      rfl
    rw [e1]
    exact eval_text op n s a 1 cap p W _ (by omega) hc
  by_cases ht2 : op = 20 ∨ op = 21
  · obtain ⟨k,k',rfl⟩ := kid2 hl (by omega)
    have hc := text2_any names vals op n s k k' _ p _ ht2 (hE k (by simp)) (hE k' (by simp)) (hok k (by simp)) (hok k' (by simp)) hW0 hK0
    have e1 : evOp (look names vals) op n s [k,k'] ((evL (look names vals) [k,k']).getD 0 vNil) ((evL (look names vals) [k,k']).getD 1 vNil) ((evL (look names vals) [k,k']).getD 2 vNil) = textM op (ev (look names vals) k) (ev (look names vals) k') := by
      rw [evL_cons,evL_cons,evL_nil]
      unfold evOp
      rw [if_neg (by omega),if_neg (by omega),if_neg (by omega),if_neg (by omega),if_neg (by omega),if_neg (by omega),if_pos (by omega)]
      rfl
    rw [e1]
    exact eval_text op n s a 2 cap p W _ (by omega) hc
  have e0 : ∀ a b c,evOp (look names vals) op n s ks a b c = truthM op a b c := by
    intro a b c
    unfold evOp
    rw [if_neg (by omega),if_neg (by omega),if_neg (by omega),if_neg (by omega),if_neg (by omega),if_neg (by omega),if_neg (by omega)]
  rw [e0]
  by_cases h6 : op = 6
  · subst h6
    obtain ⟨k,rfl⟩ := kid1 hl (by omega)
    have hc := dec_not names vals n s k _ p _ (hE k (by simp)) (hok k (by simp)) hW1 hK1
    rw [evL_cons,evL_nil]
    exact eval_truth 6 n s a 1 cap p W _ (by omega) (truth_dec 6 n s a 1 cap p _ _ (by omega) hc)
  by_cases h18 : op = 18
  · subst h18
    obtain ⟨k,k',k'',rfl⟩ := kid3 hl rfl
    have hc := dec_if names vals n s k k' k'' _ p _ (hE k (by simp)) (hE k' (by simp)) (hE k'' (by simp)) (hok k (by simp)) (hok k' (by simp)) (hok k'' (by simp)) hW1 hK1
    rw [evL_cons,evL_cons,evL_cons,evL_nil]
    exact eval_truth 18 n s a 3 cap p W _ (by omega) (truth_dec 18 n s a 3 cap p _ _ (by omega) hc)
  obtain ⟨k,k',rfl⟩ := kid2 hl (by omega)
  rw [evL_cons,evL_cons,evL_nil]
  by_cases h16 : op = 16 ∨ op = 17
  · have hc := dec_two names vals op n s k k' _ p _ h16 (hE k (by simp)) (hE k' (by simp)) (hok k (by simp)) (hok k' (by simp)) hW1 hK1
    exact eval_truth op n s a 2 cap p W _ (by omega) (truth_dec op n s a 2 cap p _ _ (by omega) hc)
  · have hc := truth_any names vals op n s k k' _ p _ (by omega) (hE k (by simp)) (hE k' (by simp)) (hok k (by simp)) (hok k' (by simp)) hW0 hK0
    exact eval_truth op n s a 2 cap p W _ (by omega) hc
end Go.Proofs.YtfjpdphphieaoaaGreatDoor
namespace Go.Proofs.YtfjpdphphieaoaaGreatDoor
open Go.RowKit Pal
def valPost (v : Val) (w : World) (e : Ending) (w' : World) : Prop := e = .returned (valV v) ∧ Below w.heap.size w w'
theorem set3_size {W : World} {B : Nat} (y0 y1 y2 : Value) : (((W.setCell ⟨B,0,none⟩ y0).setCell ⟨B,1,none⟩ y1).setCell ⟨B,2,none⟩ y2).heap.size = W.heap.size := by simp [World.setCell]
set_option maxRecDepth 1000000 in
set_option maxHeartbeats 8000000 in
theorem Eval_any (e : Ex) (names : List Bs) (vals : List Val) (v nv vv : Value) (w : World) (hF : Fine e) (hV : VFine vals) (hL : Lay (gh w)) (hE : EV (gh w) v e) (hN : StrsV (gh w) nv names) (hA : ValsV (gh w) vv vals) :
    Calls Tryz.prog 7 #[v,nv,vv] w (valPost (evalM e names vals) w) := by
  obtain ⟨kv,rfl,hK⟩ := hE
  obtain ⟨a,cap,rfl⟩ := hK.form
  obtain ⟨na,nc,rfl⟩ := hN.form
  obtain ⟨va,vc,rfl,-⟩ := hA.form
  have hb0 := ((Below.refl w.heap.size w).alloc (Nat.le_refl _) (.cells #[.int .i64 e.op,.int .i64 e.n,.string ⟨e.s.toArray⟩,.slice a e.ks.length cap] 28)).alloc (by simp) (.cells #[.int .i64 0,.int .i64 0,.string ⟨#[]⟩] 33)
  have hz0 : ((w.alloc (.cells #[.int .i64 e.op,.int .i64 e.n,.string ⟨e.s.toArray⟩,.slice a e.ks.length cap] 28)).alloc (.cells #[.int .i64 0,.int .i64 0,.string ⟨#[]⟩] 33)).heap[w.heap.size + 1]? = some (.cells #[.int .i64 0,.int .i64 0,.string ⟨#[]⟩] 33 (0,0)) := by
    have := heap_alloc_new (w.alloc (.cells #[.int .i64 e.op,.int .i64 e.n,.string ⟨e.s.toArray⟩,.slice a e.ks.length cap] 28)) (.cells #[.int .i64 0,.int .i64 0,.string ⟨#[]⟩] 33)
    simpa using this
  have hx0 : ((w.alloc (.cells #[.int .i64 e.op,.int .i64 e.n,.string ⟨e.s.toArray⟩,.slice a e.ks.length cap] 28)).alloc (.cells #[.int .i64 0,.int .i64 0,.string ⟨#[]⟩] 33)).heap[w.heap.size]? = some (.cells #[.int .i64 e.op,.int .i64 e.n,.string ⟨e.s.toArray⟩,.slice a e.ks.length cap] 28 (0,0)) := by
    rw [Lib.alloc_old _ _ _ (by simp)]; exact heap_alloc_new w _
  have hck := parseCheck_any e (exV e.op e.n e.s (.slice a e.ks.length cap)) _ hF (hL.below hb0) ⟨_,rfl,hK.keep hb0⟩
  have hev : ∀ W,Below w.heap.size w W → check e = true → ∀ p,W.heap[p]? = some (.cells #[.slice na names.length nc,.slice va vals.length vc] 53 (0,0)) →
      Calls Tryz.prog 19 #[.pointer (some ⟨p,0,none⟩),exV e.op e.n e.s (.slice a e.ks.length cap)] W (boxPost (ev (look names vals) e) W) := fun W hb hc p hp =>
    eval_all names vals e (check_good hF hc) _ W p ⟨hL.below hb,hV,_,_,hp,hN.mono (below_gh hb),hA.mono (below_gh hb)⟩ (hK.keep hb)
  have hvo : check e = true → VOk (ev (look names vals) e) := fun hc => ev_ok (fun s => look_ok names vals s (fun v hv => (hV v hv).1)) e (check_good hF hc)
  have hevm : evalM e names vals = if check e = true then ev (look names vals) e else vNil := rfl
  have HEM := Lib.hid hevm
  have HVO := Lib.hid hvo
  have HEV := Lib.hid hev
  have HCK := Lib.hid hck
  have HB0 := Lib.hid hb0
  have HZ0 := Lib.hid hz0
  have HX0 := Lib.hid hx0
  have HL := Lib.hid hL
  clear hck hev hvo hevm hb0 hz0 hx0 hL hF hV hK hN hA
  unfold exV strV at *
  cases hc : check e with
  | false =>
    have HM : Hid (evalM e names vals = vNil) := Lib.hid (by rw [HEM.out,hc]; rfl)
    rw [hc] at HCK
    clear HEM HVO HEV hc
    go_enter Tryz.func7,Tryz.ntmps7
    go_wp2_with fail
    refine HCK.out.mono ?_
    rintro r W ⟨rfl,hb⟩
    have hbW := HB0.out.seq hb
    have hzW := (hb.block _ (by simp)).trans HZ0.out
    obtain ⟨⟨c0,c1,c2⟩,f0,f1,f2⟩ := three_all hzW
    have HZ := Lib.hid hzW
    have HB := Lib.hid hbW
    clear hb hbW hzW HB0 HZ0 HX0 HCK
    go_wp2
    have hh := three_all (set3_heap HZ.out (.int .i64 0) (.int .i64 0) (.string ⟨#[]⟩))
    refine bodyPost_ret (v := valV vNil) (by simp [results,Tryz.results7,go_sem,valV,strV,vNil,hh.1]) rfl ⟨by rw [HM.out],below_set3 HB.out (by omega) _ _ _⟩
  | true =>
    have hvv := HVO.out hc
    have HM : Hid (evalM e names vals = ev (look names vals) e) := Lib.hid (by rw [HEM.out,hc]; rfl)
    have HEV2 := Lib.hid (fun W hb => HEV.out W hb hc)
    rw [hc] at HCK
    generalize ev (look names vals) e = x at *
    have hub := fun w hL => unbox_any hvv w hL
    unfold unboxPost valV strV at hub
    have HUB := Lib.hid hub
    clear HEM HVO HEV hc hub hvv
    unfold boxPost at HEV2
    generalize boxV x = bx at *
    go_enter Tryz.func7,Tryz.ntmps7
    go_wp2_with fail
    refine HCK.out.mono ?_
    rintro r W ⟨rfl,hb⟩
    have hbW := HB0.out.seq hb
    have hzW := (hb.block _ (by simp)).trans HZ0.out
    have hxW := (hb.block _ (by simp; omega)).trans HX0.out
    have hlt : w.heap.size + 1 < W.heap.size := (Array.getElem?_eq_some_iff.1 hzW).1
    obtain ⟨d0,d1,d2,d3⟩ := four_cells hxW
    obtain ⟨⟨m0,m1,m2,m3⟩,-⟩ := four_new hxW
    have hbA := hbW.alloc hbW.size (.cells #[.slice na names.length nc,.slice va vals.length vc] 53)
    have hev := HEV2.out _ hbA W.heap.size (heap_alloc_new W _)
    have hbn : Below W.heap.size W (W.alloc (.cells #[.slice na names.length nc,.slice va vals.length vc] 53)) := (Below.refl _ _).alloc (Nat.le_refl _) _
    have hzA := (hbn.block _ hlt).trans hzW
    have HZA := Lib.hid hzA
    have HEA := Lib.hid hev
    have HBA := Lib.hid hbA
    clear hb hbW hzW hxW HB0 HZ0 HX0 HCK HEV2 hbA hev hbn hzA
    go_wp2_with fail
    refine HEA.out.mono ?_
    rintro r W2 ⟨rfl,hb2⟩
    have hbB := HBA.out.seq hb2
    have hzB := (hb2.block _ (by simp; omega)).trans HZA.out
    have HZB := Lib.hid hzB
    have HBB := Lib.hid hbB
    clear hb2 hbB hzB HEA HBA HZA
    go_wp2_with fail
    refine (HUB.out _ (HL.out.below HBB.out)).mono ?_
    rintro r W3 ⟨rfl,hb3⟩
    have hbC := HBB.out.seq hb3
    have hltB : w.heap.size + 1 < W2.heap.size := (Array.getElem?_eq_some_iff.1 HZB.out).1
    have hzC := (hb3.block _ hltB).trans HZB.out
    have hltC : w.heap.size + 1 < W3.heap.size := (Array.getElem?_eq_some_iff.1 hzC).1
    obtain ⟨⟨c0,c1,c2⟩,f0,f1,f2⟩ := three_all hzC
    have HZC := Lib.hid hzC
    have HBC := Lib.hid hbC
    have HLC := Lib.hid hltC
    clear hb3 hbC hzC HZB HBB HUB hlt hltB d0 d1 d2 d3
    go_wp2
    have hzD := (Lib.alloc_old (((W3.setCell ⟨w.heap.size + 1,0,none⟩ (.int .i64 x.k)).setCell ⟨w.heap.size + 1,1,none⟩ (.int .i64 x.n)).setCell ⟨w.heap.size + 1,2,none⟩ (.string ⟨x.s.toArray⟩)) (.cells #[.int .i64 x.k,.int .i64 x.n,.string ⟨x.s.toArray⟩] 33) (w.heap.size + 1) (by rw [set3_size]; exact HLC.out)).trans (set3_heap HZC.out (.int .i64 x.k) (.int .i64 x.n) (.string ⟨x.s.toArray⟩))
    have hh := three_all hzD
    have hbD := below_set3 HBC.out (show w.heap.size ≤ w.heap.size + 1 by omega) (.int .i64 x.k) (.int .i64 x.n) (.string ⟨x.s.toArray⟩)
    refine bodyPost_ret (v := valV x) (by simp [results,Tryz.results7,go_sem,valV,strV,hh.1]) rfl ⟨by rw [HM.out],hbD.alloc hbD.size _⟩
end Go.Proofs.YtfjpdphphieaoaaGreatDoor
namespace Go.Proofs.YtfjpdphphieaoaaGreatDoor
open Go.RowKit Pal
theorem evals_a1 : ∃ e,parseM [49,32,47,32,48] = .ok e ∧ evalM e [] [] = vBad 2 := ⟨.mk 10 0 [] [.mk 1 1 [] [],.mk 1 0 [] []],by kernel_rfl,by kernel_rfl⟩
theorem evals_a2 : ∃ e,parseM [116,114,117,101,32,124,32,49,47,48,32,61,32,49] = .ok e ∧ evalM e [] [] = vBool true := ⟨.mk 17 0 [] [.mk 3 1 [] [],.mk 12 0 [] [.mk 10 0 [] [.mk 1 1 [] [],.mk 1 0 [] []],.mk 1 1 [] []]],by kernel_rfl,by kernel_rfl⟩
theorem evals_a3 : ∃ e,parseM [120,32,43,32,49] = .ok e ∧ evalM e [] [] = vBad 3 := ⟨.mk 7 0 [] [.mk 4 0 [120] [],.mk 1 1 [] []],by kernel_rfl,by kernel_rfl⟩
theorem vfine_nil : VFine [] := fun v h => by cases h
set_option maxRecDepth 1000000 in
set_option maxHeartbeats 8000000 in
theorem awake9 (w : World) (hL : Lay (gh w)) : Calls Tryz.prog 5 #[] w (yesPost w) := by
  obtain ⟨e1,hp1,ht1⟩ := evals_a1
  obtain ⟨e2,hp2,ht2⟩ := evals_a2
  obtain ⟨e3,hp3,ht3⟩ := evals_a3
  have HF1 := Lib.hid (parseM_fine hp1)
  have HF2 := Lib.hid (parseM_fine hp2)
  have HF3 := Lib.hid (parseM_fine hp3)
  have HP1 := Lib.hid (fun w hL => parse_yes ⟨#[49,32,47,32,48]⟩ e1 w (by decide) hp1 hL)
  have HP2 := Lib.hid (fun w hL => parse_yes ⟨#[116,114,117,101,32,124,32,49,47,48,32,61,32,49]⟩ e2 w (by decide) hp2 hL)
  have HP3 := Lib.hid (fun w hL => parse_yes ⟨#[120,32,43,32,49]⟩ e3 w (by decide) hp3 hL)
  have HT1 := Lib.hid ht1
  have HT2 := Lib.hid ht2
  have HT3 := Lib.hid ht3
  have HL := Lib.hid hL
  clear hp1 hp2 hp3 ht1 ht2 ht3 hL
  go_enter Tryz.func5,Tryz.ntmps5
  go_wp2_with fail
  refine (HP1.out _ HL.out).mono ?_
  rintro r W1 ⟨hb1,a1,k1,rfl,hK1⟩
  have hn1 := (Below.refl W1.heap.size W1).alloc (Nat.le_refl _) (.cells #[.int .i64 e1.op,.int .i64 e1.n,.string ⟨e1.s.toArray⟩,.slice a1 e1.ks.length k1] 28)
  have hbA := hb1.seq hn1
  have hKA := hK1.keep hn1
  have hcA := heap_alloc_new W1 (.cells #[.int .i64 e1.op,.int .i64 e1.n,.string ⟨e1.s.toArray⟩,.slice a1 e1.ks.length k1] 28)
  have hsA : (W1.alloc (.cells #[.int .i64 e1.op,.int .i64 e1.n,.string ⟨e1.s.toArray⟩,.slice a1 e1.ks.length k1] 28)).heap.size = W1.heap.size + 1 := by simp
  clear hb1 hK1 hn1
  go_wp2_with fail
  refine (HP2.out _ (HL.out.below hbA)).mono ?_
  generalize W1.alloc (.cells #[.int .i64 e1.op,.int .i64 e1.n,.string ⟨e1.s.toArray⟩,.slice a1 e1.ks.length k1] 28) = WA at *
  rintro r W2 ⟨hb2,a2,k2,rfl,hK2⟩
  have hn2 := (Below.refl W2.heap.size W2).alloc (Nat.le_refl _) (.cells #[.int .i64 e2.op,.int .i64 e2.n,.string ⟨e2.s.toArray⟩,.slice a2 e2.ks.length k2] 28)
  have hbn2 := hb2.seq hn2
  have hbB := hbA.seq hbn2
  have hKA2 := hKA.keep hbn2
  have hcA2 := (hbn2.block _ (by omega)).trans hcA
  have hKB := hK2.keep hn2
  have hcB := heap_alloc_new W2 (.cells #[.int .i64 e2.op,.int .i64 e2.n,.string ⟨e2.s.toArray⟩,.slice a2 e2.ks.length k2] 28)
  have hsB : (W2.alloc (.cells #[.int .i64 e2.op,.int .i64 e2.n,.string ⟨e2.s.toArray⟩,.slice a2 e2.ks.length k2] 28)).heap.size = W2.heap.size + 1 := by simp
  have hsA2 : W1.heap.size < W2.heap.size := by have := hb2.size; omega
  clear hb2 hK2 hn2 hbn2 hbA hKA hcA hsA
  go_wp2_with fail
  refine (HP3.out _ (HL.out.below hbB)).mono ?_
  generalize W2.alloc (.cells #[.int .i64 e2.op,.int .i64 e2.n,.string ⟨e2.s.toArray⟩,.slice a2 e2.ks.length k2] 28) = WB at *
  rintro r W3 ⟨hb3,a3,k3,rfl,hK3⟩
  have hn3 := (Below.refl W3.heap.size W3).alloc (Nat.le_refl _) (.cells #[.int .i64 e3.op,.int .i64 e3.n,.string ⟨e3.s.toArray⟩,.slice a3 e3.ks.length k3] 28)
  have hbn3 := hb3.seq hn3
  have hbC := hbB.seq hbn3
  have hKA3 := hKA2.keep hbn3
  have hKB3 := hKB.keep hbn3
  have hcA3 := (hbn3.block _ (by omega)).trans hcA2
  have hcB3 := (hbn3.block _ (by omega)).trans hcB
  have hKC := hK3.keep hn3
  have hcC := heap_alloc_new W3 (.cells #[.int .i64 e3.op,.int .i64 e3.n,.string ⟨e3.s.toArray⟩,.slice a3 e3.ks.length k3] 28)
  have hsC : (W3.alloc (.cells #[.int .i64 e3.op,.int .i64 e3.n,.string ⟨e3.s.toArray⟩,.slice a3 e3.ks.length k3] 28)).heap.size = W3.heap.size + 1 := by simp
  have hsB2 : W2.heap.size < W3.heap.size := by have := hb3.size; omega
  clear hb3 hK3 hn3 hbn3 hbB hKA2 hKB hcA2 hcB hsB
  go_upto_region 4 with fail
  generalize W3.alloc (.cells #[.int .i64 e3.op,.int .i64 e3.n,.string ⟨e3.s.toArray⟩,.slice a3 e3.ks.length k3] 28) = WC at *
  have hk : ∀ W,Below WC.heap.size WC W → Calls Tryz.prog 7 #[exV e1.op e1.n e1.s (.slice a1 e1.ks.length k1),.slice none 0 0,.slice none 0 0] W (valPost (vBad 2) W) := fun W hb => by
    have := Eval_any e1 [] [] _ (.slice none 0 0) (.slice none 0 0) W HF1.out vfine_nil (HL.out.below (hbC.seq hb)) ⟨_,rfl,hKA3.keep hb⟩ (StrsV_nil _) (ValsV_nil _)
    rw [HT1.out] at this; exact this
  have hk2 : ∀ W,Below WC.heap.size WC W → Calls Tryz.prog 7 #[exV e2.op e2.n e2.s (.slice a2 e2.ks.length k2),.slice none 0 0,.slice none 0 0] W (valPost (vBool true) W) := fun W hb => by
    have := Eval_any e2 [] [] _ (.slice none 0 0) (.slice none 0 0) W HF2.out vfine_nil (HL.out.below (hbC.seq hb)) ⟨_,rfl,hKB3.keep hb⟩ (StrsV_nil _) (ValsV_nil _)
    rw [HT2.out] at this; exact this
  have hk3 : ∀ W,Below WC.heap.size WC W → Calls Tryz.prog 7 #[exV e3.op e3.n e3.s (.slice a3 e3.ks.length k3),.slice none 0 0,.slice none 0 0] W (valPost (vBad 3) W) := fun W hb => by
    have := Eval_any e3 [] [] _ (.slice none 0 0) (.slice none 0 0) W HF3.out vfine_nil (HL.out.below (hbC.seq hb)) ⟨_,rfl,hKC.keep hb⟩ (StrsV_nil _) (ValsV_nil _)
    rw [HT3.out] at this; exact this
  unfold exV strV at hk hk2 hk3
  have H1 := Lib.hid hk
  have H2 := Lib.hid hk2
  have H3 := Lib.hid hk3
  have HBC := Lib.hid hbC
  have HCB := Lib.hid hcB3
  have HCC := Lib.hid hcC
  obtain ⟨c0,c1,c2,c3⟩ := four_cells hcA3
  have s1 : W2.heap.size < WC.heap.size := by omega
  have s2 : W3.heap.size < WC.heap.size := by omega
  have HS := Lib.hid (And.intro s1 s2)
  clear hk hk2 hk3 hbC hcA3 hcB3 hcC hKA3 hKB3 hKC hsC hsA2 hsB2 s1 s2
  go_wp2_with fail
  refine (H1.out _ (Below.refl _ _)).mono ?_
  rintro r W4 ⟨rfl,hb4⟩
  have hB4 := HCB.out
  obtain ⟨d0,d1,d2,d3⟩ := four_cells ((hb4.block _ HS.out.1).trans HCB.out)
  clear c0 c1 c2 c3 hB4
  unfold valV strV
  go_wp2_with fail
  refine (H2.out _ hb4).mono ?_
  rintro r W5 ⟨rfl,hb5⟩
  have hb6 := hb4.seq hb5
  obtain ⟨g0,g1,g2,g3⟩ := four_cells ((hb6.block _ HS.out.2).trans HCC.out)
  clear d0 d1 d2 d3 hb4 hb5
  unfold valV strV
  go_wp2_with fail
  refine (H3.out _ hb6).mono ?_
  rintro r W6 ⟨rfl,hb7⟩
  have hb8 := HBC.out.seq (hb6.seq hb7)
  unfold valV strV
  clear g0 g1 g2 g3 hb6 hb7
  go_wp2
  go_ret
  exact ⟨rfl,hb8⟩
end Go.Proofs.YtfjpdphphieaoaaGreatDoor
