/- The walk of palaverlaw09.EvalOne. Conditions: the tables hold what they are laid with; the arguments read as data. -/
import Derived.Test.YtdgcgogeidnmoaaGreatDoorR4
import Derived.Test.YtdgcgogeidnmoaaGreatDoorRE
import Derived.Test.YtdgcgogeidnmoaaGreatDoorE15
import Derived.Test.YtdgcgogeidnmoaaGreatDoorE23
import Derived.Test.YtdgcgogeidnmoaaGreatDoorR1
set_option linter.unusedSimpArgs false
set_option linter.unusedVariables false
set_option linter.unusedSectionVars false
namespace Go.Proofs.YtdgcgogeidnmoaaGreatDoor
open Go.RowKit Pal
theorem okV_len {v : Val} (h : okV v = true) : v.s.length ≤ 400 := by
  obtain ⟨k, n, s⟩ := v
  unfold okV at h
  simp only at h ⊢
  split at h
  · have := (of_decide_eq_true h).2; subst this; simp
  split at h
  · have := of_decide_eq_true h; subst this; simp
  split at h
  · have := (of_decide_eq_true h).2; subst this; simp
  split at h
  · rw [Bool.and_eq_true] at h; exact (textOk_iff h.2).1
  split at h
  · have := (of_decide_eq_true h).2.2; subst this; simp
  · cases h
/-- What EvalOne's closure looks at. -/
structure OnIn (W : World) (B5 B2 B3 bn : Nat) (va vb : Val) : Prop where
  lay : Lay (gh W)
  fine : VFine [va, vb]
  c5 : W.cell? ⟨B5, 0, none⟩ = some (.slice (some ⟨bn, 0, none⟩) 2 2)
  cn : W.heap[bn]? = some (.cells #[.string ⟨#[97]⟩, .string ⟨#[98]⟩] 9 (0, 0))
  c2 : W.cell? ⟨B2, 0, none⟩ = some (.int .i64 va.k) ∧ W.cell? ⟨B2, 1, none⟩ = some (.int .i64 va.n) ∧ W.cell? ⟨B2, 2, none⟩ = some (.string ⟨va.s.toArray⟩)
  c3 : W.cell? ⟨B3, 0, none⟩ = some (.int .i64 vb.k) ∧ W.cell? ⟨B3, 1, none⟩ = some (.int .i64 vb.n) ∧ W.cell? ⟨B3, 2, none⟩ = some (.string ⟨vb.s.toArray⟩)
theorem OnIn.keep {W W' : World} {B5 B2 B3 bn : Nat} {va vb : Val} (h : OnIn W B5 B2 B3 bn va vb) (hb : Below W.heap.size W W') : OnIn W' B5 B2 B3 bn va vb := by
  obtain ⟨hL, hF, c8, cn, ⟨a0, a1, a2⟩, b0, b1, b2⟩ := h
  have l8 := World.block_lt_of_cell? W _ c8
  have l6 := World.block_lt_of_cell? W _ a0
  have l7 := World.block_lt_of_cell? W _ b0
  have ln : bn < W.heap.size := (Array.getElem?_eq_some_iff.1 cn).1
  exact ⟨hL.below hb, hF, (hb.cell (p := ⟨B5, 0, none⟩) l8).trans c8, (hb.block _ ln).trans cn, ⟨(hb.cell (p := ⟨B2, 0, none⟩) l6).trans a0, (hb.cell (p := ⟨B2, 1, none⟩) l6).trans a1, (hb.cell (p := ⟨B2, 2, none⟩) l6).trans a2⟩,
    (hb.cell (p := ⟨B3, 0, none⟩) l7).trans b0, (hb.cell (p := ⟨B3, 1, none⟩) l7).trans b1, (hb.cell (p := ⟨B3, 2, none⟩) l7).trans b2⟩
set_option maxRecDepth 1000000 in
set_option maxHeartbeats 8000000 in
theorem one_clo (op : Nat) (x y : Bs) (n : Int) (va vb : Val) (B5 B2 B3 bn : Nat) (w : World) (ho : 12 ≤ op ∧ op ≤ 15) (hx : x.length ≤ 100) (hy : y.length ≤ 100) (h : OnIn w B5 B2 B3 bn va vb) (hv : evalM (twoX op x y) [[97], [98]] [va, vb] = ⟨2, n, []⟩) :
    Calls Tryz.prog 45 #[.int .i64 op, strV x, strV y, .pointer (some ⟨B5, 0, none⟩), .pointer (some ⟨B2, 0, none⟩), .pointer (some ⟨B3, 0, none⟩)] w (fun e w' => e = .returned (.int .i64 n) ∧ Below w.heap.size w w') := by
  obtain ⟨hL, hF, c8, cn, ⟨a0, a1, a2⟩, b0, b1, b2⟩ := h
  have l8 := World.block_lt_of_cell? w _ c8
  have l6 := World.block_lt_of_cell? w _ a0
  have l7 := World.block_lt_of_cell? w _ b0
  have ln : bn < w.heap.size := (Array.getElem?_eq_some_iff.1 cn).1
  have KX := (Kept.start w).new2 (.cells #[.int .i64 4, .int .i64 0, .string ⟨x.toArray⟩, .slice none 0 0, .int .i64 4, .int .i64 0, .string ⟨y.toArray⟩, .slice none 0 0] 24) (.cells #[.int .i64 va.k, .int .i64 va.n, .string ⟨va.s.toArray⟩, .int .i64 vb.k, .int .i64 vb.n, .string ⟨vb.s.toArray⟩] 47)
  have hkv := KV.two (h := gh ((w.alloc (.cells #[.int .i64 4, .int .i64 0, .string ⟨x.toArray⟩, .slice none 0 0, .int .i64 4, .int .i64 0, .string ⟨y.toArray⟩, .slice none 0 0] 24)).alloc (.cells #[.int .i64 va.k, .int .i64 va.n, .string ⟨va.s.toArray⟩, .int .i64 vb.k, .int .i64 vb.n, .string ⟨vb.s.toArray⟩] 47))) (a := .mk 4 0 x []) (c := .mk 4 0 y []) KX.tail.at0 (KV.nil _) (KV.nil _)
  have hnv := StrsV.lay (w := (w.alloc (.cells #[.int .i64 4, .int .i64 0, .string ⟨x.toArray⟩, .slice none 0 0, .int .i64 4, .int .i64 0, .string ⟨y.toArray⟩, .slice none 0 0] 24)).alloc (.cells #[.int .i64 va.k, .int .i64 va.n, .string ⟨va.s.toArray⟩, .int .i64 vb.k, .int .i64 vb.n, .string ⟨vb.s.toArray⟩] 47)) [[97], [98]] 9 ((KX.below.block _ ln).trans cn) (by simp [maxLen])
  have hvv := ValsV.two (x := va) (y := vb) KX.at0
  have hev := Eval_any (twoX op x y) [[97], [98]] [va, vb] _ _ _ _ (twoX_fine op _ _ (by omega) hx hy) hF (hL.below KX.below) ⟨_, rfl, hkv⟩ hnv hvv
  rw [hv] at hev
  unfold valPost exV strV valV strV at hev
  have HE := Lib.hid hev
  have HB := Lib.hid KX.below
  clear hev KX hkv hnv hvv hL hF cn ln hv
  unfold strV
  go_enter Tryz.func45, Tryz.ntmps45
  go_wp2_with fail
  refine HE.out.mono ?_
  rintro r W ⟨rfl, hb⟩
  have HBW := Lib.hid (HB.out.seq hb)
  clear hb HE HB
  go_wp2
  go_ret
  exact ⟨rfl, HBW.out.alloc HBW.out.size _⟩
def nB (b : Bool) : Int := if b then 1 else 0
/-- What the closure is asked, and what it tells. -/
theorem askV_bool (op : Int) (a b : Val) : ∃ c, askV op a b = vBool c := by
  unfold askV
  split
  · exact ⟨_, rfl⟩
  · split
    · exact ⟨_, rfl⟩
    · split
      · exact ⟨_, rfl⟩
      · exact ⟨_, rfl⟩
set_option maxRecDepth 1000000 in
set_option maxHeartbeats 8000000 in
theorem one_plain {va vb : Val} (ha : okV va = true) (hb : okV vb = true) (hk : va.k = vb.k) (h1 : va.k = 1 ∨ va.k = 3) :
    ∃ n1 n2 n3 n4 n5 n6 n7 : Int, evalM (twoX 14 [97] [98]) [[97], [98]] [va, vb] = ⟨2, n1, []⟩ ∧ evalM (twoX 14 [98] [97]) [[97], [98]] [va, vb] = ⟨2, n2, []⟩ ∧ evalM (twoX 12 [97] [98]) [[97], [98]] [va, vb] = ⟨2, n3, []⟩ ∧
      evalM (twoX 13 [97] [98]) [[97], [98]] [va, vb] = ⟨2, n4, []⟩ ∧ evalM (twoX 15 [97] [98]) [[97], [98]] [va, vb] = ⟨2, n5, []⟩ ∧ evalM (twoX 15 [98] [97]) [[97], [98]] [va, vb] = ⟨2, n6, []⟩ ∧ evalM (twoX 12 [98] [97]) [[97], [98]] [va, vb] = ⟨2, n7, []⟩ ∧
      ((n1 = 1 ∧ n2 = 0 ∧ n3 = 0 ∧ n4 = 1 ∧ n5 = 1 ∧ n6 = 0 ∧ n7 = 0) ∨ (n1 = 0 ∧ n2 = 0 ∧ n3 = 1 ∧ n4 = 0 ∧ n5 = 1 ∧ n6 = 1 ∧ n7 = 1) ∨ (n1 = 0 ∧ n2 = 1 ∧ n3 = 0 ∧ n4 = 1 ∧ n5 = 0 ∧ n6 = 1 ∧ n7 = 0)) := by
  have e14 := ev_one 14 (by decide) ha hb hk h1
  have e12 := ev_one 12 (by decide) ha hb hk h1
  have e13 := ev_one 13 (by decide) ha hb hk h1
  have e15 := ev_one 15 (by decide) ha hb hk h1
  obtain ⟨hs, ht⟩ := one_tri ha hb hk h1
  have a14 : ∀ a b, askV ((14 : Nat) : Int) a b = vBool (lessV a b) := fun a b => rfl
  have a12 : ∀ a b, askV ((12 : Nat) : Int) a b = vBool (sameV a b) := fun a b => rfl
  have a13 : ∀ a b, askV ((13 : Nat) : Int) a b = vBool (!sameV a b) := fun a b => rfl
  have a15 : ∀ a b, askV ((15 : Nat) : Int) a b = vBool (lessV a b || sameV a b) := fun a b => rfl
  rw [a14, a14] at e14
  rw [a12, a12, hs] at e12
  rw [a13, a13, hs] at e13
  rw [a15, a15, hs] at e15
  rcases ht with ⟨p, q, r⟩ | ⟨p, q, r⟩ | ⟨p, q, r⟩ <;> rw [p, r] at e14 <;> rw [q] at e12 <;> rw [q] at e13 <;> rw [p, q, r] at e15
  · exact ⟨1, 0, 0, 1, 1, 0, 0, e14.1, e14.2, e12.1, e13.1, e15.1, e15.2, e12.2, .inl ⟨rfl, rfl, rfl, rfl, rfl, rfl, rfl⟩⟩
  · exact ⟨0, 0, 1, 0, 1, 1, 1, e14.1, e14.2, e12.1, e13.1, e15.1, e15.2, e12.2, .inr (.inl ⟨rfl, rfl, rfl, rfl, rfl, rfl, rfl⟩)⟩
  · exact ⟨0, 1, 0, 1, 0, 1, 0, e14.1, e14.2, e12.1, e13.1, e15.1, e15.2, e12.2, .inr (.inr ⟨rfl, rfl, rfl, rfl, rfl, rfl, rfl⟩)⟩
set_option maxRecDepth 1000000 in
set_option maxHeartbeats 8000000 in
theorem one_walk (a b : Val) (w : World) (hL : Lay2 w) (ha : I64 a.k ∧ I64 a.n ∧ a.s.length ≤ 9223372036854775807) (hb : I64 b.k ∧ I64 b.n ∧ b.s.length ≤ 9223372036854775807) :
    Calls Tryz.prog 16 #[valV a, valV b] w (yesPost w) := by
  have HL := Lib.hid hL
  have HAW := Lib.hid (fun W (hb : Below w.heap.size w W) => awake9 W (HL.out.below hb).lay)
  have K0 := Lib.hid ((Kept.start w).new2 (.cells #[.int .i64 a.k, .int .i64 a.n, .string ⟨a.s.toArray⟩] 47) (.cells #[.int .i64 b.k, .int .i64 b.n, .string ⟨b.s.toArray⟩] 47))
  obtain ⟨oa, hoa⟩ : ∃ c, okV a = c := ⟨_, rfl⟩
  obtain ⟨ob, hob⟩ : ∃ c, okV b = c := ⟨_, rfl⟩
  have HCA := Lib.hid (fun W => hoa ▸ refCheck_any a.k a.n a.s W ha.2.2)
  have HCB := Lib.hid (fun W => hob ▸ refCheck_any b.k b.n b.s W hb.2.2)
  have HOA := Lib.hid hoa
  have HOB := Lib.hid hob
  have HI := Lib.hid (And.intro ha hb)
  have hI : Hid (oa = true → ob = true → VFine [a, b]) := Lib.hid (fun h1 h2 => by
    have l1 := okV_len (hoa.trans h1)
    have l2 := okV_len (hob.trans h2)
    intro v hv
    rcases List.mem_cons.1 hv with rfl | hv
    · exact ⟨ha.2.1, by omega⟩
    · obtain rfl := List.mem_singleton.1 hv; exact ⟨hb.2.1, by omega⟩)
  unfold strV at HCA HCB
  clear hL ha hb hoa hob
  unfold valV strV
  obtain ⟨⟨x0, x1, x2⟩, -⟩ := three_all K0.out.tail.at0
  go_enter Tryz.func16, Tryz.ntmps16
  go_wp2_with fail
  refine (HCA.out _).mono ?_
  generalize (w.alloc (.cells #[.int .i64 a.k, .int .i64 a.n, .string ⟨a.s.toArray⟩] 47)).alloc (.cells #[.int .i64 b.k, .int .i64 b.n, .string ⟨b.s.toArray⟩] 47) = W0 at *
  rintro r W1 ⟨rfl, hb1⟩
  have K1 := Lib.hid (K0.out.call hb1)
  clear hb1 x0 x1 x2 K0
  cases oa with
  | false =>
    go_wp2_with fail
    refine (HAW.out _ K1.out.below).mono ?_
    rintro r V ⟨rfl, hbv⟩
    have hbv := K1.out.below.seq hbv
    go_wp2
    go_ret
    exact ⟨rfl, hbv⟩
  | true =>
  obtain ⟨⟨y0, y1, y2⟩, -⟩ := three_all K1.out.at0
  go_wp2_with fail
  refine (HCB.out _).mono ?_
  rintro r W2 ⟨rfl, hb2⟩
  have K2 := Lib.hid (K1.out.call hb2)
  clear hb2 y0 y1 y2 K1
  cases ob with
  | false =>
    go_wp2_with fail
    refine (HAW.out _ K2.out.below).mono ?_
    rintro r V ⟨rfl, hbv⟩
    have hbv := K2.out.below.seq hbv
    go_wp2
    go_ret
    exact ⟨rfl, hbv⟩
  | true =>
  obtain ⟨⟨x0, x1, x2⟩, -⟩ := three_all K2.out.tail.at0
  obtain ⟨⟨y0, y1, y2⟩, -⟩ := three_all K2.out.at0
  by_cases hk : (a.k = b.k ∧ (a.k = 1 ∨ a.k = 3))
  · have HP := Lib.hid (one_plain HOA.out HOB.out hk.1 hk.2)
    obtain ⟨n1, n2, n3, n4, n5, n6, n7, h1, h2, h3, h4, h5, h6, h7, hn⟩ := HP.out
    have K3 := Lib.hid (K2.out.new2 (.cells #[.string ⟨#[97]⟩, .string ⟨#[98]⟩] 9) (.cells #[.slice (some ⟨W2.heap.size, 0, none⟩) 2 2] 25))
    have hin : Hid (∀ W, Kept w W ((W2.heap.size + 1, .cells #[.slice (some ⟨W2.heap.size, 0, none⟩) 2 2] 25) :: (W2.heap.size, .cells #[.string ⟨#[97]⟩, .string ⟨#[98]⟩] 9) :: (w.heap.size + 1, .cells #[.int .i64 b.k, .int .i64 b.n, .string ⟨b.s.toArray⟩] 47) :: (w.heap.size, .cells #[.int .i64 a.k, .int .i64 a.n, .string ⟨a.s.toArray⟩] 47) :: []) →
        OnIn W (W2.heap.size + 1) w.heap.size (w.heap.size + 1) W2.heap.size a b) := Lib.hid (fun W h => ⟨(HL.out.below h.below).lay, hI.out (by first | rfl | trivial) (by first | rfl | trivial), by have := h.at0; simp [World.cell?, this], h.tail.at0, (three_all h.tail.tail.tail.at0).1, (three_all h.tail.tail.at0).1⟩)
    have Q := fun (op : Nat) (x y : Bs) (n : Int) (ho : 12 ≤ op ∧ op ≤ 15) (hx : x.length ≤ 100) (hy : y.length ≤ 100) (hv : evalM (twoX op x y) [[97], [98]] [a, b] = ⟨2, n, []⟩) W h => one_clo op x y n a b _ _ _ _ W ho hx hy (hin.out W h) hv
    have Q1 := Lib.hid (Q 14 [97] [98] n1 (by decide) (by decide) (by decide) h1)
    have Q2 := Lib.hid (Q 14 [98] [97] n2 (by decide) (by decide) (by decide) h2)
    have Q3 := Lib.hid (Q 12 [97] [98] n3 (by decide) (by decide) (by decide) h3)
    have Q4 := Lib.hid (Q 13 [97] [98] n4 (by decide) (by decide) (by decide) h4)
    have Q5 := Lib.hid (Q 15 [97] [98] n5 (by decide) (by decide) (by decide) h5)
    have Q6 := Lib.hid (Q 15 [98] [97] n6 (by decide) (by decide) (by decide) h6)
    have Q7 := Lib.hid (Q 12 [98] [97] n7 (by decide) (by decide) (by decide) h7)
    have q1 : (a.k != b.k) = false := by simp [hk.1]
    have q2 : ((a.k != 1) = true ∧ (a.k != 3) = false) ∨ (a.k != 1) = false := by
      rcases hk.2 with h | h
      · exact .inr (by rw [h]; rfl)
      · exact .inl ⟨by rw [h]; rfl, by rw [h]; rfl⟩
    clear Q h1 h2 h3 h4 h5 h6 h7 HP hk hI HI HCA HCB HOA HOB
    unfold strV at Q1 Q2 Q3 Q4 Q5 Q6 Q7
    rcases hn with ⟨rfl, rfl, rfl, rfl, rfl, rfl, rfl⟩ | ⟨rfl, rfl, rfl, rfl, rfl, rfl, rfl⟩ | ⟨rfl, rfl, rfl, rfl, rfl, rfl, rfl⟩
    all_goals
      rcases q2 with ⟨q2, q3⟩ | q2
      all_goals
        go_wp2_with fail
        refine (Q1.out _ K3.out).mono ?_
        rintro r V1 ⟨rfl, hb⟩
        have K4 := Lib.hid (K3.out.call hb)
        clear hb x0 x1 x2 y0 y1 y2
        go_wp2_with fail
        refine (Q2.out _ K4.out).mono ?_
        rintro r V2 ⟨rfl, hb⟩
        have K5 := Lib.hid (K4.out.call hb)
        clear hb
        go_wp2_with fail
        refine (Q3.out _ K5.out).mono ?_
        rintro r V3 ⟨rfl, hb⟩
        have K6 := Lib.hid (K5.out.call hb)
        clear hb
        go_wp2_with fail
        refine (Q4.out _ K6.out).mono ?_
        rintro r V4 ⟨rfl, hb⟩
        have K7 := Lib.hid (K6.out.call hb)
        clear hb
        go_wp2_with fail
        refine (Q5.out _ K7.out).mono ?_
        rintro r V5 ⟨rfl, hb⟩
        have K8 := Lib.hid (K7.out.call hb)
        clear hb
        go_wp2_with fail
        refine (Q6.out _ K8.out).mono ?_
        rintro r V6 ⟨rfl, hb⟩
        have K9 := Lib.hid (K8.out.call hb)
        clear hb
        go_wp2_with fail
        refine (Q7.out _ K9.out).mono ?_
        rintro r V7 ⟨rfl, hb⟩
        have K10 := Lib.hid (K9.out.call hb)
        clear hb
        go_wp2_with fail
        refine (HAW.out _ K10.out.below).mono ?_
        rintro r V ⟨rfl, hbv⟩
        have hbv := K10.out.below.seq hbv
        go_wp2
        go_ret
        exact ⟨rfl, hbv⟩
  · have q : (a.k != b.k) = true ∨ ((a.k != b.k) = false ∧ (a.k != 1) = true ∧ (a.k != 3) = true) := by
      by_cases h : a.k = b.k
      · refine .inr ⟨by simp [h], bne_iff_ne.2 fun h1 => hk ⟨h, .inl h1⟩, bne_iff_ne.2 fun h1 => hk ⟨h, .inr h1⟩⟩
      · exact .inl (bne_iff_ne.2 h)
    clear hk HI hI HCA HCB HOA HOB
    rcases q with q | ⟨q, q1, q2⟩
    all_goals
      go_wp2_with fail
      refine (HAW.out _ K2.out.below).mono ?_
      rintro r V ⟨rfl, hbv⟩
      have hbv := K2.out.below.seq hbv
      go_wp2
      go_ret
      exact ⟨rfl, hbv⟩
end Go.Proofs.YtdgcgogeidnmoaaGreatDoor
