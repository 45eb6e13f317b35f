/- The walk of palaverlaw00.Tiny: what it lets through. No condition but that numbers are an int64's, texts no longer than any may be. The walk of palaverlaw00.Expr: a copy in new memory. Condition: the expression is not too deep, its texts short. -/
import Derived.Test.YtilmmgkclijhjaaGreatDoorRN
import Derived.Test.YtilmmgkclijhjaaGreatDoorR3
import Derived.Test.YtilmmgkclijhjaaGreatDoorVd
set_option linter.unusedSimpArgs false
set_option linter.unusedVariables false
set_option linter.unusedSectionVars false
namespace Go.Proofs.YtilmmgkclijhjaaGreatDoor
open Go.RowKit Pal
mutual
def tny : Ex → Nat → Nat → Option Nat
  | .mk _ _ s ks, deep, c => if 300 ≤ c ∨ 35 < deep ∨ 1000 < s.length then none else tnyL ks (deep + 1) (c + 1)
def tnyL : List Ex → Nat → Nat → Option Nat
  | [], _, c => some c
  | k :: ks, deep, c => (tny k deep c).bind fun m => tnyL ks deep m
end
def tiny (e : Ex) : Bool := (tny e 0 0).isSome
theorem tny_no {op n : Int} {s : Bs} {ks : List Ex} {deep c : Nat} (h : 300 ≤ c ∨ 35 < deep ∨ 1000 < s.length) : tny (.mk op n s ks) deep c = none := by rw [tny, if_pos h]
theorem tny_yes {op n : Int} {s : Bs} {ks : List Ex} {deep c : Nat} (h : ¬ (300 ≤ c ∨ 35 < deep ∨ 1000 < s.length)) : tny (.mk op n s ks) deep c = tnyL ks (deep + 1) (c + 1) := by rw [tny, if_neg h]
theorem tnyL_nil (deep c : Nat) : tnyL [] deep c = some c := by rw [tnyL]
theorem tnyL_cons (k : Ex) (ks : List Ex) (deep c : Nat) : tnyL (k :: ks) deep c = (tny k deep c).bind fun m => tnyL ks deep m := by rw [tnyL]
/-- Not too deep, its texts short. -/
inductive Slim : Ex → Nat → Prop
  | mk (op n : Int) (s : Bs) (ks : List Ex) (deep : Nat) (hd : deep ≤ 35) (hs : s.length ≤ 1000) (hl : ks.length ≤ 300) (hk : ∀ k ∈ ks, Slim k (deep + 1)) : Slim (.mk op n s ks) deep
theorem tny_cnt (e : Ex) : ∀ (deep c m : Nat), tny e deep c = some m → c + 1 ≤ m ∧ m ≤ 300 := by
  refine Ex.ind (P := fun e => ∀ (deep c m : Nat), tny e deep c = some m → c + 1 ≤ m ∧ m ≤ 300) ?_ e
  intro op n s ks ih deep c m h
  by_cases hc : 300 ≤ c ∨ 35 < deep ∨ 1000 < s.length
  · rw [tny_no hc] at h; cases h
  · rw [tny_yes hc] at h
    have go : ∀ (l : List Ex), (∀ k ∈ l, k ∈ ks) → ∀ (c m : Nat), c ≤ 300 → tnyL l (deep + 1) c = some m → c ≤ m ∧ m ≤ 300 := by
      intro l
      induction l with
      | nil => intro _ c m hc h; rw [tnyL_nil] at h; cases h; exact ⟨Nat.le_refl _, hc⟩
      | cons a t iht =>
        intro hm c m hc h
        rw [tnyL_cons] at h
        cases e1 : tny a (deep + 1) c with
        | none => rw [e1] at h; cases h
        | some x =>
          rw [e1, Option.bind_some] at h
          have h1 := ih a (hm a (by simp)) _ _ _ e1
          have h2 := iht (fun y hy => hm y (by simp [hy])) x m h1.2 h
          omega
    exact go ks (fun _ h => h) _ _ (by omega) h
theorem tnyL_cnt : ∀ (l : List Ex) (deep c m : Nat), c ≤ 300 → tnyL l deep c = some m → c + l.length ≤ m ∧ m ≤ 300 := by
  intro l
  induction l with
  | nil => intro _ c m hc h; rw [tnyL_nil] at h; cases h; exact ⟨Nat.le_refl _, hc⟩
  | cons a t iht =>
    intro deep c m hc h
    rw [tnyL_cons] at h
    cases e1 : tny a deep c with
    | none => rw [e1] at h; cases h
    | some x =>
      rw [e1, Option.bind_some] at h
      have h1 := tny_cnt a _ _ _ e1
      have h2 := iht deep x m h1.2 h
      rw [List.length_cons]
      omega
theorem tny_slim (e : Ex) : ∀ (deep c m : Nat), tny e deep c = some m → Slim e deep := by
  refine Ex.ind (P := fun e => ∀ (deep c m : Nat), tny e deep c = some m → Slim e deep) ?_ e
  intro op n s ks ih deep c m h
  by_cases hc : 300 ≤ c ∨ 35 < deep ∨ 1000 < s.length
  · rw [tny_no hc] at h; cases h
  · rw [tny_yes hc] at h
    refine .mk _ _ _ _ _ (by omega) (by omega) (by have := tnyL_cnt ks _ _ _ (by omega) h; omega) ?_
    have go : ∀ (l : List Ex), (∀ k ∈ l, k ∈ ks) → ∀ (c m : Nat), tnyL l (deep + 1) c = some m → ∀ k ∈ l, Slim k (deep + 1) := by
      intro l
      induction l with
      | nil => intro _ _ _ _ k hk; cases hk
      | cons a t iht =>
        intro hm c m h k hk
        rw [tnyL_cons] at h
        cases e1 : tny a (deep + 1) c with
        | none => rw [e1] at h; cases h
        | some x =>
          rw [e1, Option.bind_some] at h
          rcases List.mem_cons.1 hk with rfl | hk
          · exact ih k (hm k (by simp)) _ _ _ e1
          · exact iht (fun y hy => hm y (by simp [hy])) x m h k hk
    exact go ks (fun _ h => h) _ _ h
theorem Slim.fine {e : Ex} {d : Nat} (h : Slim e d) (g : Fine0 e) : Fine e := by
  induction h with
  | mk op n s ks deep hd hs hl hk ih =>
    cases g with
    | mk _ _ _ _ ho hn _ hk' => exact .mk _ _ _ _ ho hn (by omega) (fun k hm => ih k hm (hk' k hm))
theorem tiny_slim {e : Ex} (h : tiny e = true) : Slim e 0 := by
  unfold tiny at h
  obtain ⟨m, hm⟩ := Option.isSome_iff_exists.1 h
  exact tny_slim e 0 0 m hm
def tinyPost (r : Option Nat) (b : Nat) (w : World) (e : Ending) (w' : World) : Prop :=
  But b w w' ∧ match r with | some m => e = .returned (.bool true) ∧ m ≤ 300 ∧ NB w' b m | none => e = .returned (.bool false)
theorem Fine0.kids {op n : Int} {s : Bs} {ks : List Ex} (h : Fine0 (.mk op n s ks)) : s.length ≤ 9223372036854775807 ∧ ∀ k ∈ ks, Fine0 k := by
  cases h with | mk _ _ _ _ ho hn hs hk => exact ⟨hs, hk⟩
set_option maxRecDepth 1000000 in
set_option maxHeartbeats 8000000 in
theorem tiny_any (e : Ex) : ∀ (v : Value) (deep c b : Nat) (w : World), Fine0 e → c ≤ 300 → deep ≤ 36 → NB w b c → KV (gb b w) v e.ks →
    Calls Tryz.prog 12 #[exV e.op e.n e.s v, .int .i64 deep, .pointer (some ⟨b, 0, none⟩)] w (tinyPost (tny e deep c) b w) := by
  refine Ex.ind (P := fun e => ∀ (v : Value) (deep c b : Nat) (w : World), Fine0 e → c ≤ 300 → deep ≤ 36 → NB w b c → KV (gb b w) v e.ks →
    Calls Tryz.prog 12 #[exV e.op e.n e.s v, .int .i64 deep, .pointer (some ⟨b, 0, none⟩)] w (tinyPost (tny e deep c) b w)) ?_ e
  intro op n s ks ih v deep c b w hF hcl hd hN hK
  simp only [Ex.op, Ex.n, Ex.s, Ex.ks] at hK ⊢
  obtain ⟨a, cap, rfl⟩ := hK.form
  have hs := hF.kids.1
  have hkc := hK.cap
  unfold exV strV
  obtain ⟨sb, hsb⟩ : ∃ sb : ByteArray, (⟨s.toArray⟩ : ByteArray) = sb := ⟨_, rfl⟩
  have hsz : sb.size = s.length := by rw [← hsb]; simp [ByteArray.size]
  have HSB := Lib.hid hsb
  obtain ⟨n0, n1, hlt⟩ := hN.cells
  have a0 := cell_old hlt n0
  have hfr : ∀ o : Obj, (w.alloc o).frozen? ⟨b, 0, none⟩ = false := fun o => (hN.keep ((Below.refl _ _).alloc (Nat.le_refl _) o)).cells.2.1
  have hne : ¬ w.heap.size = b := by omega
  have hX0 := LkW.start op n s (.slice a ks.length cap) hN ((c : Int) + 1)
  have HF := Lib.hid hF.kids.2
  have HI := Lib.hid ih
  have HK := Lib.hid hK
  obtain ⟨len, hlen⟩ : ∃ len, ks.length = len := ⟨_, rfl⟩
  have HLEN := Lib.hid hlen
  obtain ⟨R, hRe⟩ : ∃ R, tny (.mk op n s ks) deep c = R := ⟨_, rfl⟩
  have HRE := Lib.hid hRe
  obtain ⟨c1, hc1e⟩ : ∃ c1 : Nat, c + 1 = c1 := ⟨_, rfl⟩
  have hc1i : (c : Int) + 1 = (c1 : Int) := by omega
  have HC1 := Lib.hid hc1e
  rw [hlen] at HK hX0 hkc ⊢
  rw [hRe, hsb]
  have HX := Lib.hid hX0
  rw [hc1i] at HX
  have hcs : (300 ≤ c ∨ 35 < deep ∨ 1000 < s.length) ∨ (c < 300 ∧ deep ≤ 35 ∧ s.length ≤ 1000) := by omega
  have hcn : c1 ≤ 301 ∧ (300 ≤ c → 300 < c1) ∧ (c < 300 → c1 ≤ 300) := by omega
  have hszz : (1000 < s.length → 1000 < sb.size) ∧ (s.length ≤ 1000 → sb.size ≤ 1000) ∧ sb.size ≤ 9223372036854775807 := by omega
  clear hN hX0 hF ih hK hlen hc1e hRe hsb hsz
  go_enter Tryz.func12, Tryz.ntmps12
  go_upto_region 2 with fail
  generalize hXX : (w.setCell ⟨b, 0, none⟩ (.int .i64 (c1 : Int))).alloc (.cells #[.int .i64 op, .int .i64 n, .string sb, .slice a len cap] 24) = X at *
  have HX1 : Hid (LkW w X b op n s (.slice a len cap) (c1 : Int)) := Lib.hid (by rw [← hXX, ← HSB.out]; exact HX.out)
  clear a0 hfr n0 n1 hc1i hXX HX
  obtain ⟨⟨x0, x1, x2, x3⟩, y0, y1⟩ := HX1.out.cells
  rw [HSB.out] at x2
  rcases hcs with hbad | ⟨h1, h2, h3⟩
  · have HR : Hid (R = none) := Lib.hid (by rw [← HRE.out]; exact tny_no hbad)
    have hb' : 300 < c1 ∨ (¬ 300 < c1 ∧ 35 < deep) ∨ (¬ 300 < c1 ∧ ¬ 35 < deep ∧ 1000 < sb.size) := by
      by_cases g1 : 300 < c1
      · exact .inl g1
      · by_cases g2 : 35 < deep
        · exact .inr (.inl ⟨g1, g2⟩)
        · refine .inr (.inr ⟨g1, g2, ?_⟩)
          rcases hbad with h | h | h
          · have := hcn.2.1 h; omega
          · omega
          · exact hszz.1 h
    clear hbad hcn hszz
    rcases hb' with g1 | ⟨g1, g2⟩ | ⟨g1, g2, g3⟩
    all_goals
      go_wp2
      go_ret
      unfold tinyPost
      rw [HR.out]
      exact ⟨HX1.out.but, rfl⟩
  · have HR : Hid (R = tnyL ks (deep + 1) c1) := Lib.hid (by rw [← HRE.out, tny_yes (by omega), HC1.out])
    have g1 : ¬ 300 < c1 := by have := hcn.2.2 h1; omega
    have g2 : ¬ 35 < deep := by omega
    have g3 : ¬ 1000 < sb.size := by have := hszz.2.1 h3; omega
    have hc300 : c1 ≤ 300 := by omega
    clear hcn hszz h1 h3
    go_wp2
    clear x0 x1 x2 x3 y0 y1
    go_loopg [7] len (fun g i wr => ∃ (k cc : Nat), i = .int .i64 k ∧ Hid (LkW w wr b op n s (.slice a len cap) cc) ∧ cc ≤ 300 ∧ k + g = len ∧ Hid (tnyL (ks.drop k) (deep + 1) cc = R))
    case atStart => exact ⟨0, c1, rfl, HX1, hc300, by omega, Lib.hid (by rw [HR.out]; rfl)⟩
    case round =>
      obtain ⟨k, cc, rfl, HW, hcc3, hg, HC⟩ := hrel
      obtain ⟨⟨z0, z1, z2, z3⟩, z4, z5⟩ := HW.out.cells
      by_cases hlt2 : k < len
      · have hkl : k < ks.length := by have := HLEN.out; omega
        obtain ⟨bb, off, u, rfl, d0, d1, d2, d3, hKu⟩ := KV.atB (HK.out.mono HW.out.but.gb) (List.getElem?_eq_getElem hkl)
        obtain ⟨ua, uc, rfl⟩ := hKu.form
        have hdr : ks.drop k = ks[k] :: ks.drop (k + 1) := List.drop_eq_getElem_cons hkl
        have hmem : ks[k] ∈ ks := List.getElem_mem hkl
        have hcc := HC.out
        rw [hdr, tnyL_cons] at hcc
        have HCC := Lib.hid hcc
        have hlx := HI.out ks[k] hmem (.slice ua ks[k].ks.length uc) (deep + 1) cc b wr (HF.out _ hmem) hcc3 (by omega) HW.out.num hKu
        rw [show (((deep + 1 : Nat)) : Int) = (deep : Int) + 1 from by omega] at hlx
        unfold tinyPost exV strV at hlx
        unfold strV at d2
        have HLX := Lib.hid hlx
        clear hdr hcc hlx hKu HC
        generalize ks[k] = y at *
        cases hch : tny y (deep + 1) cc with
        | none =>
          rw [hch] at HLX HCC
          have HR2 : Hid (R = none) := Lib.hid (by rw [← HCC.out]; rfl)
          clear hch
          go_wp2_with fail
          refine HLX.out.mono ?_
          rintro e W3 ⟨hb3, rfl⟩
          have HB3 := Lib.hid (HW.out.but.trans hb3)
          clear hb3
          go_wp2
          try rw [Exit.noGoto_ret]
          go_ret
          unfold tinyPost
          rw [HR2.out]
          exact ⟨HB3.out, rfl⟩
        | some x =>
          rw [hch] at HLX HCC
          have HCC2 : Hid (tnyL (ks.drop (k + 1)) (deep + 1) x = R) := Lib.hid (by rw [← HCC.out]; rfl)
          clear hch
          go_wp2_with fail
          refine HLX.out.mono ?_
          rintro e W3 ⟨hb3, rfl, hx3, hnb⟩
          have HW3 := Lib.hid (HW.out.kid hb3 hnb)
          clear hb3 hnb
          go_wp2
          go_roundg (gk - 1)
          case rel => exact ⟨k + 1, x, by go_num, HW3, hx3, by omega, HCC2⟩
          case measure => omega
      · have hnil : ks.drop k = [] := List.drop_eq_nil_of_le (by have := HLEN.out; omega)
        have HE : Hid (R = some cc) := Lib.hid (by rw [← HC.out, hnil, tnyL_nil])
        clear hnil
        go_wp2
        go_ret
        unfold tinyPost
        rw [HE.out]
        exact ⟨HW.out.but, rfl, hcc3, HW.out.num⟩
set_option maxRecDepth 1000000 in
set_option maxHeartbeats 2000000 in
theorem Tiny_any (e : Ex) (v : Value) (w : World) (hF : Fine0 e) (hE : EV (gh w) v e) :
    Calls Tryz.prog 4 #[v] w fun r w' => r = .returned (.bool (tiny e)) ∧ Below w.heap.size w w' := by
  obtain ⟨kv, rfl, hK⟩ := hE
  obtain ⟨a, cap, rfl⟩ := hK.form
  have hb := (Below.refl w.heap.size w).alloc (Nat.le_refl _) (.cells #[.int .i64 e.op, .int .i64 e.n, .string ⟨e.s.toArray⟩, .slice a e.ks.length cap] 24)
  have hb2 := hb.alloc hb.size (.cells #[.int .i64 0] 3)
  have hnb : NB ((w.alloc (.cells #[.int .i64 e.op, .int .i64 e.n, .string ⟨e.s.toArray⟩, .slice a e.ks.length cap] 24)).alloc (.cells #[.int .i64 0] 3)) (w.heap.size + 1) 0 := by
    have := heap_alloc_new (w.alloc (.cells #[.int .i64 e.op, .int .i64 e.n, .string ⟨e.s.toArray⟩, .slice a e.ks.length cap] 24)) (.cells #[.int .i64 0] 3)
    simpa [NB] using this
  have hkb : KV (gb (w.heap.size + 1) ((w.alloc (.cells #[.int .i64 e.op, .int .i64 e.n, .string ⟨e.s.toArray⟩, .slice a e.ks.length cap] 24)).alloc (.cells #[.int .i64 0] 3))) (.slice a e.ks.length cap) e.ks := by
    refine KV.mono ?_ hK
    intro b o h
    have hlt := (Array.getElem?_eq_some_iff.1 h).1
    unfold gb
    rw [if_neg (by omega), hb2.block _ hlt]
    exact h
  have hl := tiny_any e (.slice a e.ks.length cap) 0 0 (w.heap.size + 1) _ hF (by omega) (by omega) hnb hkb
  have HC : Hid (tiny e = (tny e 0 0).isSome) := Lib.hid rfl
  unfold exV strV tinyPost at hl
  have HL := Lib.hid hl
  have HB := Lib.hid hb2
  clear hl hkb hnb hb hb2
  unfold exV strV
  cases hc : tny e 0 0 with
  | none =>
    rw [hc] at HL HC
    clear hc
    go_enter Tryz.func4, Tryz.ntmps4
    go_wp2_with fail
    refine HL.out.mono ?_
    rintro r W ⟨hbt, rfl⟩
    have HBT := Lib.hid hbt
    go_wp2
    go_ret
    refine ⟨by rw [HC.out]; rfl, ?_⟩
    have hx := HBT.out
    have hh := HB.out
    exact ⟨hx.os.trans hh.os, hx.tape.trans hh.tape, hx.output.trans hh.output, Nat.le_trans hh.size hx.size, fun b hb => (hx.block b (Nat.lt_of_lt_of_le hb hh.size) (by omega)).trans (hh.block b hb)⟩
  | some m =>
    rw [hc] at HL HC
    clear hc
    go_enter Tryz.func4, Tryz.ntmps4
    go_wp2_with fail
    refine HL.out.mono ?_
    rintro r W ⟨hbt, rfl, -, -⟩
    have HBT := Lib.hid hbt
    go_wp2
    go_ret
    refine ⟨by rw [HC.out]; rfl, ?_⟩
    have hx := HBT.out
    have hh := HB.out
    exact ⟨hx.os.trans hh.os, hx.tape.trans hh.tape, hx.output.trans hh.output, Nat.le_trans hh.size hx.size, fun b hb => (hx.block b (Nat.lt_of_lt_of_le hb hh.size) (by omega)).trans (hh.block b hb)⟩
end Go.Proofs.YtilmmgkclijhjaaGreatDoor
namespace Go.Proofs.YtilmmgkclijhjaaGreatDoor
open Go.RowKit Pal
/-- Parts that are being put in a row. -/
structure CpIn (n0 : Nat) (tau : Tag) (W : World) (l : List (Ex × Value)) (sv : Value) : Prop where
  row : Row tau 1 W 24 4 sv l.length (l.flatMap exCells)
  k : ∀ x ∈ l, KV (gp (fun b => n0 ≤ b ∧ tau b ≠ 1) W) x.2 x.1.ks
  ge : ∀ b, tau b = 1 → n0 ≤ b ∧ b < W.heap.size
section
variable {n0 : Nat} {tau : Tag} {W W' : World} {l : List (Ex × Value)} {sv : Value}
theorem CpIn.keep (h : CpIn n0 tau W l sv) (hb : Below W.heap.size W W') : CpIn n0 tau W' l sv :=
  ⟨h.row.call hb, fun x hx => (h.k x hx).mono (gp_le fun b hb2 hl => ⟨hb2, hb.block _ hl⟩), fun b hb2 => ⟨(h.ge b hb2).1, by have := (h.ge b hb2).2; have := hb.size; omega⟩⟩
theorem CpIn.kv (h : CpIn n0 tau W l sv) : KV (gp (fun b => n0 ≤ b) W) sv (l.map Prod.fst) := by
  obtain ⟨a, cap, hv, h1, h2, h3, h4⟩ := SlV.ofRow exCells l (⟨.mk 0 0 [] [], .nilIface⟩ : Ex × Value) (by decide) exCells_len h.row
  have ht := h.row.tag
  subst hv
  have hlm : l.length = (l.map Prod.fst).length := by simp
  rw [hlm] at h1 h2 h4 ⊢
  have hbk : ∀ b off, a = some ⟨b, off, none⟩ → n0 ≤ b := by
    intro b off e
    subst e
    exact (h.ge b (ht b rfl)).1
  have hcell : ∀ (b off i : Nat) (x : Value), a = some ⟨b, off, none⟩ → (gh W).cell b i = some x → (gp (fun b => n0 ≤ b) W).cell b i = some x := by
    intro b off i x e hc
    unfold GH.cell gp
    rw [if_pos (hbk b off e)]
    exact hc
  have hget : ∀ (j : Nat) (k : Ex), (l.map Prod.fst)[j]? = some k → j < (l.map Prod.fst).length ∧ ∃ x ∈ l, l.getD j ⟨.mk 0 0 [] [], .nilIface⟩ = x ∧ x.1 = k := by
    intro j k hj
    obtain ⟨hjl, -⟩ := List.getElem?_eq_some_iff.1 hj
    rw [List.getElem?_map] at hj
    cases hx : l[j]? with
    | none => rw [hx] at hj; cases hj
    | some x =>
      rw [hx] at hj
      simp only [Option.map_some, Option.some.injEq] at hj
      refine ⟨hjl, x, List.mem_of_getElem? hx, ?_, hj⟩
      rw [List.getD_eq_getElem?_getD, hx]; rfl
  refine .mk (l.map Prod.fst) a cap (fun j => (l.getD j ⟨.mk 0 0 [] [], .nilIface⟩).2) (fun e => ?_) h2 h3 (fun j k hj => ?_) (fun j k hj => ?_)
  · have := h1 e
    exact ⟨List.eq_nil_of_length_eq_zero this.1, this.2⟩
  · obtain ⟨hjl, x, hx, hg, rfl⟩ := hget j k hj
    have e0 := h4 j 0 _ hjl (by simp only [hg]; rfl)
    have e1 := h4 j 1 _ hjl (by simp only [hg]; rfl)
    have e2 := h4 j 2 _ hjl (by simp only [hg]; rfl)
    have e3 := h4 j 3 _ hjl (by simp only [hg]; rfl)
    obtain ⟨b, off, ha, c0⟩ := e0
    obtain ⟨b1, off1, ha1, c1⟩ := e1
    obtain ⟨b2, off2, ha2, c2⟩ := e2
    obtain ⟨b3, off3, ha3, c3⟩ := e3
    rw [ha] at ha1 ha2 ha3
    simp only [Option.some.injEq, Addr.mk.injEq, and_true] at ha1 ha2 ha3
    obtain ⟨rfl, rfl⟩ := ha1
    obtain ⟨rfl, rfl⟩ := ha2
    obtain ⟨rfl, rfl⟩ := ha3
    refine ⟨b, off, ha, ?_, ?_, ?_, ?_⟩
    · have := hcell b off _ _ ha c0; rw [show off + (4 * j + 0) = off + j * 4 by omega] at this; exact this
    · have := hcell b off _ _ ha c1; rw [show off + (4 * j + 1) = off + j * 4 + 1 by omega] at this; exact this
    · have := hcell b off _ _ ha c2; rw [show off + (4 * j + 2) = off + j * 4 + 2 by omega] at this; exact this
    · have := hcell b off _ _ ha c3; rw [show off + (4 * j + 3) = off + j * 4 + 3 by omega] at this; simp only [hg]; exact this
  · obtain ⟨hjl, x, hx, hg, rfl⟩ := hget j k hj
    simp only [hg]
    exact (h.k x hx).mono (gp_le fun b hb _ => ⟨hb.1, rfl⟩)
theorem CpIn.app {t' : Tag} {w' : World} {v' : Value} {e : Ex} {u : Value} (h : CpIn n0 tau W l sv) (hn : n0 ≤ W.heap.size) (hr : Row t' 1 w' 24 4 v' (l.length + 1) (l.flatMap exCells ++ exCells (e, u)))
    (he : Evo tau W t' w' (· = 1)) (hu : KV (gp (fun b => n0 ≤ b ∧ tau b ≠ 1) W) u e.ks) :
    (∃ t2, CpIn n0 t2 w' (l ++ [(e, u)]) v') ∧ ∀ w0 : World, Below n0 w0 W → Below n0 w0 w' := by
  have nt : ∀ b, b < n0 → tau b ≠ 1 := fun b hb e => by have := (h.ge b e).1; omega
  have hblk : ∀ b, b < W.heap.size → tau b ≠ 1 → w'.heap[b]? = W.heap[b]? := fun b hb hn => he.block b hb hn
  have hlive : ∀ b, v'.ownBlock = some b → b < w'.heap.size := by
    intro b hb
    rcases hr.own.2 with ⟨rfl, hn⟩ | ⟨g, cap, cur, rfl, hbg, hgg, hn, hc, hs, ht⟩
    · simp [Value.ownBlock] at hb
    · simp [Value.ownBlock] at hb
      subst hb
      exact (Array.getElem?_eq_some_iff.1 hgg).1
  have hs := he.size
  have hnew : ∀ b, b < w'.heap.size → t' b = 1 → n0 ≤ b := by
    intro b hb e
    by_cases hbl : b < W.heap.size
    · rw [he.tag b hbl] at e; exact (h.ge b e).1
    · omega
  have hfl : (l ++ [(e, u)]).flatMap exCells = l.flatMap exCells ++ exCells (e, u) := by rw [List.flatMap_append]; simp
  have hkk : ∀ (u : Value) (ks : List Ex), KV (gp (fun b => n0 ≤ b ∧ tau b ≠ 1) W) u ks → KV (gp (fun b => n0 ≤ b ∧ (if b < w'.heap.size then t' b else 0) ≠ 1) w') u ks := fun u ks hk =>
    hk.mono (gp_le fun b hb hl => ⟨⟨hb.1, by rw [if_pos (by omega), he.tag b hl]; exact hb.2⟩, hblk b hl hb.2⟩)
  refine ⟨⟨fun b => if b < w'.heap.size then t' b else 0, ⟨?_, ?_, ?_⟩⟩, ?_⟩
  · rw [hfl, List.length_append]
    exact ⟨hr.own, fun g hg => by
      show (if g < w'.heap.size then t' g else 0) = 1
      rw [if_pos (hlive g hg)]; exact hr.tag g hg⟩
  · intro x hx
    rcases List.mem_append.1 hx with hx | hx
    · exact hkk _ _ (h.k x hx)
    · obtain rfl := List.mem_singleton.1 hx
      exact hkk _ _ hu
  · intro b hb
    by_cases hbl : b < w'.heap.size
    · rw [if_pos hbl] at hb
      exact ⟨hnew b hbl hb, hbl⟩
    · rw [if_neg hbl] at hb; omega
  · intro w0 h0
    exact ⟨he.os.trans h0.os, he.tape.trans h0.tape, he.output.trans h0.output, Nat.le_trans h0.size hs, fun b hb => (hblk b (by omega) (nt b hb)).trans (h0.block b hb)⟩
end
/-- A copy, in new memory. -/
def copyPost (e : Ex) (w : World) (r : Ending) (w' : World) : Prop :=
  Below w.heap.size w w' ∧ ∃ v, r = .returned (exV e.op e.n e.s v) ∧ KV (gp (fun b => w.heap.size ≤ b) w') v e.ks
theorem infoEx : (Tryz.prog.info? 24).map (fun i => (i.zero, i.size, i.bytes)) = some (some (.agg #[.int .i64 0, .int .i64 0, .string ⟨#[]⟩, .slice none 0 0]), 4, 56) := by kernel_rfl
theorem Slim.parts {op n : Int} {s : Bs} {ks : List Ex} {d : Nat} (h : Slim (.mk op n s ks) d) : d ≤ 35 ∧ ks.length ≤ 300 ∧ ∀ k ∈ ks, Slim k (d + 1) := by
  cases h with | mk _ _ _ _ _ hd hs hl hk => exact ⟨hd, hl, hk⟩
theorem copyPost.ev {e : Ex} {w w' : World} {r : Ending} (h : copyPost e w r w') : ∃ v, r = .returned v ∧ EV (gh w') v e := by
  obtain ⟨_, v, hr, hk⟩ := h
  exact ⟨_, hr, v, rfl, hk.mono (gp_gh _ _)⟩
end Go.Proofs.YtilmmgkclijhjaaGreatDoor
