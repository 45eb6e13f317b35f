/- The walks of the document's digits, Dec. Condition: the number is a uint64's, an int64's. The walk of the document's Quote. Condition: the text is valid and no longer than 400 bytes. The walk of the document's Text. Condition: an expression that may be. Names: plain law: the program's, sorted, each once, are the document's. No condition. The walk of parse.names. Condition: an expression in blocks that are not the row's own. The walk of parse.Names. Condition: an expression that may be. The walk of palaverlaw07.ParseTexts. Conditions: the tables hold what they are laid with. -/
import Derived.Test.YtoklhppalkgdeaaGreatDoorPl
import Derived.Test.YtoklhppalkgdeaaGreatDoorR1
import Derived.Test.YtoklhppalkgdeaaGreatDoorRH
import Derived.IntWalk
import Derived.Test.YtoklhppalkgdeaaGreatDoorRD
import Derived.Test.YtoklhppalkgdeaaGreatDoorVs
import Derived.Test.YtoklhppalkgdeaaGreatDoorEA
import Derived.RegionTactic
import Derived.ChangeAlike
import Derived.Test.YtoklhppalkgdeaaGreatDoorRG
import Derived.Test.YtoklhppalkgdeaaGreatDoorS4
import Derived.Test.YtoklhppalkgdeaaGreatDoorVc
import Derived.Deep.RegionHeld3
import Derived.Test.YtoklhppalkgdeaaGreatDoorNM
import Derived.Lib.SlicesCompact
import Derived.Sort.Walk0
import Derived.Test.YtoklhppalkgdeaaGreatDoorShelfB
import Derived.Sort.OwnSorted
import Derived.Lib.OwnBridge
import Derived.Test.YtoklhppalkgdeaaGreatDoorQ8
import Derived.Test.YtoklhppalkgdeaaGreatDoorCp
import Derived.Test.YtoklhppalkgdeaaGreatDoorS5
import Derived.Test.YtoklhppalkgdeaaGreatDoorPm
set_option linter.unusedSimpArgs false
set_option linter.unusedVariables false
set_option linter.unusedSectionVars false
namespace Go.Proofs.YtoklhppalkgdeaaGreatDoor
open Go.RowKit Pal
def digS : ByteArray := ⟨#[48, 49, 50, 51, 52, 53, 54, 55, 56, 57]⟩
theorem dig_slice (j : Nat) (hj : j < 10) (W : World) : (Instr.slice 9 (.string ⟨#[48, 49, 50, 51, 52, 53, 54, 55, 56, 57]⟩) (some (.int .u64 j)) (some (.int .u64 ((j : Int) + 1))) none).run Tryz.prog W = .ok (.string ⟨#[UInt8.ofNat (48 + j)]⟩) W := by
  rcases (by omega : j = 0 ∨ j = 1 ∨ j = 2 ∨ j = 3 ∨ j = 4 ∨ j = 5 ∨ j = 6 ∨ j = 7 ∨ j = 8 ∨ j = 9) with rfl | rfl | rfl | rfl | rfl | rfl | rfl | rfl | rfl | rfl <;> kernel_rfl
theorem dec_step {x : Nat} (h : ¬ x < 10) : Lib.decDigits x = Lib.decDigits (x / 10) ++ [UInt8.ofNat (48 + x % 10)] := by rw [Lib.decDigits, dif_neg h]
theorem dec_len {u : Nat} (h : u < 18446744073709551616) : (Lib.decDigits u).length ≤ 20 := by
  have key : ∀ (k u : Nat), u < 10 ^ (k + 1) → (Lib.decDigits u).length ≤ k + 1 := by
    intro k
    induction k with
    | zero => intro u hu; rw [Lib.decDigits_one (by simpa using hu)]; simp
    | succ k ih =>
      intro u hu
      by_cases h : u < 10
      · rw [Lib.decDigits_one h]; simp
      · rw [dec_step h, List.length_append]
        have := ih (u / 10) (by rw [Nat.pow_succ] at hu; omega)
        simp; omega
  exact key 19 u (by omega)
set_option maxRecDepth 1000000 in
set_option maxHeartbeats 4000000 in
theorem digits_any (u : Nat) (hu : u < 18446744073709551616) (w : World) :
    Calls Tryz.prog 94 #[.int .u64 u] w fun e w' => e = .returned (strV (Lib.decDigits u)) ∧ w = w' := by
  have HL := Lib.hid (dec_len hu)
  have HSL := Lib.hid dig_slice
  go_enter Tryz.func94, Tryz.ntmps94
  go_wp2
  go_loopg [0, 3] u (fun g a b wr => ∃ (x : Nat) (sb : ByteArray), a = .int .u64 x ∧ b = .string sb ∧ wr = w ∧ x ≤ g ∧ x < 18446744073709551616 ∧ Hid (Lib.decDigits x ++ sb.data.toList = Lib.decDigits u))
  case atStart => exact ⟨u, ⟨#[]⟩, rfl, rfl, rfl, Nat.le_refl _, hu, Lib.hid (by simp)⟩
  case round =>
    obtain ⟨x, sb, rfl, rfl, rfl, hg, hx, HD⟩ := hrel
    have hsz : sb.size ≤ 20 := by
      have h1 := congrArg List.length HD.out
      rw [List.length_append] at h1
      have h2 := HL.out
      have h3 : sb.data.toList.length = sb.size := by rw [Array.length_toList]; rfl
      omega
    by_cases h10 : x < 10
    · have h10' : ¬ (10 : Int) ≤ (x : Int) := by omega
      have hsl := fun W => HSL.out x h10 W
      have w1 : IntKind.u64.wrap ((x : Int) + 1) = (x : Int) + 1 := IntWalk.u64_in _ (by omega)
      obtain ⟨c, hc⟩ : ∃ c, UInt8.ofNat (48 + x) = c := ⟨_, rfl⟩
      rw [hc] at hsl
      have HE : Hid ((⟨#[c]⟩ ++ sb : ByteArray).data.toList = Lib.decDigits u) := Lib.hid (by rw [← HD.out, Lib.decDigits_one h10, hc]; simp)
      clear HD hc
      go_wp2
      go_ret
      refine ⟨?_, rfl⟩
      have := HE.out
      rw [← this, strV_data]
      rfl
    · have h10' : (10 : Int) ≤ (x : Int) := by omega
      obtain ⟨d, hd⟩ : ∃ d, x % 10 = d := ⟨_, rfl⟩
      obtain ⟨q, hq⟩ : ∃ q, x / 10 = q := ⟨_, rfl⟩
      have hd10 : d < 10 := by omega
      have t1 : (x : Int).tmod 10 = (d : Int) := by rw [← hd]; rfl
      have t2 : (x : Int).tdiv 10 = (q : Int) := by rw [← hq]; rfl
      have hsl := fun W => HSL.out d hd10 W
      have w1 : IntKind.u64.wrap ((d : Int) + 1) = (d : Int) + 1 := IntWalk.u64_in _ (by omega)
      obtain ⟨c, hc⟩ : ∃ c, UInt8.ofNat (48 + d) = c := ⟨_, rfl⟩
      rw [hc] at hsl
      have HE : Hid (Lib.decDigits q ++ (⟨#[c]⟩ ++ sb : ByteArray).data.toList = Lib.decDigits u) := Lib.hid (by rw [← HD.out, dec_step h10, hd, hq, hc]; simp)
      clear HD hc
      go_wp2
      go_roundg (gk - 1)
      case rel => exact ⟨q, _, rfl, rfl, rfl, by omega, by omega, HE⟩
      case measure => omega
set_option maxRecDepth 1000000 in
set_option maxHeartbeats 2000000 in
theorem dec_any (n : Int) (h0 : 0 ≤ n) (h1 : n ≤ 9223372036854775807) (w : World) :
    Calls Tryz.prog 50 #[.int .i64 n] w fun e w' => e = .returned (strV (Lib.itoa n)) ∧ w = w' := by
  obtain ⟨u, rfl⟩ := Int.eq_ofNat_of_zero_le h0
  have HD := Lib.hid (digits_any u (by omega) w)
  rw [Lib.itoa_nonneg]
  have h2 : ¬ (u : Int) < 0 := by omega
  have w1 : IntKind.u64.wrap (u : Int) = (u : Int) := IntWalk.u64_in _ (by omega)
  generalize Lib.decDigits u = l at *
  unfold strV at *
  go_enter Tryz.func50, Tryz.ntmps50
  go_wp2_with fail
  refine HD.out.mono ?_
  rintro e W ⟨rfl, rfl⟩
  go_wp2
  go_ret
  exact ⟨rfl, rfl⟩
set_option maxRecDepth 1000000 in
set_option maxHeartbeats 4000000 in
theorem sameTexts_eq (l : List Bs) (va vb : Value) (w : World) (hl : l.length ≤ 100000) (hA : StrsV (gh w) va l) (hB : StrsV (gh w) vb l) :
    Calls Tryz.prog 30 #[va, vb] w fun e w' => e = .returned (.bool true) ∧ Below w.heap.size w w' := by
  obtain ⟨a, c, rfl⟩ := hA.form
  obtain ⟨b, d, rfl⟩ := hB.form
  obtain ⟨n, hn⟩ : ∃ n, l.length = n := ⟨_, rfl⟩
  have HN := Lib.hid hn
  rw [hn] at hA hB hl ⊢
  have HA := Lib.hid hA
  have HB := Lib.hid hB
  clear hA hB hn
  go_enter Tryz.func30, Tryz.ntmps30
  go_wp2
  go_loopg [5] n (fun g i wr => ∃ k : Nat, i = .int .i64 k ∧ k + g = n ∧ Hid (Below w.heap.size w wr))
  case atStart => exact ⟨0, rfl, by omega, Lib.hid (Below.refl _ _)⟩
  case round =>
    obtain ⟨k, rfl, hg, HW⟩ := hrel
    by_cases hlt : k < n
    · have hkl : k < l.length := by have := HN.out; omega
      obtain ⟨b1, o1, rfl, c0⟩ := (HA.out.mono (below_gh HW.out)).at (List.getElem?_eq_getElem hkl)
      obtain ⟨b2, o2, rfl, d0⟩ := (HB.out.mono (below_gh HW.out)).at (List.getElem?_eq_getElem hkl)
      unfold strV at c0 d0
      generalize l[k] = s at *
      have q1 : (s == s) = true := beq_self_eq_true s
      go_wp2
      go_region
      go_wp2
      go_roundg (gk - 1)
      case rel => exact ⟨k + 1, by go_num, by omega, Lib.hid HW.out.drew⟩
      case measure => omega
    · go_wp2
      go_ret
      exact ⟨rfl, HW.out⟩
end Go.Proofs.YtoklhppalkgdeaaGreatDoor
namespace Go.Proofs.YtoklhppalkgdeaaGreatDoor
open Go.RowKit Pal
theorem hex_slice (j : Nat) (hj : j < 16) (W : World) : (Instr.slice 9 (.string ⟨#[48, 49, 50, 51, 52, 53, 54, 55, 56, 57, 97, 98, 99, 100, 101, 102]⟩) (some (.int .i32 j)) (some (.int .i32 ((j : Int) + 1))) none).run Tryz.prog W = .ok (.string ⟨#[hexB j]⟩) W := by
  rcases (by omega : j = 0 ∨ j = 1 ∨ j = 2 ∨ j = 3 ∨ j = 4 ∨ j = 5 ∨ j = 6 ∨ j = 7 ∨ j = 8 ∨ j = 9 ∨ j = 10 ∨ j = 11 ∨ j = 12 ∨ j = 13 ∨ j = 14 ∨ j = 15) with rfl | rfl | rfl | rfl | rfl | rfl | rfl | rfl | rfl | rfl | rfl | rfl | rfl | rfl | rfl | rfl <;> kernel_rfl
theorem quoteF_two : ∀ (f g : Nat) (l : Bs), l.length ≤ f → l.length ≤ g → quoteF f l = quoteF g l := by
  intro f
  induction f with
  | zero =>
    intro g l h _
    have : l = [] := List.eq_nil_of_length_eq_zero (by omega)
    subst this
    rw [quoteF_end _ _ rfl, quoteF_end _ _ rfl]
  | succ f ih =>
    intro g l h1 h2
    by_cases hn : l = []
    · rw [quoteF_end _ _ hn, quoteF_end _ _ hn]
    · have hd := drop_len hn
      cases g with
      | zero => exact absurd (List.eq_nil_of_length_eq_zero (by omega)) hn
      | succ g => rw [quoteF_go hn, quoteF_go hn, ih g _ (by omega) (by omega)]
def quoteQ (l : Bs) : Bs := quoteF l.length l
theorem quoteQ_go {l : Bs} (h : l ≠ []) : quoteQ l = quote1 (rn l) ++ quoteQ (l.drop (wd l)) := by
  unfold quoteQ
  cases hl : l.length with
  | zero => exact absurd (List.eq_nil_of_length_eq_zero hl) h
  | succ n =>
    rw [quoteF_go h]
    congr 1
    have := drop_len h
    exact quoteF_two _ _ _ (by omega) (Nat.le_refl _)
theorem str_slice (sb : ByteArray) (p q : Nat) (h1 : p ≤ q) (h2 : q ≤ sb.size) (W : World) : (Instr.slice 9 (.string sb) (some (.int .i64 p)) (some (.int .i64 q)) none).run Tryz.prog W = .ok (.string (sb.extract p q)) W := by
  have hu := Tryz.underlying9
  simp [go_sem, hu, h1, h2]
theorem quote1_esc {r : Int} (h : r = 34 ∨ r = 92) : quote1 r = 92 :: Lib.encodeRune r := by unfold quote1; rw [if_pos h]
theorem quote1_ctl {r : Int} (h : ¬ (r = 34 ∨ r = 92)) (h2 : r < 32 ∨ (127 ≤ r ∧ r ≤ 159)) : quote1 r = [92, 117, 48, 48, hexB (r.toNat / 16), hexB (r.toNat % 16)] := by unfold quote1; rw [if_neg h, if_pos h2]
theorem quote1_raw {r : Int} (h : ¬ (r = 34 ∨ r = 92)) (h2 : ¬ (r < 32 ∨ (127 ≤ r ∧ r ≤ 159))) : quote1 r = Lib.encodeRune r := by unfold quote1; rw [if_neg h, if_neg h2]
set_option maxRecDepth 1000000 in
set_option maxHeartbeats 8000000 in
theorem refQuote_any (s : Bs) (w : World) (hs : s.length ≤ 400) (hv : val s = true) : Calls Tryz.prog 51 #[.string ⟨s.toArray⟩] w (strPost (quoteB s) w) := by
  have hpc := pieces_any ⟨s.toArray⟩ w (by simp [ByteArray.size]; omega)
  unfold piecesPost at hpc
  simp only [List.toList_toArray] at hpc
  obtain ⟨sb, hsb⟩ : ∃ sb : ByteArray, (⟨s.toArray⟩ : ByteArray) = sb := ⟨_, rfl⟩
  have hsz : sb.size = s.length := by rw [← hsb]; simp [ByteArray.size]
  have HEX : Hid (∀ p q, sb.extract p q = ⟨((s.drop p).take (q - p)).toArray⟩) := Lib.hid (fun p q => by rw [← hsb]; exact ext_bytes s p q)
  rw [hsb] at hpc ⊢
  have HPP := Lib.hid hpc
  have HQ0 : Hid ([34] ++ (quoteQ s ++ [34]) = quoteB s) := Lib.hid (by unfold quoteB quoteQ; rfl)
  have HV0 := Lib.hid hv
  have HHX := Lib.hid hex_slice
  obtain ⟨R, hR⟩ : ∃ R, quoteB s = R := ⟨_, rfl⟩
  rw [hR] at HQ0 ⊢
  clear hpc hsb hv hR
  unfold strPost
  go_enter Tryz.func51, Tryz.ntmps51
  go_wp2_with fail
  refine HPP.out.mono ?_
  rintro e w0 ⟨hb0, pv, rfl, hpv⟩
  have HPV := Lib.hid hpv
  have HB0 := Lib.hid hb0
  obtain ⟨pa, pcap, rfl⟩ := hpv.form
  have hcl := cnt_le s
  have HLT : Hid (∀ k p, AtP s k p → (k < cnt s ↔ p < s.length)) := Lib.hid (fun k p h => h.lt)
  obtain ⟨n, hn⟩ : ∃ n, cnt s = n := ⟨_, rfl⟩
  rw [hn] at HPV HLT hcl ⊢
  clear hpv hb0 HPP hn
  go_wp2
  go_loopg [3, 5] s.length (fun g tv iv wr => ∃ (k p : Nat) (tb : ByteArray), tv = .string tb ∧ iv = .int .i64 k ∧ Hid (AtP s k p) ∧ Hid (Below w0.heap.size w0 wr) ∧ Hid (tb.data.toList ++ (quoteQ (s.drop p) ++ [34]) = R) ∧ Hid (val (s.drop p) = true) ∧ s.length ≤ p + g ∧ p ≤ s.length ∧ tb.size ≤ 6 * p + 1)
  case atStart => exact ⟨0, 0, ⟨#[34]⟩, rfl, rfl, Lib.hid .zero, Lib.hid (Below.refl _ _), Lib.hid (by rw [List.drop_zero]; exact HQ0.out), Lib.hid (by rw [List.drop_zero]; exact HV0.out), by omega, by omega, by simp [ByteArray.size]⟩
  case round =>
    obtain ⟨k, p, tb, rfl, rfl, HAT, HBW, HQ, HV, hg, hple, htb⟩ := hrel
    clear HQ0 HV0
    by_cases hp : p < s.length
    · have hk : k < n := (HLT.out _ _ HAT.out).2 hp
      obtain ⟨b, off, hpa, d0, d1, d2, d3⟩ := (HPV.out.mono (below_gh HBW.out)).at HAT.out hp
      subst hpa
      have hne := drop_ne hp
      obtain ⟨hv1, -, hv3, -⟩ := val_step hne HV.out
      have hwp := wd_pos (s.drop p)
      have hw4 := wd_le4 (s.drop p)
      have hwl := wd_le hne
      rw [List.length_drop] at hwl
      have hrr := rn_range (s.drop p)
      have HAT2 := Lib.hid (HAT.out.step hp)
      have HNX : Hid (∀ ub : ByteArray, ub.data.toList = tb.data.toList ++ quote1 (rn (s.drop p)) → ub.data.toList ++ (quoteQ (s.drop (p + wd (s.drop p))) ++ [34]) = R) := Lib.hid (fun ub hu => by
        rw [hu, ← HQ.out, quoteQ_go hne, List.drop_drop]
        simp [List.append_assoc])
      have HV2 : Hid (val (s.drop (p + wd (s.drop p))) = true) := Lib.hid (by rw [List.drop_drop] at hv3; exact hv3)
      have hsc : scalar (rn (s.drop p)) := scalar_rn _
      have HE1 : Hid (Lib.encodeRune (rn (s.drop p)) = (s.drop p).take (wd (s.drop p))) := Lib.hid hv1
      have HRB := Lib.hid (fun W => rbytes_any (rn (s.drop p)) W hsc)
      have hel := (enc_len (rn (s.drop p))).2
      generalize rn (s.drop p) = r at *
      generalize wd (s.drop p) = z at *
      clear hv1 hv3 hne hsc HV HQ
      by_cases c1 : r = 34 ∨ r = 92
      · have HQ1 := Lib.hid (quote1_esc c1)
        obtain ⟨eb, heb⟩ : ∃ eb : ByteArray, (⟨(Lib.encodeRune r).toArray⟩ : ByteArray) = eb := ⟨_, rfl⟩
        have hes : eb.size ≤ 4 := by rw [← heb]; simpa [ByteArray.size] using hel
        have HEB : Hid (eb.data.toList = Lib.encodeRune r) := Lib.hid (by rw [← heb])
        rw [heb] at HRB
        have hway : (r == 34) = true ∨ ((r == 34) = false ∧ (r == 92) = true) := by
          by_cases h : r = 34
          · exact .inl (by simp [h])
          · exact .inr ⟨beq_eq_false_iff_ne.2 h, by rcases c1 with e | e; exact absurd e h; simp [e]⟩
        clear c1 heb hrr
        rcases hway with w1 | ⟨w1, w2⟩
        all_goals
          go_wp2_with fail
          refine (HRB.out _).mono ?_
          rintro e W2 ⟨rfl, hb2⟩
          have HB2 := Lib.hid (HBW.out.seq hb2)
          clear hb2
          go_wp2
          go_roundg (gk - 1)
          case rel => exact ⟨k + 1, p + z, (tb ++ ⟨#[92]⟩) ++ eb, rfl, by go_num, HAT2, HB2, Lib.hid (HNX.out _ (by rw [HQ1.out, ← HEB.out]; simp)), HV2, by omega, by omega, by simp [ByteArray.size_append]; have : (⟨#[92]⟩ : ByteArray).size = 1 := rfl; omega⟩
          case measure => omega
      · have n1 : (r == 34) = false := beq_eq_false_iff_ne.2 (fun e => c1 (.inl e))
        have n2 : (r == 92) = false := beq_eq_false_iff_ne.2 (fun e => c1 (.inr e))
        by_cases c2 : r < 32 ∨ (127 ≤ r ∧ r ≤ 159)
        · have HQ1 := Lib.hid (quote1_ctl c1 c2)
          obtain ⟨m, rfl⟩ := Int.eq_ofNat_of_zero_le hrr.1
          have hm : m ≤ 159 := by omega
          obtain ⟨hh, hhe⟩ : ∃ x, m / 16 = x := ⟨_, rfl⟩
          obtain ⟨hl, hle⟩ : ∃ x, m % 16 = x := ⟨_, rfl⟩
          have hh16 : hh < 16 := by omega
          have hl16 : hl < 16 := by omega
          have t1 : (m : Int).tdiv 16 = (hh : Int) := by rw [← hhe]; rfl
          have t2 : (m : Int).tmod 16 = (hl : Int) := by rw [← hle]; rfl
          have hx1 := fun W => HHX.out hh hh16 W
          have hx2 := fun W => HHX.out hl hl16 W
          obtain ⟨ch, hch⟩ : ∃ c, hexB hh = c := ⟨_, rfl⟩
          obtain ⟨cl, hcl2⟩ : ∃ c, hexB hl = c := ⟨_, rfl⟩
          rw [hch] at hx1
          rw [hcl2] at hx2
          have HQ2 : Hid (quote1 (m : Int) = [92, 117, 48, 48, ch, cl]) := Lib.hid (by rw [HQ1.out]; simp [hhe, hle, hch, hcl2])
          have hway : (m : Int) < 32 ∨ (¬ (m : Int) < 32 ∧ (127 : Int) ≤ m ∧ (m : Int) ≤ 159) := by omega
          clear c1 c2 HQ1 HRB HE1 hel hhe hle hch hcl2
          rcases hway with w1 | ⟨w1, w2, w3⟩
          all_goals
            go_wp2
            go_region
            go_wp2
            go_roundg (gk - 1)
            case rel => exact ⟨k + 1, p + z, ((tb ++ ⟨#[92, 117, 48, 48]⟩) ++ ⟨#[ch]⟩) ++ ⟨#[cl]⟩, rfl, by go_num, HAT2, Lib.hid HBW.out.drew, Lib.hid (HNX.out _ (by rw [HQ2.out]; simp)), HV2, by omega, by omega, by simp [ByteArray.size_append]; have : (⟨#[92, 117, 48, 48]⟩ : ByteArray).size = 4 := rfl; have : (⟨#[ch]⟩ : ByteArray).size = 1 := rfl; have : (⟨#[cl]⟩ : ByteArray).size = 1 := rfl; omega⟩
            case measure => omega
        · have HQ1 := Lib.hid (quote1_raw c1 c2)
          have hway : (¬ r < 32 ∧ ¬ (127 : Int) ≤ r) ∨ (¬ r < 32 ∧ (127 : Int) ≤ r ∧ ¬ r ≤ 159) := by omega
          obtain ⟨eb, heb⟩ : ∃ eb, sb.extract p (p + z) = eb := ⟨_, rfl⟩
          have HEB : Hid (eb.data.toList = Lib.encodeRune r) := Lib.hid (by rw [← heb, HEX.out, HE1.out]; simp)
          have hes : eb.size = z := by
            have h1 := congrArg List.length HEB.out
            rw [HE1.out, List.length_take, List.length_drop] at h1
            have h3 : eb.data.toList.length = eb.size := by rw [Array.length_toList]; rfl
            omega
          have hpz : p + z ≤ sb.size := by omega
          have hpz2 : (p : Int) + (z : Int) ≤ (sb.size : Int) := by omega
          obtain ⟨q, hq⟩ : ∃ q, p + z = q := ⟨_, rfl⟩
          have e1 : (p : Int) + (z : Int) = (q : Int) := by omega
          have hqs : q ≤ sb.size := by omega
          have hpq : p ≤ q := by omega
          rw [hq] at heb hpz HAT2 HNX HV2
          clear hpz2
          have hsl := fun W => str_slice sb p q hpq hqs W
          rw [heb] at hsl
          clear hqs hpq hpz
          clear c1 c2 HRB HE1 hel HHX HEX
          rcases hway with ⟨w1, w2⟩ | ⟨w1, w2, w3⟩
          all_goals
            go_wp2
            go_region
            go_wp2
            go_roundg (gk - 1)
            case rel => exact ⟨k + 1, q, tb ++ eb, rfl, by go_num, HAT2, Lib.hid HBW.out.drew, Lib.hid (HNX.out _ (by rw [HQ1.out, ← HEB.out]; simp)), HV2, by omega, by omega, by simp [ByteArray.size_append]; omega⟩
            case measure => omega
    · have hpe : p = s.length := by omega
      subst hpe
      have hkn : ¬ k < n := fun h => hp ((HLT.out _ _ HAT.out).1 h)
      have HE : Hid ((tb ++ ⟨#[34]⟩ : ByteArray).data.toList = R) := Lib.hid (by rw [← HQ.out, List.drop_length]; simp [quoteQ, quoteF])
      clear HQ HV
      go_wp2
      go_ret
      refine ⟨?_, HB0.out.seq HBW.out⟩
      rw [← HE.out, strV_data]
      rfl
end Go.Proofs.YtoklhppalkgdeaaGreatDoor
namespace Go.Proofs.YtoklhppalkgdeaaGreatDoor
open Go.RowKit Pal
def RTextW (e : Ex) : Prop := ∀ (v : Value) (w : World), Tz e → KV (gh w) v e.ks → Calls Tryz.prog 29 #[exV e.op e.n e.s v] w (strPost (textX e) w)
def sgL : List Bs := [[43], [45], [42], [47], [37], [61], [33, 61], [60], [60, 61], [38], [124]]
theorem sgL_at {j : Nat} (h : j < 11) : sgL[j]? = some (sgn ((j : Int) + 7)) := by
  rcases (by omega : j = 0 ∨ j = 1 ∨ j = 2 ∨ j = 3 ∨ j = 4 ∨ j = 5 ∨ j = 6 ∨ j = 7 ∨ j = 8 ∨ j = 9 ∨ j = 10) with rfl | rfl | rfl | rfl | rfl | rfl | rfl | rfl | rfl | rfl | rfl <;> decide
def wdL : List Bs := [[105, 102], [108, 101, 110], [99, 97, 116], [99, 117, 116], [104, 97, 115], [117, 112]]
theorem wdL_at {j : Nat} (h : j < 6) : wdL[j]? = some (wordOf ((j : Int) + 18)) := by
  rcases (by omega : j = 0 ∨ j = 1 ∨ j = 2 ∨ j = 3 ∨ j = 4 ∨ j = 5) with rfl | rfl | rfl | rfl | rfl | rfl <;> decide
theorem alone1 {n : Int} {s : Bs} {ks : List Ex} (h : alone 1 n s ks = true) : 0 ≤ n := by
  unfold alone at h
  simp at h
  exact h.2.1
theorem alone2 {n : Int} {s : Bs} {ks : List Ex} (h : alone 2 n s ks = true) : s.length ≤ 400 ∧ val s = true := by
  unfold alone textOk at h
  simp at h
  exact ⟨h.2.2.1.1, h.2.2.1.2⟩
theorem cellT {w W : World} (h : Below w.heap.size w W) {b o : Nat} {v : Value} (c : w.cell? ⟨b, o, none⟩ = some v) : W.cell? ⟨b, o, none⟩ = some v := (h.cell (p := ⟨b, o, none⟩) (World.block_lt_of_cell? w _ c)).trans c
set_option maxRecDepth 1000000 in
set_option maxHeartbeats 8000000 in
theorem rtext_num (op n : Int) (s : Bs) (ks : List Ex) (a : Option Addr) (cap : Nat) (w : World) (hop : op = 1) (h0 : 0 ≤ n) (h1 : n ≤ 9223372036854775807) : Calls Tryz.prog 29 #[exV op n s (.slice a ks.length cap)] w (strPost (Lib.itoa n) w) := by
  have HD := Lib.hid (fun W => dec_any n h0 h1 W)
  have q1 : (op == 1) = true := by simp [hop]
  have HB := Lib.hid ((Below.refl w.heap.size w).alloc (Nat.le_refl _) (.cells #[.int .i64 op, .int .i64 n, .string ⟨s.toArray⟩, .slice a ks.length cap] 28))
  have hbx := heap_alloc_new w (.cells #[.int .i64 op, .int .i64 n, .string ⟨s.toArray⟩, .slice a ks.length cap] 28)
  have HBX := Lib.hid hbx
  have hlt0 : w.heap.size < (w.alloc (.cells #[.int .i64 op, .int .i64 n, .string ⟨s.toArray⟩, .slice a ks.length cap] 28)).heap.size := by simp

  unfold strPost
  clear hop h0 h1
  unfold strV at HD
  unfold exV strV
  go_enter Tryz.func29, Tryz.ntmps29

  go_upto_region 1 with fail
  generalize w.alloc (.cells #[.int .i64 op, .int .i64 n, .string ⟨s.toArray⟩, .slice a ks.length cap] 28) = W0 at *
  obtain ⟨⟨c0, c1, c2, c3⟩, -⟩ := four_all hbx
  go_wp2_with fail
  refine (HD.out _).mono ?_
  rintro e W ⟨rfl, rfl⟩
  go_wp2
  go_ret
  exact ⟨rfl, HB.out⟩
set_option maxRecDepth 1000000 in
set_option maxHeartbeats 8000000 in
theorem rtext_text (op n : Int) (s : Bs) (ks : List Ex) (a : Option Addr) (cap : Nat) (w : World) (hop : op = 2) (h0 : s.length ≤ 400) (h1 : val s = true) : Calls Tryz.prog 29 #[exV op n s (.slice a ks.length cap)] w (strPost (quoteB s) w) := by
  have HD := Lib.hid (fun W => refQuote_any s W h0 h1)
  have q1 : (op == 1) = false := beq_eq_false_iff_ne.2 (by omega)
  have q2 : (op == 2) = true := by simp [hop]
  have HB := Lib.hid ((Below.refl w.heap.size w).alloc (Nat.le_refl _) (.cells #[.int .i64 op, .int .i64 n, .string ⟨s.toArray⟩, .slice a ks.length cap] 28))
  have hbx := heap_alloc_new w (.cells #[.int .i64 op, .int .i64 n, .string ⟨s.toArray⟩, .slice a ks.length cap] 28)
  have HBX := Lib.hid hbx
  have hlt0 : w.heap.size < (w.alloc (.cells #[.int .i64 op, .int .i64 n, .string ⟨s.toArray⟩, .slice a ks.length cap] 28)).heap.size := by simp

  unfold strPost at HD ⊢
  clear hop h0 h1
  unfold strV at HD
  unfold exV strV
  go_enter Tryz.func29, Tryz.ntmps29

  go_upto_region 1 with fail
  generalize w.alloc (.cells #[.int .i64 op, .int .i64 n, .string ⟨s.toArray⟩, .slice a ks.length cap] 28) = W0 at *
  obtain ⟨⟨c0, c1, c2, c3⟩, -⟩ := four_all hbx
  go_wp2_with fail
  refine (HD.out _).mono ?_
  rintro e W ⟨rfl, hb⟩
  have hb2 := HB.out.seq hb
  go_wp2
  go_ret
  exact ⟨rfl, hb2⟩
set_option maxRecDepth 1000000 in
set_option maxHeartbeats 8000000 in
theorem rtext_bool (op n : Int) (s : Bs) (ks : List Ex) (a : Option Addr) (cap : Nat) (w : World) (hop : op = 3) : Calls Tryz.prog 29 #[exV op n s (.slice a ks.length cap)] w (strPost (Lib.formatBool (n == 1)) w) := by
  have q1 : (op == 1) = false := beq_eq_false_iff_ne.2 (by omega)
  have q2 : (op == 2) = false := beq_eq_false_iff_ne.2 (by omega)
  have q3 : (op == 3) = true := by simp [hop]
  have HB := Lib.hid ((Below.refl w.heap.size w).alloc (Nat.le_refl _) (.cells #[.int .i64 op, .int .i64 n, .string ⟨s.toArray⟩, .slice a ks.length cap] 28))
  have hbx := heap_alloc_new w (.cells #[.int .i64 op, .int .i64 n, .string ⟨s.toArray⟩, .slice a ks.length cap] 28)
  have HBX := Lib.hid hbx
  have hlt0 : w.heap.size < (w.alloc (.cells #[.int .i64 op, .int .i64 n, .string ⟨s.toArray⟩, .slice a ks.length cap] 28)).heap.size := by simp

  unfold strPost
  clear hop
  obtain ⟨b, hb⟩ : ∃ b, (n == 1) = b := ⟨_, rfl⟩
  rw [hb]
  unfold exV strV
  go_enter Tryz.func29, Tryz.ntmps29

  go_upto_region 1 with fail
  generalize w.alloc (.cells #[.int .i64 op, .int .i64 n, .string ⟨s.toArray⟩, .slice a ks.length cap] 28) = W0 at *
  obtain ⟨⟨c0, c1, c2, c3⟩, -⟩ := four_all hbx
  cases b
  all_goals
    go_wp2
    go_ret
    exact ⟨by rfl, HB.out⟩
set_option maxRecDepth 1000000 in
set_option maxHeartbeats 8000000 in
theorem rtext_name (op n : Int) (s : Bs) (ks : List Ex) (a : Option Addr) (cap : Nat) (w : World) (hop : op = 4) : Calls Tryz.prog 29 #[exV op n s (.slice a ks.length cap)] w (strPost s w) := by
  have q1 : (op == 1) = false := beq_eq_false_iff_ne.2 (by omega)
  have q2 : (op == 2) = false := beq_eq_false_iff_ne.2 (by omega)
  have q3 : (op == 3) = false := beq_eq_false_iff_ne.2 (by omega)
  have q4 : (op == 4) = true := by simp [hop]
  have HB := Lib.hid ((Below.refl w.heap.size w).alloc (Nat.le_refl _) (.cells #[.int .i64 op, .int .i64 n, .string ⟨s.toArray⟩, .slice a ks.length cap] 28))
  have hbx := heap_alloc_new w (.cells #[.int .i64 op, .int .i64 n, .string ⟨s.toArray⟩, .slice a ks.length cap] 28)
  have HBX := Lib.hid hbx
  have hlt0 : w.heap.size < (w.alloc (.cells #[.int .i64 op, .int .i64 n, .string ⟨s.toArray⟩, .slice a ks.length cap] 28)).heap.size := by simp

  unfold strPost
  clear hop
  unfold exV strV
  go_enter Tryz.func29, Tryz.ntmps29

  go_upto_region 1 with fail
  generalize w.alloc (.cells #[.int .i64 op, .int .i64 n, .string ⟨s.toArray⟩, .slice a ks.length cap] 28) = W0 at *
  obtain ⟨⟨c0, c1, c2, c3⟩, -⟩ := four_all hbx
  go_wp2
  go_ret
  exact ⟨rfl, HB.out⟩
set_option maxRecDepth 1000000 in
set_option maxHeartbeats 8000000 in
theorem rtext_neg (op n : Int) (s : Bs) (k : Ex) (a : Option Addr) (cap : Nat) (w : World) (hop : op = 5) (hK : KV (gh w) (.slice a 1 cap) [k]) (hT : Tz k) (ih : RTextW k) : Calls Tryz.prog 29 #[exV op n s (.slice a 1 cap)] w (strPost (45 :: textX k) w) := by
  have hl : (textX k).length ≤ 1000000 := by cases hT with | mk _ _ _ _ _ _ h _ => exact h
  obtain ⟨tb, htb⟩ : ∃ tb : ByteArray, (⟨(textX k).toArray⟩ : ByteArray) = tb := ⟨_, rfl⟩
  have hts : tb.size ≤ 1000000 := by rw [← htb]; simpa [ByteArray.size] using hl
  have HTB : Hid (tb.data.toList = textX k) := Lib.hid (by rw [← htb])
  have q1 : (op == 1) = false := beq_eq_false_iff_ne.2 (by omega)
  have q2 : (op == 2) = false := beq_eq_false_iff_ne.2 (by omega)
  have q3 : (op == 3) = false := beq_eq_false_iff_ne.2 (by omega)
  have q4 : (op == 4) = false := beq_eq_false_iff_ne.2 (by omega)
  have q5 : (op == 5) = true := by simp [hop]
  have HB := Lib.hid ((Below.refl w.heap.size w).alloc (Nat.le_refl _) (.cells #[.int .i64 op, .int .i64 n, .string ⟨s.toArray⟩, .slice a 1 cap] 28))
  have hbx := heap_alloc_new w (.cells #[.int .i64 op, .int .i64 n, .string ⟨s.toArray⟩, .slice a 1 cap] 28)
  have HBX := Lib.hid hbx
  have hlt0 : w.heap.size < (w.alloc (.cells #[.int .i64 op, .int .i64 n, .string ⟨s.toArray⟩, .slice a 1 cap] 28)).heap.size := by simp

  have HKK := Lib.hid (hK.keep HB.out)
  have HI := Lib.hid (fun v W hk => ih v W hT hk)
  unfold strPost strV at HI
  rw [htb] at HI
  unfold strPost
  clear hop hK hT ih hl htb
  unfold exV strV
  go_enter Tryz.func29, Tryz.ntmps29

  go_upto_region 1 with fail
  generalize w.alloc (.cells #[.int .i64 op, .int .i64 n, .string ⟨s.toArray⟩, .slice a 1 cap] 28) = W0 at *
  obtain ⟨⟨c0, c1, c2, c3⟩, -⟩ := four_all hbx
  obtain ⟨b, off, u, rfl, d0, d1, d2, d3, hKu⟩ := HKK.out.at (j := 0) (k := k) rfl
  rw [show off + 0 * 4 = off by omega] at d0 d1 d2 d3
  obtain ⟨ua, uc, rfl⟩ := hKu.form
  have HC := Lib.hid (HI.out _ _ hKu)
  unfold exV strV at HC
  unfold strV at d2
  clear hKu HI
  go_wp2_with fail
  refine HC.out.mono ?_
  rintro e W ⟨rfl, hb⟩
  have hb2 := HB.out.seq hb
  go_wp2
  go_ret
  exact ⟨str_eq (by rw [← HTB.out]; simp), hb2⟩
set_option maxRecDepth 1000000 in
set_option maxHeartbeats 8000000 in
theorem rtext_not (op n : Int) (s : Bs) (k : Ex) (a : Option Addr) (cap : Nat) (w : World) (hop : op = 6) (hK : KV (gh w) (.slice a 1 cap) [k]) (hT : Tz k) (ih : RTextW k) : Calls Tryz.prog 29 #[exV op n s (.slice a 1 cap)] w (strPost (33 :: textX k) w) := by
  have hl : (textX k).length ≤ 1000000 := by cases hT with | mk _ _ _ _ _ _ h _ => exact h
  obtain ⟨tb, htb⟩ : ∃ tb : ByteArray, (⟨(textX k).toArray⟩ : ByteArray) = tb := ⟨_, rfl⟩
  have hts : tb.size ≤ 1000000 := by rw [← htb]; simpa [ByteArray.size] using hl
  have HTB : Hid (tb.data.toList = textX k) := Lib.hid (by rw [← htb])
  have q1 : (op == 1) = false := beq_eq_false_iff_ne.2 (by omega)
  have q2 : (op == 2) = false := beq_eq_false_iff_ne.2 (by omega)
  have q3 : (op == 3) = false := beq_eq_false_iff_ne.2 (by omega)
  have q4 : (op == 4) = false := beq_eq_false_iff_ne.2 (by omega)
  have q5 : (op == 5) = false := beq_eq_false_iff_ne.2 (by omega)
  have q6 : (op == 6) = true := by simp [hop]
  have HB := Lib.hid ((Below.refl w.heap.size w).alloc (Nat.le_refl _) (.cells #[.int .i64 op, .int .i64 n, .string ⟨s.toArray⟩, .slice a 1 cap] 28))
  have hbx := heap_alloc_new w (.cells #[.int .i64 op, .int .i64 n, .string ⟨s.toArray⟩, .slice a 1 cap] 28)
  have HBX := Lib.hid hbx
  have hlt0 : w.heap.size < (w.alloc (.cells #[.int .i64 op, .int .i64 n, .string ⟨s.toArray⟩, .slice a 1 cap] 28)).heap.size := by simp

  have HKK := Lib.hid (hK.keep HB.out)
  have HI := Lib.hid (fun v W hk => ih v W hT hk)
  unfold strPost strV at HI
  rw [htb] at HI
  unfold strPost
  clear hop hK hT ih hl htb
  unfold exV strV
  go_enter Tryz.func29, Tryz.ntmps29

  go_upto_region 1 with fail
  generalize w.alloc (.cells #[.int .i64 op, .int .i64 n, .string ⟨s.toArray⟩, .slice a 1 cap] 28) = W0 at *
  obtain ⟨⟨c0, c1, c2, c3⟩, -⟩ := four_all hbx
  obtain ⟨b, off, u, rfl, d0, d1, d2, d3, hKu⟩ := HKK.out.at (j := 0) (k := k) rfl
  rw [show off + 0 * 4 = off by omega] at d0 d1 d2 d3
  obtain ⟨ua, uc, rfl⟩ := hKu.form
  have HC := Lib.hid (HI.out _ _ hKu)
  unfold exV strV at HC
  unfold strV at d2
  clear hKu HI
  go_wp2_with fail
  refine HC.out.mono ?_
  rintro e W ⟨rfl, hb⟩
  have hb2 := HB.out.seq hb
  go_wp2
  go_ret
  exact ⟨str_eq (by rw [← HTB.out]; simp), hb2⟩
set_option maxRecDepth 1000000 in
set_option maxHeartbeats 8000000 in
theorem rtext_two (op n : Int) (s : Bs) (k0 k1 : Ex) (a : Option Addr) (cap : Nat) (w : World) (h7 : 7 ≤ op) (h17 : op ≤ 17) (hK : KV (gh w) (.slice a 2 cap) [k0, k1]) (hT0 : Tz k0) (hT1 : Tz k1) (ih0 : RTextW k0) (ih1 : RTextW k1) :
    Calls Tryz.prog 29 #[exV op n s (.slice a 2 cap)] w (strPost ([40] ++ textX k0 ++ [32] ++ sgn op ++ [32] ++ textX k1 ++ [41]) w) := by
  have hl0 : (textX k0).length ≤ 1000000 := by cases hT0 with | mk _ _ _ _ _ _ h _ => exact h
  have hl1 : (textX k1).length ≤ 1000000 := by cases hT1 with | mk _ _ _ _ _ _ h _ => exact h
  obtain ⟨tb, htb⟩ : ∃ tb : ByteArray, (⟨(textX k0).toArray⟩ : ByteArray) = tb := ⟨_, rfl⟩
  obtain ⟨ub, hub⟩ : ∃ tb : ByteArray, (⟨(textX k1).toArray⟩ : ByteArray) = tb := ⟨_, rfl⟩
  have hts : tb.size ≤ 1000000 := by rw [← htb]; simpa [ByteArray.size] using hl0
  have hus : ub.size ≤ 1000000 := by rw [← hub]; simpa [ByteArray.size] using hl1
  have HTB : Hid (tb.data.toList = textX k0) := Lib.hid (by rw [← htb])
  have HUB : Hid (ub.data.toList = textX k1) := Lib.hid (by rw [← hub])
  have q1 : (op == 1) = false := beq_eq_false_iff_ne.2 (by omega)
  have q2 : (op == 2) = false := beq_eq_false_iff_ne.2 (by omega)
  have q3 : (op == 3) = false := beq_eq_false_iff_ne.2 (by omega)
  have q4 : (op == 4) = false := beq_eq_false_iff_ne.2 (by omega)
  have q5 : (op == 5) = false := beq_eq_false_iff_ne.2 (by omega)
  have q6 : (op == 6) = false := beq_eq_false_iff_ne.2 (by omega)
  have HB := Lib.hid ((Below.refl w.heap.size w).alloc (Nat.le_refl _) (.cells #[.int .i64 op, .int .i64 n, .string ⟨s.toArray⟩, .slice a 2 cap] 28))
  have hbx := heap_alloc_new w (.cells #[.int .i64 op, .int .i64 n, .string ⟨s.toArray⟩, .slice a 2 cap] 28)
  have HBX := Lib.hid hbx
  have hlt0 : w.heap.size < (w.alloc (.cells #[.int .i64 op, .int .i64 n, .string ⟨s.toArray⟩, .slice a 2 cap] 28)).heap.size := by simp

  obtain ⟨j, hj⟩ : ∃ j : Nat, op = (j : Int) + 7 := ⟨(op - 7).toNat, by omega⟩
  have hj11 : j < 11 := by omega
  have HSG : Hid (sgL[j]? = some (sgn op)) := Lib.hid (by subst hj; exact sgL_at hj11)
  have e7 : op - 7 = (j : Int) := by omega
  have hsl := sgn_len op
  have HKK := Lib.hid (hK.keep HB.out)
  have HI0 := Lib.hid (fun v W hk => ih0 v W hT0 hk)
  have HI1 := Lib.hid (fun v W hk => ih1 v W hT1 hk)
  unfold strPost strV at HI0 HI1
  rw [htb] at HI0
  rw [hub] at HI1
  unfold strPost
  generalize sgn op = sg at *
  obtain ⟨sgb, hsgb⟩ : ∃ tb : ByteArray, (⟨sg.toArray⟩ : ByteArray) = tb := ⟨_, rfl⟩
  have hsgs : sgb.size ≤ 2 := by rw [← hsgb]; simpa [ByteArray.size] using hsl
  have HSB : Hid (sgb.data.toList = sg) := Lib.hid (by rw [← hsgb])
  have HSE := Lib.hid hsgb
  clear hK hT0 hT1 ih0 ih1 hl0 hl1 htb hub hj hsl hsgb
  unfold exV strV
  go_enter Tryz.func29, Tryz.ntmps29

  go_upto_region 1 with fail
  generalize w.alloc (.cells #[.int .i64 op, .int .i64 n, .string ⟨s.toArray⟩, .slice a 2 cap] 28) = W0 at *
  have HSL := Lib.hid (StrsV.lay (w := W0.alloc (.cells (sgL.map strV).toArray 9)) (b := W0.heap.size) sgL 9 (heap_alloc_new W0 _) (by simp [maxLen, sgL]))
  have HB1 := Lib.hid (HB.out.alloc HB.out.size (.cells (sgL.map strV).toArray 9))
  have HBX1 := Lib.hid ((Lib.alloc_old W0 (.cells (sgL.map strV).toArray 9) _ hlt0).trans hbx)
  have HK1 := Lib.hid (HKK.out.keep ((Below.refl _ _).alloc (Nat.le_refl _) (.cells (sgL.map strV).toArray 9)))
  obtain ⟨⟨c0, c1, c2, c3⟩, -⟩ := four_all hbx
  simp only [sgL, List.map_cons, List.map_nil, strV] at HSL HB1 HBX1 HK1
  go_upto_region 18 with fail
  generalize W0.alloc _ = W1 at *
  have hrow := HSL.out.at HSG.out
  obtain ⟨rb, ro, hre, r0⟩ := hrow
  simp only [Option.some.injEq, Addr.mk.injEq, and_true] at hre
  obtain ⟨rfl, rfl⟩ := hre
  unfold strV at r0
  rw [HSE.out, Nat.zero_add] at r0
  clear c0 c1 c2 c3
  obtain ⟨⟨c0, c1, c2, c3⟩, -⟩ := four_all HBX1.out
  obtain ⟨b, off, u, hab, d0, d1, d2, d3, hKu⟩ := HK1.out.at (j := 0) (k := k0) rfl
  subst hab
  obtain ⟨b', off', v, hab, g0, g1, g2, g3, hKv⟩ := HK1.out.at (j := 1) (k := k1) rfl
  simp only [Option.some.injEq, Addr.mk.injEq, and_true] at hab
  obtain ⟨rfl, rfl⟩ := hab
  rw [show off + 0 * 4 = off by omega] at d0 d1 d2 d3
  rw [show off + 1 * 4 = off + 4 by omega] at g0 g1 g2 g3
  obtain ⟨ua, uc, rfl⟩ := hKu.form
  obtain ⟨va, vc, rfl⟩ := hKv.form
  have HC0 := Lib.hid (fun W (hb : Below W1.heap.size W1 W) => HI0.out _ W (hKu.keep hb))
  have HC1 := Lib.hid (fun W (hb : Below W1.heap.size W1 W) => HI1.out _ W (hKv.keep hb))
  unfold exV strV at HC0 HC1
  unfold strV at d2 g2
  have hbe : Below W1.heap.size W1 W1.drew := (Below.refl _ _).drew
  have z1 : ¬ 9223372036854775807 < 1 + tb.size := by omega
  have z2 : ¬ 9223372036854775807 < 1 + tb.size + 1 := by omega
  have z3 : ¬ 9223372036854775807 < 1 + tb.size + 1 + sgb.size := by omega
  have z4 : ¬ 9223372036854775807 < 1 + tb.size + 1 + sgb.size + 1 := by omega
  have z5 : ¬ 9223372036854775807 < 1 + tb.size + 1 + sgb.size + 1 + ub.size := by omega
  have z6 : ¬ 9223372036854775807 < 1 + tb.size + 1 + sgb.size + 1 + ub.size + 1 := by omega
  have j1 : (j : Int) < 11 := by omega
  have j0 : ¬ (j : Int) < 0 := by omega
  have j2 : IntKind.i64.wrap (j : Int) = (j : Int) := IntWalk.i64_in _ (by omega)
  clear hKu hKv HI0 HI1 HSL HBX1 HK1 HKK HBX hbx c1 c2
  go_region_held3 (fun w' => (w'.cell? ⟨w.heap.size, 0, none⟩ = some (.int .i64 op) ∧ w'.cell? ⟨w.heap.size, 3, none⟩ = some (.slice (some ⟨b, off, none⟩) 2 cap) ∧ w'.cell? ⟨W0.heap.size, j, none⟩ = some (.string sgb) ∧ w'.cell? ⟨b, off, none⟩ = some (.int .i64 k0.op) ∧ w'.cell? ⟨b, off + 1, none⟩ = some (.int .i64 k0.n) ∧ w'.cell? ⟨b, off + 2, none⟩ = some (.string ⟨k0.s.toArray⟩) ∧ w'.cell? ⟨b, off + 3, none⟩ = some (.slice ua k0.ks.length uc) ∧ w'.cell? ⟨b, off + 4, none⟩ = some (.int .i64 k1.op) ∧ w'.cell? ⟨b, off + 4 + 1, none⟩ = some (.int .i64 k1.n) ∧ w'.cell? ⟨b, off + 4 + 2, none⟩ = some (.string ⟨k1.s.toArray⟩) ∧ w'.cell? ⟨b, off + 4 + 3, none⟩ = some (.slice va k1.ks.length vc))) (go_keep)
    ((first
      | (go_at_call 29; ((with_reducible refine (HC0.out _ hbe).mono ?_)); rintro r W2 ⟨rfl, hb2⟩; have hb3 := hbe.seq hb2; have m0 := cellT hb3 c0; have m1 := cellT hb3 c3; have m2 := cellT hb3 r0; have m3 := cellT hb3 d0; have m4 := cellT hb3 d1; have m5 := cellT hb3 d2; have m6 := cellT hb3 d3; have m7 := cellT hb3 g0; have m8 := cellT hb3 g1; have m9 := cellT hb3 g2; have m10 := cellT hb3 g3; clear hb2)
      | (go_at_call 29; ((with_reducible refine (HC1.out _ hb3).mono ?_)); rintro r W3 ⟨rfl, hb4⟩; have hb5 := hb3.seq hb4; have n0 := cellT hb5 c0; have n1 := cellT hb5 c3; have n2 := cellT hb5 r0; have n3 := cellT hb5 d0; have n4 := cellT hb5 d1; have n5 := cellT hb5 d2; have n6 := cellT hb5 d3; have n7 := cellT hb5 g0; have n8 := cellT hb5 g1; have n9 := cellT hb5 g2; have n10 := cellT hb5 g3; clear hb4)))
  all_goals
    go_wp2
    go_ret
    exact ⟨str_eq (by rw [← HTB.out, ← HUB.out, ← HSB.out]; simp), HB1.out.seq hb5⟩
theorem joinTail_snoc (sep x : Bs) (l : List Bs) : Lib.joinTail sep (l ++ [x]) = Lib.joinTail sep l ++ (sep ++ x) := by
  unfold Lib.joinTail
  simp
theorem join_snoc (sep x : Bs) {l : List Bs} (h : l ≠ []) : Lib.join (l ++ [x]) sep = Lib.join l sep ++ (sep ++ x) := by
  cases l with
  | nil => exact absurd rfl h
  | cons a l => rw [List.cons_append, Lib.join_cons, Lib.join_cons, joinTail_snoc, List.append_assoc]
theorem tz_len {k : Ex} (h : Tz k) : (textX k).length ≤ 1000000 := by
  cases h with | mk _ _ _ _ _ _ h _ => exact h
theorem textL_take {ks : List Ex} {k : Nat} (h : k < ks.length) : textL (ks.take (k + 1)) = textL (ks.take k) ++ [textX ks[k]] := by
  rw [textL_map, textL_map, List.take_succ_eq_append_getElem h, List.map_append]; rfl
theorem textL_take_ne {ks : List Ex} {k : Nat} (h : k ≤ ks.length) (h0 : 0 < k) : textL (ks.take k) ≠ [] := fun e => by
  have := congrArg List.length e
  rw [textL_len, List.length_take, List.length_nil] at this
  omega
set_option maxRecDepth 1000000 in
set_option maxHeartbeats 8000000 in
theorem rtext_word (op n : Int) (s : Bs) (ks : List Ex) (a : Option Addr) (cap : Nat) (w : World) (h18 : 18 ≤ op) (h23 : op ≤ 23) (h3 : ks.length ≤ 3) (hK : KV (gh w) (.slice a ks.length cap) ks) (hT : ∀ k ∈ ks, Tz k) (ih : ∀ k ∈ ks, RTextW k) :
    Calls Tryz.prog 29 #[exV op n s (.slice a ks.length cap)] w (strPost (wordOf op ++ [40] ++ Lib.join (textL ks) [44, 32] ++ [41]) w) := by
  have q1 : (op == 1) = false := beq_eq_false_iff_ne.2 (by omega)
  have q2 : (op == 2) = false := beq_eq_false_iff_ne.2 (by omega)
  have q3 : (op == 3) = false := beq_eq_false_iff_ne.2 (by omega)
  have q4 : (op == 4) = false := beq_eq_false_iff_ne.2 (by omega)
  have q5 : (op == 5) = false := beq_eq_false_iff_ne.2 (by omega)
  have q6 : (op == 6) = false := beq_eq_false_iff_ne.2 (by omega)
  have HB := Lib.hid ((Below.refl w.heap.size w).alloc (Nat.le_refl _) (.cells #[.int .i64 op, .int .i64 n, .string ⟨s.toArray⟩, .slice a ks.length cap] 28))
  have hbx := heap_alloc_new w (.cells #[.int .i64 op, .int .i64 n, .string ⟨s.toArray⟩, .slice a ks.length cap] 28)
  have HBX := Lib.hid hbx
  have hlt0 : w.heap.size < (w.alloc (.cells #[.int .i64 op, .int .i64 n, .string ⟨s.toArray⟩, .slice a ks.length cap] 28)).heap.size := by simp

  obtain ⟨j, hj⟩ : ∃ j : Nat, op = (j : Int) + 18 := ⟨(op - 18).toNat, by omega⟩
  have hj6 : j < 6 := by omega
  have HWD : Hid (wdL[j]? = some (wordOf op)) := Lib.hid (by subst hj; exact wdL_at hj6)
  have e7 : op - 18 = (j : Int) := by omega
  have hwl := wordOf_len op
  have j1 : (j : Int) < 6 := by omega
  have j0 : ¬ (j : Int) < 0 := by omega
  have j2 : IntKind.i64.wrap (j : Int) = (j : Int) := IntWalk.i64_in _ (by omega)
  have h17 : ¬ op ≤ 17 := by omega
  have HKK := Lib.hid (hK.keep HB.out)
  have HI := Lib.hid (fun k hk v W h => ih k hk v W (hT k hk) h)
  have HTZ := Lib.hid hT
  unfold strPost strV at HI
  unfold strPost
  obtain ⟨R, hR⟩ : ∃ R, wordOf op ++ [40] ++ Lib.join (textL ks) [44, 32] ++ [41] = R := ⟨_, rfl⟩
  rw [hR]
  generalize wordOf op = wd' at *
  obtain ⟨wb, hwb⟩ : ∃ tb : ByteArray, (⟨wd'.toArray⟩ : ByteArray) = tb := ⟨_, rfl⟩
  have hws : wb.size ≤ 5 := by rw [← hwb]; simpa [ByteArray.size] using (by omega : wd'.length ≤ 5)
  have HWB : Hid (wb.data.toList = wd') := Lib.hid (by rw [← hwb])
  have HWE := Lib.hid hwb
  have HR := Lib.hid hR
  clear hK hT ih hj hwl hwb hR h23
  unfold exV strV
  go_enter Tryz.func29, Tryz.ntmps29

  go_upto_region 1 with fail
  generalize w.alloc (.cells #[.int .i64 op, .int .i64 n, .string ⟨s.toArray⟩, .slice a ks.length cap] 28) = W0 at *
  have HSL := Lib.hid (StrsV.lay (w := W0.alloc (.cells (wdL.map strV).toArray 9)) (b := W0.heap.size) wdL 9 (heap_alloc_new W0 _) (by simp [maxLen, wdL]))
  have HB1 := Lib.hid (HB.out.alloc HB.out.size (.cells (wdL.map strV).toArray 9))
  have HBX1 := Lib.hid ((Lib.alloc_old W0 (.cells (wdL.map strV).toArray 9) _ hlt0).trans hbx)
  have HK1 := Lib.hid (HKK.out.keep ((Below.refl _ _).alloc (Nat.le_refl _) (.cells (wdL.map strV).toArray 9)))
  have hlt1 : w.heap.size < (W0.alloc (.cells (wdL.map strV).toArray 9)).heap.size := (Array.getElem?_eq_some_iff.1 HBX1.out).1
  obtain ⟨⟨c0, c1, c2, c3⟩, -⟩ := four_all hbx
  simp only [wdL, List.map_cons, List.map_nil, strV] at HSL HB1 HBX1 HK1 hlt1
  go_upto_region 20 with fail
  generalize W0.alloc _ = W1 at *
  have hrow := HSL.out.at HWD.out
  obtain ⟨rb, ro, hre, r0⟩ := hrow
  simp only [Option.some.injEq, Addr.mk.injEq, and_true] at hre
  obtain ⟨rfl, rfl⟩ := hre
  unfold strV at r0
  rw [HWE.out, Nat.zero_add] at r0
  clear c0 c1 c2 c3
  obtain ⟨⟨c0, c1, c2, c3⟩, -⟩ := four_all HBX1.out
  have z0 : ¬ 9223372036854775807 < wb.size + 1 := by omega
  clear HSL HBX HKK hbx q1 q2 q3 q4 q5 q6
  go_wp2
  clear c0 c1 c2 c3 r0
  go_loopg [5, 6] ks.length (fun g tv iv wr => ∃ (k : Nat) (tb : ByteArray), tv = .string tb ∧ iv = .int .i64 k ∧ k + g = ks.length ∧ Hid (Below W1.heap.size W1 wr) ∧ Hid (tb.data.toList = wd' ++ [40] ++ Lib.join (textL (ks.take k)) [44, 32]) ∧ tb.size ≤ 6 + k * 1000002)
  case atStart => exact ⟨0, wb ++ ⟨#[40]⟩, rfl, rfl, by omega, Lib.hid (Below.refl _ _), Lib.hid (by rw [List.take_zero, textL_nil, Lib.join_nil]; simp [HWB.out]), by simp [ByteArray.size_append]; have : (⟨#[40]⟩ : ByteArray).size = 1 := rfl; omega⟩
  case round =>
    obtain ⟨k, tb, rfl, rfl, hg, HBW, HTB, hts⟩ := hrel
    obtain ⟨⟨c0, c1, c2, c3⟩, -⟩ := four_all ((HBW.out.block _ hlt1).trans HBX1.out)
    have hk3 : k ≤ 3 := by omega
    by_cases hlt : k < ks.length
    · obtain ⟨g, rfl⟩ : ∃ g, gk = g + 1 := ⟨gk - 1, by omega⟩
      obtain ⟨b, off, u, rfl, d0, d1, d2, d3, hKu⟩ := (HK1.out.keep HBW.out).at (List.getElem?_eq_getElem hlt)
      obtain ⟨ua, uc, rfl⟩ := hKu.form
      have hmem : ks[k] ∈ ks := List.getElem_mem hlt
      have hx := HI.out ks[k] hmem _ wr hKu
      have hl : (textX ks[k]).length ≤ 1000000 := tz_len (HTZ.out _ hmem)
      have HTT := Lib.hid (textL_take hlt)
      have HTN := Lib.hid (fun h0 => textL_take_ne (ks := ks) (k := k) (by omega) h0)
      unfold strV at d2
      unfold exV strV at hx
      generalize ks[k] = y at *
      obtain ⟨ub, hub⟩ : ∃ tb : ByteArray, (⟨(textX y).toArray⟩ : ByteArray) = tb := ⟨_, rfl⟩
      have hus : ub.size ≤ 1000000 := by rw [← hub]; simpa [ByteArray.size] using hl
      have HUB : Hid (ub.data.toList = textX y) := Lib.hid (by rw [← hub])
      rw [hub] at hx
      have HX := Lib.hid hx
      clear hKu hx hl hub hmem
      by_cases hk0 : k = 0
      · have hi0 : ¬ (0 : Int) < (k : Int) := by omega
        have HNX : Hid ((tb ++ ub).data.toList = wd' ++ [40] ++ Lib.join (textL (ks.take (k + 1))) [44, 32]) := Lib.hid (by
          have h1 := HTB.out
          rw [HTT.out]
          subst hk0
          rw [List.take_zero, textL_nil] at h1 ⊢
          rw [Lib.join_nil] at h1
          simp only [List.nil_append, Lib.join_one]
          simp [HUB.out] at h1 ⊢
          rw [h1]
          simp)
        clear HTB hk0
        go_wp2_with fail
        refine HX.out.mono ?_
        rintro e W2 ⟨rfl, hb2⟩
        have HB2 := Lib.hid (HBW.out.seq hb2)
        clear hb2
        go_wp2
        go_roundg g
        case rel => exact ⟨k + 1, tb ++ ub, rfl, by go_num, by omega, HB2, HNX, by simp [ByteArray.size_append]; omega⟩
        case measure => omega
      · have hi0 : (0 : Int) < (k : Int) := by omega
        have HNX : Hid (((tb ++ ⟨#[44, 32]⟩) ++ ub).data.toList = wd' ++ [40] ++ Lib.join (textL (ks.take (k + 1))) [44, 32]) := Lib.hid (by
          rw [HTT.out, join_snoc _ _ (HTN.out (by omega))]
          simp [HTB.out, HUB.out])
        clear HTB
        go_wp2_with fail
        refine HX.out.mono ?_
        rintro e W2 ⟨rfl, hb2⟩
        have HB2 := Lib.hid (HBW.out.seq hb2)
        clear hb2
        go_wp2
        go_roundg g
        case rel => exact ⟨k + 1, (tb ++ ⟨#[44, 32]⟩) ++ ub, rfl, by go_num, by omega, HB2, HNX, by simp [ByteArray.size_append]; have : (⟨#[44, 32]⟩ : ByteArray).size = 2 := rfl; omega⟩
        case measure => omega
    · have hke : k = ks.length := by omega
      have HE : Hid ((tb ++ ⟨#[41]⟩ : ByteArray).data.toList = R) := Lib.hid (by
        rw [← HR.out]
        have h1 := HTB.out
        rw [hke, List.take_length] at h1
        simp [h1])
      clear HTB hke
      go_wp2
      go_ret
      refine ⟨str_eq HE.out, HB1.out.seq HBW.out⟩
theorem rtext_any (e : Ex) : RTextW e := by
  refine Ex.ind (P := RTextW) ?_ e
  intro op n s ks ih v w hT hK
  simp only [Ex.op, Ex.n, Ex.s, Ex.ks] at hK ⊢
  obtain ⟨a, cap, rfl⟩ := hK.form
  obtain ⟨ha, hn, hl, hTk⟩ : alone op n s ks = true ∧ (-9223372036854775808 ≤ n ∧ n ≤ 9223372036854775807) ∧ (textX (.mk op n s ks)).length ≤ 1000000 ∧ (∀ k ∈ ks, Tz k) := by
    cases hT with | mk _ _ _ _ h1 h2 h3 h4 => exact ⟨h1, h2, h3, h4⟩
  have har := alone_ar2 ha
  have h3 := arity_le2 har
  rw [textX_mk]
  unfold textOp
  by_cases h1 : op = 1
  · rw [if_pos h1]
    exact rtext_num op n s ks a cap w h1 (by subst h1; exact alone1 ha) hn.2
  rw [if_neg h1]
  by_cases h2 : op = 2
  · rw [if_pos h2]
    subst h2
    exact rtext_text 2 n s ks a cap w rfl (alone2 ha).1 (alone2 ha).2
  rw [if_neg h2]
  by_cases h33 : op = 3
  · rw [if_pos h33]
    exact rtext_bool op n s ks a cap w h33
  rw [if_neg h33]
  by_cases h4 : op = 4
  · rw [if_pos h4]
    exact rtext_name op n s ks a cap w h4
  rw [if_neg h4]
  by_cases h5 : op = 5
  · rw [if_pos h5]
    have : arity op = 1 := by subst h5; rfl
    match ks, (by omega : ks.length = 1) with
    | [k], _ =>
      rw [show Lib.join (textL [k]) [44, 32] = textX k by rw [textL_cons, textL_nil, Lib.join_one]]
      exact rtext_neg op n s k a cap w h5 hK (hTk k (by simp)) (ih k (by simp))
  rw [if_neg h5]
  by_cases h6 : op = 6
  · rw [if_pos h6]
    have : arity op = 1 := by subst h6; rfl
    match ks, (by omega : ks.length = 1) with
    | [k], _ =>
      rw [show Lib.join (textL [k]) [44, 32] = textX k by rw [textL_cons, textL_nil, Lib.join_one]]
      exact rtext_not op n s k a cap w h6 hK (hTk k (by simp)) (ih k (by simp))
  rw [if_neg h6]
  by_cases h18 : 18 ≤ op ∧ op ≤ 23
  · rw [if_pos h18]
    exact rtext_word op n s ks a cap w h18.1 h18.2 h3.2 hK hTk ih
  rw [if_neg h18]
  have : arity op = 2 := by unfold arity; rw [if_neg (by omega), if_neg (by omega), if_pos (by omega)]
  match ks, (by omega : ks.length = 2) with
  | [k0, k1], _ =>
    have h := rtext_two op n s k0 k1 a cap w (by omega) (by omega) hK (hTk k0 (by simp)) (hTk k1 (by simp)) (ih k0 (by simp)) (ih k1 (by simp))
    rw [textL_cons, textL_cons, textL_nil]
    exact h
end Go.Proofs.YtoklhppalkgdeaaGreatDoor
namespace Go.Proofs.YtoklhppalkgdeaaGreatDoor
open Go.RowKit Pal
abbrev LtS (l : List Bs) : Prop := l.Pairwise (· < ·)
theorem bs_irrefl (a : Bs) : ¬ a < a := List.lt_irrefl a
theorem bs_trans {a b c : Bs} (h : a < b) (g : b < c) : a < c := List.lt_trans h g
theorem bs_asymm {a b : Bs} (h : a < b) : ¬ b < a := fun g => bs_irrefl a (bs_trans h g)
theorem bs_tri {a b : Bs} (h : ¬ a < b) (g : a ≠ b) : b < a := by
  rcases Decidable.em (b < a) with h2 | h2
  · exact h2
  · exact absurd (List.le_antisymm (List.not_lt.1 h2) (List.not_lt.1 h)) g
theorem ltS_ext : ∀ {l m : List Bs}, LtS l → LtS m → (∀ x, x ∈ l ↔ x ∈ m) → l = m := by
  intro l
  induction l with
  | nil =>
    intro m _ _ h
    cases m with
    | nil => rfl
    | cons b m => exact absurd ((h b).2 (.head _)) (by simp)
  | cons a l ih =>
    intro m hl hm h
    cases m with
    | nil => exact absurd ((h a).1 (.head _)) (by simp)
    | cons b m =>
      have hl := List.pairwise_cons.1 hl
      have hm := List.pairwise_cons.1 hm
      have hab : a = b := by
        apply Classical.byContradiction
        intro hne
        have h1 : a ∈ m := by
          rcases List.mem_cons.1 ((h a).1 (.head _)) with e | e
          · exact absurd e hne
          · exact e
        have h2 : b ∈ l := by
          rcases List.mem_cons.1 ((h b).2 (.head _)) with e | e
          · exact absurd e.symm hne
          · exact e
        exact bs_asymm (hm.1 a h1) (hl.1 b h2)
      subst hab
      congr 1
      refine ih hl.2 hm.2 (fun x => ⟨fun hx => ?_, fun hx => ?_⟩)
      · rcases List.mem_cons.1 ((h x).1 (List.mem_cons_of_mem _ hx)) with e | e
        · subst e; exact absurd (hl.1 x hx) (bs_irrefl x)
        · exact e
      · rcases List.mem_cons.1 ((h x).2 (List.mem_cons_of_mem _ hx)) with e | e
        · subst e; exact absurd (hm.1 x hx) (bs_irrefl x)
        · exact e
theorem lead_spec (s : Bs) : ∀ l : List Bs, (∀ x ∈ l.take (lead s l), x < s) ∧ (∀ a, l[lead s l]? = some a → ¬ a < s) := by
  intro l
  induction l with
  | nil => exact ⟨fun x hx => by simp at hx, fun a h => by simp at h⟩
  | cons a l ih =>
    unfold lead
    by_cases h : Op.bytesLess a s = true
    · rw [if_pos h]
      have h2 : a < s := by rw [bytesLess_eq] at h; exact of_decide_eq_true h
      refine ⟨fun x hx => ?_, fun b hb => ih.2 b (by simpa using hb)⟩
      rw [List.take_succ_cons] at hx
      rcases List.mem_cons.1 hx with e | e
      · rw [e]; exact h2
      · exact ih.1 x e
    · rw [if_neg h]
      refine ⟨fun x hx => by simp at hx, fun b hb => ?_⟩
      simp at hb
      subst hb
      rw [bytesLess_eq] at h
      simpa using h
theorem withM_sorted {l : List Bs} (h : LtS l) (s : Bs) : LtS (withM l s) := by
  unfold withM
  split
  · exact h
  · rename_i hne
    obtain ⟨h1, h2⟩ := lead_spec s l
    have hd : ∀ x ∈ l.drop (lead s l), s < x := by
      intro x hx
      have hp := h.drop (i := lead s l)
      cases hh : l.drop (lead s l) with
      | nil => rw [hh] at hx; simp at hx
      | cons a r =>
        have ha : l[lead s l]? = some a := by
          have := congrArg (fun z => z[0]?) hh
          simpa using this
        have hsa : s < a := bs_tri (h2 a ha) (fun e => hne (by rw [ha, e]))
        rw [hh] at hx hp
        have hp := List.pairwise_cons.1 hp
        rcases List.mem_cons.1 hx with e | e
        · rw [e]; exact hsa
        · exact bs_trans hsa (hp.1 x e)
    refine List.pairwise_append.2 ⟨h.take, List.pairwise_cons.2 ⟨hd, h.drop⟩, fun x hx y hy => ?_⟩
    rcases List.mem_cons.1 hy with e | e
    · rw [e]; exact h1 x hx
    · exact bs_trans (h1 x hx) (hd y e)
theorem fold_sorted : ∀ (ms l : List Bs), LtS l → LtS (ms.foldl withM l) := by
  intro ms
  induction ms with
  | nil => intro l h; exact h
  | cons m ms ih => intro l h; exact ih _ (withM_sorted h m)
theorem namesL_sorted : ∀ (ks : List Ex) (l : List Bs), LtS l → LtS (namesL ks l) := by
  intro ks
  induction ks with
  | nil => intro l h; rw [namesL_nil]; exact h
  | cons k ks ih => intro l h; rw [namesL_cons]; exact ih _ (fold_sorted _ _ h)
theorem namesM_sorted (e : Ex) : LtS (namesM e) := by
  cases e with
  | mk op n s ks =>
    by_cases h : op = 4
    · subst h; rw [namesM_name]; simp [LtS]
    · rw [namesM_kids h]; exact namesL_sorted _ _ (by simp [LtS])
mutual
def namesQ : Ex → List Bs
  | .mk op _ s ks => (if op = 4 then [s] else []) ++ namesQL ks
def namesQL : List Ex → List Bs
  | [] => []
  | k :: r => namesQ k ++ namesQL r
end
theorem namesQ_mk (op n : Int) (s : Bs) (ks : List Ex) : namesQ (.mk op n s ks) = (if op = 4 then [s] else []) ++ namesQL ks := by rw [namesQ]
theorem namesQL_nil : namesQL [] = [] := by rw [namesQL]
theorem namesQL_cons (k : Ex) (r : List Ex) : namesQL (k :: r) = namesQ k ++ namesQL r := by rw [namesQL]
theorem namesQL_mem (ks : List Ex) (x : Bs) : x ∈ namesQL ks ↔ ∃ k ∈ ks, x ∈ namesQ k := by
  induction ks with
  | nil => rw [namesQL_nil]; simp
  | cons k ks ih => rw [namesQL_cons, List.mem_append, ih]; simp
theorem namesQ_occ (e : Ex) : ∀ x, x ∈ namesQ e ↔ Occ e x := by
  refine Ex.ind (P := fun e => ∀ x, x ∈ namesQ e ↔ Occ e x) ?_ e
  intro op n s ks ih x
  rw [namesQ_mk, List.mem_append, namesQL_mem]
  constructor
  · rintro (h | ⟨k, hk, h⟩)
    · split at h
      · rename_i h4
        subst h4
        simp at h
        subst h
        exact .here n x ks
      · simp at h
    · exact .kid op n s ks k x hk ((ih k hk x).1 h)
  · intro h
    cases h with
    | here => exact .inl (by simp)
    | kid _ _ _ _ k _ hk h => exact .inr ⟨k, hk, (ih k hk x).2 h⟩
theorem getD_take {z : List Bs} {m : Nat} (h : m < z.length) : z.toArray[m]! = z[m] := by simp [h]
theorem compact_spec {z : List Bs} (hz : z.Pairwise (· ≤ ·)) : ∀ m, m ≤ z.length → LtS (Lib.compactUpTo z.toArray m) ∧ (∀ x, x ∈ Lib.compactUpTo z.toArray m ↔ x ∈ z.take m) := by
  intro m
  induction m with
  | zero => intro _; simp [Lib.compactUpTo, LtS]
  | succ m ih =>
    intro hm
    obtain ⟨h1, h2⟩ := ih (by omega)
    have hm' : m < z.length := by omega
    rw [Lib.compactUpTo_succ]
    have htk : ∀ x, x ∈ z.take (m + 1) ↔ x ∈ z.take m ∨ x = z[m] := by
      intro x
      rw [List.take_add_one, List.getElem?_eq_getElem hm', List.mem_append]
      simp
    by_cases hk : Lib.keeps z.toArray m = true
    · rw [if_pos hk, getD_take hm']
      refine ⟨?_, fun x => by rw [List.mem_append, h2, htk]; simp⟩
      refine List.pairwise_append.2 ⟨h1, by simp, fun x hx y hy => ?_⟩
      simp at hy
      subst hy
      have hx2 := (h2 x).1 hx
      obtain ⟨i, hi, rfl⟩ := List.getElem_of_mem hx2
      rw [List.length_take] at hi
      rw [List.getElem_take]
      have hle : ∀ j (hj : j < m), z[j] ≤ z[m] := fun j hj => List.pairwise_iff_getElem.1 hz j m (by omega) hm' hj
      have hprev : z[m - 1] ≠ z[m] := by
        intro e
        unfold Lib.keeps at hk
        have h0 : m ≠ 0 := by omega
        simp [h0, hm', show m - 1 < z.length by omega, e] at hk
      have hlt : z[m - 1] < z[m] := bs_tri (List.not_lt.2 (hle (m - 1) (by omega))) (fun e => hprev e.symm)
      by_cases him : i = m - 1
      · subst him; exact hlt
      · have hle2 : z[i] ≤ z[m - 1] := List.pairwise_iff_getElem.1 hz i (m - 1) (by omega) (by omega) (by omega)
        by_cases he : z[i] = z[m - 1]
        · rw [he]; exact hlt
        · exact bs_trans (bs_tri (List.not_lt.2 hle2) (fun e => he e.symm)) hlt
    · rw [if_neg hk, List.append_nil]
      refine ⟨h1, fun x => ?_⟩
      rw [h2, htk]
      have h0 : m ≠ 0 := by
        intro e
        subst e
        simp [Lib.keeps] at hk
      have he : z[m - 1] = z[m] := by
        unfold Lib.keeps at hk
        simp [h0, hm', show m - 1 < z.length by omega] at hk
        exact hk.symm
      constructor
      · exact .inl
      · rintro (h | h)
        · exact h
        · rw [h, ← he]
          have : (z.take m)[m - 1]? = some z[m - 1] := by rw [List.getElem?_take]; simp [show m - 1 < m by omega, show m - 1 < z.length by omega]
          exact List.mem_of_getElem? this
theorem sort_compact (l : List Bs) : LtS (Lib.compact (l.mergeSort fun x y => decide (x ≤ y))) ∧ ∀ x, x ∈ Lib.compact (l.mergeSort fun x y => decide (x ≤ y)) ↔ x ∈ l := by
  have hp := List.pairwise_mergeSort (le := fun x y : Bs => decide (x ≤ y)) (fun a b c h1 h2 => decide_eq_true (List.le_trans (of_decide_eq_true h1) (of_decide_eq_true h2))) (fun a b => by simpa using List.le_total a b) l
  have hz : (l.mergeSort fun x y => decide (x ≤ y)).Pairwise (· ≤ ·) := hp.imp (fun h => of_decide_eq_true h)
  have h := compact_spec hz _ (Nat.le_refl _)
  unfold Lib.compact
  refine ⟨h.1, fun x => ?_⟩
  rw [h.2, List.take_length, List.mem_mergeSort]
theorem names_same {e : Ex} (h : Good e) : Lib.compact ((namesQ e).mergeSort fun x y => decide (x ≤ y)) = namesM e := by
  obtain ⟨h1, h2⟩ := sort_compact (namesQ e)
  refine ltS_ext h1 (namesM_sorted e) (fun x => ?_)
  rw [h2, namesQ_occ]
  exact ⟨occ_names e h x, names_occ e x⟩
end Go.Proofs.YtoklhppalkgdeaaGreatDoor
namespace Go.Proofs.YtoklhppalkgdeaaGreatDoor
open Go.RowKit Pal
theorem KV.atG {h : GH} {a : Option Addr} {n cap : Nat} {ks : List Ex} (t : KV h (.slice a n cap) ks) {j : Nat} {k : Ex} (hj : ks[j]? = some k) :
    ∃ b off u, a = some ⟨b, off, none⟩ ∧ h.cell b (off + j * 4) = some (.int .i64 k.op) ∧ h.cell b (off + j * 4 + 1) = some (.int .i64 k.n) ∧ h.cell b (off + j * 4 + 2) = some (strV k.s) ∧ h.cell b (off + j * 4 + 3) = some u ∧ KV h u k.ks := by
  generalize hv : Value.slice a n cap = v at t
  cases t with
  | mk _ a' cap' us hn hc hm hx hk =>
    simp only [Value.slice.injEq] at hv
    obtain ⟨rfl, rfl, rfl⟩ := hv
    obtain ⟨b, off, ha, h0, h1, h2, h3⟩ := hx j k hj
    exact ⟨b, off, us j, ha, h0, h1, h2, h3, hk j k hj⟩
def rowPost (t : Tag) (l : List Bs) (w : World) (r : Ending) (w' : World) : Prop := ∃ t' v', Evo t w t' w' (· = 1) ∧ r = .returned v' ∧ Row t' 1 w' 9 1 v' l.length (cellsS l)
def PNm (e : Ex) : Prop := ∀ (v lv : Value) (l : List Bs) (t : Tag) (w : World), KV (hz t w) v e.ks → Row t 1 w 9 1 lv l.length (cellsS l) → l.length + (namesQ e).length ≤ 1000000 →
  Calls Tryz.prog 52 #[lv, exV e.op e.n e.s v] w (rowPost t (l ++ namesQ e) w)
theorem namesQL_take {ks : List Ex} {k : Nat} (h : k < ks.length) : namesQL (ks.take (k + 1)) = namesQL (ks.take k) ++ namesQ ks[k] := by
  induction ks generalizing k with
  | nil => simp at h
  | cons a r ih =>
    cases k with
    | zero => simp [namesQL_cons, namesQL_nil]
    | succ k =>
      simp only [List.take_succ_cons, namesQL_cons, List.append_assoc]
      rw [ih (by simpa using h)]
      simp
theorem namesQL_take_len (ks : List Ex) (k : Nat) : (namesQL (ks.take k)).length ≤ (namesQL ks).length := by
  induction ks generalizing k with
  | nil => simp
  | cons a r ih =>
    cases k with
    | zero => simp [namesQL_nil]
    | succ k =>
      simp only [List.take_succ_cons, namesQL_cons, List.length_append]
      have := ih k
      omega
theorem heap_alloc_lt (W : World) {b : Nat} {o : Obj} (h : W.heap[b]? = some o) : b < W.heap.size := (Array.getElem?_eq_some_iff.1 h).1
theorem rowSpell {t : Tag} {w : World} {T : TypeId} {v : Value} {n m : Nat} {xs ys : List Value} (h : Row t 1 w T 1 v n xs) (e : n = m) (f : xs = ys) : Row t 1 w T 1 v m ys := by subst e; subst f; exact h
set_option maxRecDepth 1000000 in
set_option maxHeartbeats 8000000 in
theorem pnames_any (e : Ex) : PNm e := by
  refine Ex.ind (P := PNm) ?_ e
  intro op n s ks ih v lv l t w hK hRow hle
  simp only [Ex.op, Ex.n, Ex.s, Ex.ks] at hK ⊢
  obtain ⟨a, cap, rfl⟩ := hK.form
  obtain ⟨la, lc, rfl⟩ := hRow.form
  obtain ⟨i0, hi, hz0, hz1, hz2⟩ := info_parts infoS
  obtain ⟨len, hlen⟩ : ∃ len, ks.length = len := ⟨_, rfl⟩
  obtain ⟨ll, hll⟩ : ∃ len, l.length = len := ⟨_, rfl⟩
  have HLEN := Lib.hid hlen
  have HK := Lib.hid hK
  have HI := Lib.hid ih
  rw [namesQ_mk] at hle ⊢
  rw [hlen] at HK
  have hlb : len ≤ 9223372036854775807 := by have := HK.out.cap; omega
  rw [hll] at hRow
  have HLL := Lib.hid hll
  unfold exV strV
  rw [hlen, hll]
  have E0 := Lib.hid ((Evo.refl t w (fun _ => False)).alloc 0 (.cells #[.int .i64 op, .int .i64 n, .string ⟨s.toArray⟩, .slice a len cap] 28))
  have HBOX := Lib.hid (heap_alloc_new w (.cells #[.int .i64 op, .int .i64 n, .string ⟨s.toArray⟩, .slice a len cap] 28))
  have hR0 := hRow.keep E0.out (by simp)
  clear hRow hK ih hlen hll
  by_cases h4 : op = 4
  · have q4 : (op == 4) = true := by simp [h4]
    rw [if_pos h4] at hle ⊢
    obtain ⟨l1, hl1⟩ : ∃ l1, l ++ [s] = l1 := ⟨_, rfl⟩
    have HL1 : Hid (l1.length + (namesQL ks).length ≤ 1000000) := Lib.hid (by rw [← hl1]; simp at hle ⊢; omega)
    have hl6 : ll ≤ 1000000 := by have := HLL.out; omega
    rw [← List.append_assoc, hl1]
    have HS1 := Lib.hid hl1
    clear hle hl1 h4
    go_enter Tryz.func52, Tryz.ntmps52
    go_upto_region 1 with fail
    generalize w.alloc (.cells #[.int .i64 op, .int .i64 n, .string ⟨s.toArray⟩, .slice a len cap] 28) = W0 at *
    obtain ⟨⟨c0, c1, c2, c3⟩, -⟩ := four_all HBOX.out
    go_wp2_with (at_builtin; refine wpList_append_one rfl _ _ 22 rfl 9 i0 _ 1 16 Tryz.underlying22 hi hz0 hz1 hz2 rfl (by decide) rfl hR0 #[.string ⟨s.toArray⟩] 9 (0,0) _ rfl ?c0 rfl ?c1 ?c2 ?c3 ?_)
    case c0 => simp
    case c1 => first | rfl | (intro u hu; obtain rfl := List.mem_singleton.1 hu; rfl)
    case c2 => unfold maxLen; omega
    case c3 => omega
    intro v1 t1 w1 hr1 he1
    have HE1 := Lib.hid ((E0.out.mono (fun _ h => h.elim)).trans he1)
    obtain ⟨a1, k1, rfl⟩ := hr1.form
    have HBOX1 := Lib.hid ((he1.block w.heap.size (heap_alloc_lt W0 HBOX.out) (by simp [Tag.set_same])).trans HBOX.out)
    have hln : (l ++ [s]).length = ll + 1 := by rw [List.length_append, HLL.out]; rfl
    have HR1 := Lib.hid (rowSpell hr1 (ys := cellsS l1) (m := l1.length) (by rw [← HS1.out]; exact hln.symm) (by rw [← HS1.out, cellsS_app]; rfl))
    clear hr1 he1 hR0 hln c0 c1 c2 c3
    obtain ⟨⟨c0, c1, c2, c3⟩, -⟩ := four_all HBOX1.out
    go_wp2
    go_loopg [0, 18] len (fun g lv' i wr => ∃ (k : Nat) (tr : Tag), i = .int .i64 k ∧ k + g = len ∧ Hid (Row tr 1 wr 9 1 lv' (l1 ++ namesQL (ks.take k)).length (cellsS (l1 ++ namesQL (ks.take k)))) ∧ Hid (Evo t w tr wr (· = 1)))
    case atStart => exact ⟨0, _, rfl, by omega, Lib.hid (by rw [List.take_zero, namesQL_nil, List.append_nil]; exact HR1.out), HE1⟩
    case round =>
      obtain ⟨k, tr, rfl, hg, HRW, HEV⟩ := hrel
      by_cases hlt : k < len
      · obtain ⟨G, rfl⟩ : ∃ G, gk = G + 1 := ⟨gk - 1, by omega⟩
        have hkl : k < ks.length := by have := HLEN.out; omega
        obtain ⟨b, off, u, rfl, d0, d1, d2, d3, hKu⟩ := (HK.out.mono (HEV.out.hz (by omega))).atG (List.getElem?_eq_getElem hkl)
        obtain ⟨ua, uc, rfl⟩ := hKu.form
        have hmem : ks[k] ∈ ks := List.getElem_mem hkl
        have HTK := Lib.hid (namesQL_take hkl)
        have hle : (l1 ++ namesQL (ks.take k)).length + (namesQ ks[k]).length ≤ 1000000 := by
          have h1 := namesQL_take_len ks (k + 1)
          rw [HTK.out] at h1
          simp only [List.length_append] at h1 ⊢
          have := HL1.out
          omega
        replace d0 := hz_at d0
        replace d1 := hz_at d1
        replace d2 := hz_at d2
        replace d3 := hz_at d3
        unfold strV at d2
        have HX := Lib.hid (fun lvk tw W => HI.out ks[k] hmem (.slice ua ks[k].ks.length uc) lvk (l1 ++ namesQL (ks.take k)) tw W)
        have HKU := Lib.hid hKu
        clear hKu hmem
        generalize ks[k] = y at *
        have E2 := Lib.hid ((Evo.refl tr wr (fun _ => False)).alloc 0 (.cells #[.int .i64 y.op, .int .i64 y.n, .string ⟨y.s.toArray⟩, .slice ua y.ks.length uc] 28))
        have hz2' := HX.out u0 (tr.set wr.heap.size 0) _ (HKU.out.mono (E2.out.hz (by simp))) (HRW.out.keep E2.out (by simp)) hle
        unfold exV strV rowPost at hz2'
        have HZ := Lib.hid hz2'
        clear hz2' HX
        go_wp2_with fail
        refine HZ.out.mono ?_
        rintro r W2 ⟨t2, v2, he2, rfl, hr2⟩
        have HE2 := Lib.hid (HEV.out.trans ((E2.out.mono (fun _ h => h.elim)).trans he2))
        have HR2 := Lib.hid (rowSpell hr2 (ys := cellsS (l1 ++ namesQL (ks.take (k + 1)))) (m := (l1 ++ namesQL (ks.take (k + 1))).length) (by rw [HTK.out, List.append_assoc]) (by rw [HTK.out, List.append_assoc]))
        clear hr2 he2 d0 d1 d2 d3
        go_wp2
        go_roundg G
        case rel => exact ⟨k + 1, t2, by go_num, by omega, HR2, HE2⟩
        case measure => omega
      · have hke : k = ks.length := by have := HLEN.out; omega
        have HRE := Lib.hid (rowSpell HRW.out (ys := cellsS (l1 ++ namesQL ks)) (m := (l1 ++ namesQL ks).length) (by rw [hke, List.take_length]) (by rw [hke, List.take_length]))
        clear HRW hke
        go_wp2
        go_ret
        exact ⟨tr, _, HEV.out, rfl, HRE.out⟩
  · have q4 : (op == 4) = false := beq_eq_false_iff_ne.2 h4
    rw [if_neg h4, List.nil_append] at hle ⊢
    obtain ⟨l1, hl1⟩ : ∃ l1, l = l1 := ⟨_, rfl⟩
    have HL1 : Hid (l1.length + (namesQL ks).length ≤ 1000000) := Lib.hid (by rw [← hl1]; exact hle)
    have hl6 : ll ≤ 1000000 := by have := HLL.out; omega
    rw [hl1]
    have HR1 := Lib.hid (rowSpell hR0 (ys := cellsS l1) (m := l1.length) (by rw [← hl1]; exact HLL.out.symm) (by rw [← hl1]))
    have HE1 := Lib.hid (E0.out.mono (K' := (· = 1)) (fun _ h => h.elim))
    clear hle hl1 h4 hR0
    go_enter Tryz.func52, Tryz.ntmps52
    go_upto_region 1 with fail
    generalize w.alloc (.cells #[.int .i64 op, .int .i64 n, .string ⟨s.toArray⟩, .slice a len cap] 28) = W0 at *
    obtain ⟨⟨c0, c1, c2, c3⟩, -⟩ := four_all HBOX.out
    go_wp2
    go_loopg [0, 18] len (fun g lv' i wr => ∃ (k : Nat) (tr : Tag), i = .int .i64 k ∧ k + g = len ∧ Hid (Row tr 1 wr 9 1 lv' (l1 ++ namesQL (ks.take k)).length (cellsS (l1 ++ namesQL (ks.take k)))) ∧ Hid (Evo t w tr wr (· = 1)))
    case atStart => exact ⟨0, _, rfl, by omega, Lib.hid (by rw [List.take_zero, namesQL_nil, List.append_nil]; exact HR1.out), HE1⟩
    case round =>
      obtain ⟨k, tr, rfl, hg, HRW, HEV⟩ := hrel
      by_cases hlt : k < len
      · obtain ⟨G, rfl⟩ : ∃ G, gk = G + 1 := ⟨gk - 1, by omega⟩
        have hkl : k < ks.length := by have := HLEN.out; omega
        obtain ⟨b, off, u, rfl, d0, d1, d2, d3, hKu⟩ := (HK.out.mono (HEV.out.hz (by omega))).atG (List.getElem?_eq_getElem hkl)
        obtain ⟨ua, uc, rfl⟩ := hKu.form
        have hmem : ks[k] ∈ ks := List.getElem_mem hkl
        have HTK := Lib.hid (namesQL_take hkl)
        have hle : (l1 ++ namesQL (ks.take k)).length + (namesQ ks[k]).length ≤ 1000000 := by
          have h1 := namesQL_take_len ks (k + 1)
          rw [HTK.out] at h1
          simp only [List.length_append] at h1 ⊢
          have := HL1.out
          omega
        replace d0 := hz_at d0
        replace d1 := hz_at d1
        replace d2 := hz_at d2
        replace d3 := hz_at d3
        unfold strV at d2
        have HX := Lib.hid (fun lvk tw W => HI.out ks[k] hmem (.slice ua ks[k].ks.length uc) lvk (l1 ++ namesQL (ks.take k)) tw W)
        have HKU := Lib.hid hKu
        clear hKu hmem
        generalize ks[k] = y at *
        have E2 := Lib.hid ((Evo.refl tr wr (fun _ => False)).alloc 0 (.cells #[.int .i64 y.op, .int .i64 y.n, .string ⟨y.s.toArray⟩, .slice ua y.ks.length uc] 28))
        have hz2' := HX.out u0 (tr.set wr.heap.size 0) _ (HKU.out.mono (E2.out.hz (by simp))) (HRW.out.keep E2.out (by simp)) hle
        unfold exV strV rowPost at hz2'
        have HZ := Lib.hid hz2'
        clear hz2' HX
        go_wp2_with fail
        refine HZ.out.mono ?_
        rintro r W2 ⟨t2, v2, he2, rfl, hr2⟩
        have HE2 := Lib.hid (HEV.out.trans ((E2.out.mono (fun _ h => h.elim)).trans he2))
        have HR2 := Lib.hid (rowSpell hr2 (ys := cellsS (l1 ++ namesQL (ks.take (k + 1)))) (m := (l1 ++ namesQL (ks.take (k + 1))).length) (by rw [HTK.out, List.append_assoc]) (by rw [HTK.out, List.append_assoc]))
        clear hr2 he2 d0 d1 d2 d3
        go_wp2
        go_roundg G
        case rel => exact ⟨k + 1, t2, by go_num, by omega, HR2, HE2⟩
        case measure => omega
      · have hke : k = ks.length := by have := HLEN.out; omega
        have HRE := Lib.hid (rowSpell HRW.out (ys := cellsS (l1 ++ namesQL ks)) (m := (l1 ++ namesQL ks).length) (by rw [hke, List.take_length]) (by rw [hke, List.take_length]))
        clear HRW hke
        go_wp2
        go_ret
        exact ⟨tr, _, HEV.out, rfl, HRE.out⟩
end Go.Proofs.YtoklhppalkgdeaaGreatDoor
namespace Go.Proofs.YtoklhppalkgdeaaGreatDoor
open Go.RowKit Pal Go.Sort
theorem namesQ_few (e : Ex) : ∀ (deep left m : Nat), chk e deep left = some m → (namesQ e).length + m ≤ left := by
  refine Ex.ind (P := fun e => ∀ (deep left m : Nat), chk e deep left = some m → (namesQ e).length + m ≤ left) ?_ e
  intro op n s ks ih deep left m h
  by_cases hb : left = 0 ∨ 24 < deep ∨ alone op n s ks = false
  · rw [chk_no hb] at h; cases h
  rw [chk_yes hb] at h
  have hl : left ≠ 0 := fun h => hb (.inl h)
  have go : ∀ (l : List Ex), (∀ k ∈ l, k ∈ ks) → ∀ (left m : Nat), chkL l (deep + 1) left = some m → (namesQL l).length + m ≤ left := by
    intro l
    induction l with
    | nil => intro _ left m h; rw [chkL_nil] at h; cases h; rw [namesQL_nil]; simp
    | cons k l2 ih2 =>
      intro hm left m h
      rw [chkL_cons] at h
      cases h1 : chk k (deep + 1) left with
      | none => rw [h1] at h; cases h
      | some x =>
        rw [h1, Option.bind_some] at h
        have a1 := ih k (hm k (by simp)) _ _ _ h1
        have a2 := ih2 (fun y hy => hm y (by simp [hy])) x m h
        rw [namesQL_cons, List.length_append]
        omega
  have h1 := go ks (fun _ h => h) _ _ h
  rw [namesQ_mk, List.length_append]
  split
  · simp only [List.length_singleton]; omega
  · simp only [List.length_nil]; omega
theorem cellsS_enc (l : List Bs) : cellsS l = l.map encStr := by rw [cellsS_map]; rfl
theorem compact_nil' : Lib.compact (([] : List Bs).mergeSort fun x y => decide (x ≤ y)) = [] := by rw [List.mergeSort_nil]; rfl
theorem compact_le (l : List Bs) : (Lib.compact l).length ≤ l.length := Lib.compact_length_le l
theorem row_nil {t : Tag} {w : World} {T : TypeId} {a : Option Addr} {c : Nat} {xs : List Value} (h : Row t 1 w T 1 (.slice a 0 c) 0 xs) : StrsV (gh w) (.slice a 0 c) [] := by
  refine ⟨a, c, rfl, fun _ => rfl, Nat.zero_le _, ?_, fun j s hj => by simp at hj⟩
  rcases h.own.2 with ⟨hv, _⟩ | ⟨g, cp, cur, hv, _, _, _, hm, _⟩
  · cases hv; exact Nat.zero_le _
  · cases hv; exact hm
theorem own_new {w W W1 : World} {t' : Tag} {g n c : Nat} (hB : Below w.heap.size w W1) (hev : Evo T0 W t' W1 (· = 1)) (ht : ∀ b, (Value.slice (some ⟨g, 0, none⟩) n c).ownBlock = some b → t' b = 1) (hb : Below w.heap.size w W) : w.heap.size ≤ g := by
  rcases Nat.lt_or_ge g w.heap.size with h | h
  · have h1 := ht g rfl
    have h2 := hev.tag g (Nat.lt_of_lt_of_le h hb.size)
    rw [h1] at h2
    simp [T0] at h2
  · exact h
set_option maxRecDepth 1000000 in
set_option maxHeartbeats 8000000 in
theorem pNames_any (e : Ex) (v : Value) (w : World) (hF : Fine e) (hL : Lay (gh w)) (hE : EV (gh w) v e) (hc : check e = true) :
    Calls Tryz.prog 31 #[v] w fun r W => Below w.heap.size w W ∧ ∃ v', r = .returned v' ∧ StrsV (gh W) v' (namesM e) := by
  have hG := check_good hF hc
  obtain ⟨m, hm⟩ : ∃ m, chk e 1 128 = some m := Option.isSome_iff_exists.1 hc
  have hfew := namesQ_few _ _ _ _ hm
  have HM := Lib.hid (names_same hG)
  have HCK := Lib.hid (fun (v : Value) (W : World) (hl : Lay (gh W)) (he : EV (gh W) v e) => parseCheck_any e v W hF hl he)
  rw [hc] at HCK
  clear hF hc hm hG
  cases e with
  | mk op n s ks =>
  obtain ⟨kv, rfl, hK⟩ := hE
  simp only [Ex.op, Ex.n, Ex.s, Ex.ks] at hK ⊢
  obtain ⟨a, cap, rfl⟩ := hK.form
  have HPN := Lib.hid (pnames_any (.mk op n s ks))
  obtain ⟨len, hlen⟩ : ∃ len, ks.length = len := ⟨_, rfl⟩
  rw [hlen] at hK ⊢
  obtain ⟨Q, hQ⟩ : ∃ Q, namesQ (.mk op n s ks) = Q := ⟨_, rfl⟩
  obtain ⟨M, hMM⟩ : ∃ Q, namesM (.mk op n s ks) = Q := ⟨_, rfl⟩
  have HB0 := Lib.hid ((Below.refl w.heap.size w).alloc (Nat.le_refl _) (.cells #[.int .i64 op, .int .i64 n, .string ⟨s.toArray⟩, .slice a len cap] 28))
  have HBOX := Lib.hid (heap_alloc_new w (.cells #[.int .i64 op, .int .i64 n, .string ⟨s.toArray⟩, .slice a len cap] 28))
  have HK := Lib.hid (hK.keep HB0.out)
  have HLA := Lib.hid (hL.below HB0.out)
  have HCK2 := Lib.hid (HCK.out (exV op n s (.slice a len cap)) (w.alloc (.cells #[.int .i64 op, .int .i64 n, .string ⟨s.toArray⟩, .slice a len cap] 28)) HLA.out ⟨_, rfl, HK.out⟩)
  have HPN2 := Lib.hid (fun W (hb : Below (w.alloc (.cells #[.int .i64 op, .int .i64 n, .string ⟨s.toArray⟩, .slice a len cap] 28)).heap.size (w.alloc (.cells #[.int .i64 op, .int .i64 n, .string ⟨s.toArray⟩, .slice a len cap] 28)) W) => HPN.out (.slice a len cap) (.slice none 0 0) [] T0 W (by rw [hz_T0]; exact HK.out.keep hb) (rowT0 W _ 1) (by rw [hQ] at hfew ⊢; simp only [List.length_nil]; omega))
  unfold PNm at HPN
  rw [hMM] at HM ⊢
  rw [hQ] at hfew HM
  simp only [Ex.op, Ex.n, Ex.s, Ex.ks, hQ, List.nil_append] at HPN2
  clear HPN HCK hK hlen hQ hMM hL HK HLA
  unfold exV strV at HCK2 HPN2 ⊢
  unfold rowPost at HPN2
  go_enter Tryz.func31, Tryz.ntmps31
  go_upto_region 1 with fail
  generalize w.alloc (.cells #[.int .i64 op, .int .i64 n, .string ⟨s.toArray⟩, .slice a len cap] 28) = W0 at *
  obtain ⟨⟨c0, c1, c2, c3⟩, -⟩ := four_all HBOX.out
  go_wp2_with fail
  refine HCK2.out.mono ?_
  rintro r W ⟨rfl, hb⟩
  have HB1 := Lib.hid hb
  have HPN3 := Lib.hid (HPN2.out W hb)
  clear c0 c1 c2 c3 hb HPN2
  obtain ⟨⟨c0, c1, c2, c3⟩, -⟩ := four_all ((HB1.out.block _ (heap_alloc_lt _ HBOX.out)).trans HBOX.out)
  go_wp2_with fail
  refine HPN3.out.mono ?_
  rintro r W1 ⟨t', lv, hev, rfl, hrow⟩
  have HB2 := Lib.hid (HB0.out.seq (HB1.out.seq (hev.toBelow (by omega))))
  have HEV := Lib.hid hev
  clear c0 c1 c2 c3 hev
  by_cases hne : Q = []
  · subst hne
    obtain ⟨a1, k1, rfl⟩ := hrow.form
    have HM0 : Hid (M = []) := Lib.hid (HM.out.symm.trans compact_nil')
    have HSV : Hid (StrsV (gh W1) (.slice a1 0 k1) []) := Lib.hid (row_nil hrow)
    have HS := Lib.hid (Tryz.slices_Sort_string_none a1 k1)
    have HC := Lib.hid (Tryz.slices_Compact_string_empty a1 k1)
    clear hrow HM HPN3 HEV
    go_wp2_with fail
    refine (HS.out _).mono ?_
    rintro r W2 ⟨rfl, rfl⟩
    go_wp2_with fail
    refine (HC.out _).mono ?_
    rintro r W3 ⟨rfl, rfl⟩
    go_wp2
    go_ret
    exact ⟨HB2.out, _, rfl, by rw [HM0.out]; exact HSV.out⟩
  · have hq0 : 0 < Q.length := List.length_pos_iff.2 hne
    rcases hrow.own.2 with ⟨_, hn⟩ | ⟨g, cp, cur, rfl, hbase, hb, h1, h2, h3, h4⟩
    · omega
    have hgW : w.heap.size ≤ g := own_new HB2.out HEV.out hrow.tag (HB0.out.seq HB1.out)
    have hglt : g < W1.heap.size := (Array.getElem?_eq_some_iff.1 hb).1
    obtain ⟨ts, hts⟩ : ∃ ts, (Q.mergeSort fun x y => decide (x ≤ y)) = ts := ⟨_, rfl⟩
    have htl : ts.length = Q.length := by rw [← hts, List.length_mergeSort]
    rw [hts] at HM
    have hml := compact_le ts
    rw [HM.out] at hml
    have hmne : M ≠ [] := fun h => by
      have := ((sort_compact Q).2 (Q.head hne)).2 (List.head_mem hne)
      rw [hts, HM.out, h] at this
      cases this
    have HH : Holds encStr W1 g 0 Q.toArray := holds_of_block hb (by rw [cellsS_enc] at h4; simpa using h4)
    have HSO := Lib.hid (Tryz.slices_Sort_string g 0 cp Q W1 HH hglt (by omega))
    rw [hts] at HSO
    obtain ⟨ql, hql⟩ : ∃ n, Q.length = n := ⟨_, rfl⟩
    have HOW := Lib.hid (fun n os => ownsRow_sorted (n := n) (os := os) (ts := ts) htl hbase hb h1 h2 h3)
    rw [hql] at HSO HOW htl hfew
    rw [hql]
    have HBE := Lib.hid (fun n os => HB2.out.grown (grownBy_sorted (n := n) (os := os) (g := g) ts.toArray) HB2.out.size (fun k hk => by cases hk; exact hgW))
    clear hrow HPN3 HEV hb h1 h2 h3 h4 HH hq0 hne
    go_wp2_with fail
    refine HSO.out.mono ?_
    rintro r W2 ⟨rfl, n2, os2, hW2⟩
    have hO2 := HOW.out n2 os2
    rw [← hW2] at hO2
    have HB3 := Lib.hid (HBE.out n2 os2)
    rw [← hW2] at HB3
    have hO3 := hO2
    obtain ⟨g', cp', hge, -, -, hcp, -, -, HH2⟩ := Lib.holds_of_ownsRow hO2 (by simp)
    simp only [Value.slice.injEq, Option.some.injEq, Addr.mk.injEq, and_true, true_and] at hge
    obtain ⟨rfl, rfl⟩ := hge
    have HCO := Lib.hid (Tryz.slices_Compact_string g 0 cp ts W2 HH2 (by omega) (by omega))
    rw [HM.out, htl] at HCO
    have HO3 := Lib.hid (fun q => Lib.ownsRow_putRow (q := q) (ys := M ++ List.replicate (ql - M.length) []) (k := M.length) hO3 (by rw [List.length_append, List.length_replicate]; omega) (by omega))
    clear hW2 hO2 hO3 HH2 HOW HSO HBE
    go_wp2_with fail
    refine HCO.out.mono ?_
    rintro r W3 ⟨rfl, q, hW3⟩
    have hO4 := HO3.out q
    rw [← hW3, List.take_left, ← cellsS_enc] at hO4
    have HB4 := Lib.hid (Lib.below_putRow (enc := encStr) (q := q) (d := (M ++ List.replicate (ql - M.length) []).toArray) HB3.out hgW)
    rw [← hW3] at HB4
    have HR4 := Lib.hid (NmV.ofRow (t := fun _ => 1) (l := M) ⟨hO4, fun _ _ => rfl⟩ hmne)
    clear hW3 hO4
    go_wp2
    go_ret
    exact ⟨HB4.out, _, rfl, HR4.out.strs⟩
end Go.Proofs.YtoklhppalkgdeaaGreatDoor
namespace Go.Proofs.YtoklhppalkgdeaaGreatDoor
open Go.RowKit Pal
theorem same_self7 {e : Ex} (h : check e = true) : (check e && (check e && sameX e e)) = true := by rw [h, (sameX_iff e e).2 rfl]; rfl
set_option maxRecDepth 1000000 in
set_option maxHeartbeats 8000000 in
theorem parsetexts_walk (e : Ex) (v : Value) (w : World) (hL : Lay2 w) (hE : EV (gh w) v e) (hF0 : Fine0 e) :
    Calls Tryz.prog 8 #[v] w (yesPost w) := by
  have HL := Lib.hid hL
  have HE := Lib.hid hE
  obtain ⟨kv, rfl, hK⟩ := hE
  obtain ⟨a, cap, rfl⟩ := hK.form
  have HKE := Lib.hid hK
  have hb1 := (Below.refl w.heap.size w).alloc (Nat.le_refl _) (.cells #[.int .i64 e.op, .int .i64 e.n, .string ⟨e.s.toArray⟩, .slice a e.ks.length cap] 28)
  have e1 := heap_alloc_new w (.cells #[.int .i64 e.op, .int .i64 e.n, .string ⟨e.s.toArray⟩, .slice a e.ks.length cap] 28)
  have hti := Tiny_any e _ _ hF0 (HE.out.keep hb1)
  have HB1 := Lib.hid hb1
  have HX1 := Lib.hid e1
  have HAW := Lib.hid (fun w hL => awake7 w hL)
  unfold exV strV at *
  cases ht : tiny e with
  | false =>
    rw [ht] at hti
    have HT := Lib.hid hti
    clear hti ht hK hb1 e1 hL
    go_enter Tryz.func8, Tryz.ntmps8
    go_wp2_with fail
    refine HT.out.mono ?_
    rintro r W ⟨rfl, hb⟩
    have HB2 := Lib.hid (HB1.out.seq hb)
    clear hb
    go_wp2_with fail
    refine (HAW.out _ (HL.out.below HB2.out)).mono ?_
    rintro r W2 ⟨rfl, hb2⟩
    have hb3 := HB2.out.seq hb2
    go_wp2
    go_ret
    exact ⟨rfl, hb3⟩
  | true =>
    have hS := tiny_slim ht
    have HS := Lib.hid hS
    have HF := Lib.hid (hS.fine hF0)
    rw [ht] at hti
    have HT := Lib.hid hti
    obtain ⟨ck, hck⟩ : ∃ ck, check e = ck := ⟨_, rfl⟩
    have hrc := fun W h => refCheck7_any e (exV e.op e.n e.s (.slice a e.ks.length cap)) W HF.out h
    rw [hck] at hrc
    have HRC := Lib.hid hrc
    have HCK := Lib.hid hck
    unfold exV strV at HRC
    clear hti ht hK hb1 e1 hL hS hck hrc
    go_enter Tryz.func8, Tryz.ntmps8
    go_wp2_with fail
    refine HT.out.mono ?_
    rintro r W ⟨rfl, hb⟩
    have hx := (hb.block _ (by simp)).trans HX1.out
    have HX := Lib.hid hx
    have HB2 := Lib.hid (HB1.out.seq hb)
    have hwl : w.heap.size < W.heap.size := (Array.getElem?_eq_some_iff.1 hx).1
    obtain ⟨⟨x0, x1, x2, x3⟩, -⟩ := four_all hx
    clear hb hx
    go_wp2_with fail
    refine (HRC.out _ (HE.out.keep HB2.out)).mono ?_
    rintro r W1 ⟨rfl, hb⟩
    have hx := (hb.block _ hwl).trans HX.out
    have HX2 := Lib.hid hx
    have HB3 := Lib.hid (HB2.out.seq hb)
    clear x0 x1 x2 x3 hwl
    obtain ⟨⟨x0, x1, x2, x3⟩, -⟩ := four_all hx
    clear hb hx HB2 HX HX1 HT
    cases ck with
    | false =>
      clear x0 x1 x2 x3
      go_wp2_with fail
      refine (HAW.out _ (HL.out.below HB3.out)).mono ?_
      rintro r W2 ⟨rfl, hb2⟩
      have hb3 := HB3.out.seq hb2
      go_wp2
      go_ret
      exact ⟨rfl, hb3⟩
    | true =>
      have htz := check_tz HF.out HCK.out
      have hlm := tz_len htz
      obtain ⟨m, hm⟩ : ∃ m, chk e 1 128 = some m := Option.isSome_iff_exists.1 HCK.out
      have hnf := names_few _ _ _ _ hm
      obtain ⟨tb, htb⟩ : ∃ tb : ByteArray, (⟨(textX e).toArray⟩ : ByteArray) = tb := ⟨_, rfl⟩
      have hts : tb.size ≤ 1000000 := by rw [← htb]; simpa [ByteArray.size] using hlm
      have HTB : Hid (tb.data.toList = textX e) := Lib.hid (by rw [← htb])
      have HBK := Lib.hid (fun hl => back_law HF.out HCK.out hl)
      have hcp := fun W h => Expr_any e (exV e.op e.n e.s (.slice a e.ks.length cap)) W HS.out h
      have hpt := fun v W hl hk => parseText_any e v W HF.out hl hk HCK.out
      have hrt := fun W hk => rtext_any e (.slice a e.ks.length cap) W htz hk
      have hpn := fun v W hl he => pNames_any e v W HF.out hl he HCK.out
      have hrn := fun W he => names_of e (exV e.op e.n e.s (.slice a e.ks.length cap)) W HCK.out he
      have hsx := fun va vb W ha hb => sameTexts_eq (namesM e) va vb W (by omega) ha hb
      have hps := fun v W (he : EV (gh W) (exV e.op e.n e.s (.slice a e.ks.length cap)) e) hl hk' => parseSame_any e e (.slice a e.ks.length cap) v W HF.out HF.out hl (by obtain ⟨kv, hh, hk⟩ := he; unfold exV at hh; cases hh; exact hk) hk'
      rw [same_self7 HCK.out] at hps
      unfold strPost strV at hpt hrt
      rw [htb] at hpt hrt
      unfold boolPost at hps
      unfold namePost at hrn
      have HCP := Lib.hid hcp
      have HPT := Lib.hid hpt
      have HRT := Lib.hid hrt
      have HPN := Lib.hid hpn
      have HRN := Lib.hid hrn
      have HSX := Lib.hid hsx
      have HPS := Lib.hid hps
      unfold exV strV at HCP HPT HRT HRN HPS
      have qt : (tb == tb) = true := by show (tb.data == tb.data) = true; simp
      have qs : (tb != tb) = false := by unfold bne; rw [qt]; rfl
      clear htz hlm hm hnf htb hcp hpt hrt hpn hrn hsx hps HRC
      go_wp2_with fail
      refine (HCP.out _ (HE.out.keep HB3.out)).mono ?_
      rintro r W2 h2
      have HB4 := Lib.hid (HB3.out.seq h2.1)
      have hx := (h2.1.block _ (heap_alloc_lt _ HX2.out)).trans HX2.out
      have HX3 := Lib.hid hx
      obtain ⟨v2, hv2, kv2, hkv2, hk2⟩ := h2.ev
      obtain ⟨ka, kc, rfl⟩ := hk2.form
      subst hkv2
      subst hv2
      have HK2 := Lib.hid hk2
      unfold exV strV
      clear h2 hk2 hx x0 x1 x2 x3
      go_wp2_with fail
      refine (HPT.out _ _ (HL.out.below HB4.out) HK2.out).mono ?_
      rintro r W3 ⟨rfl, hb3⟩
      have HBX := Lib.hid (HB4.out.seq hb3)
      have hx := (hb3.block _ (heap_alloc_lt _ HX3.out)).trans HX3.out
      have hwl : w.heap.size < W3.heap.size := heap_alloc_lt _ hx
      have HX4 := Lib.hid hx
      have hk : ∀ W', Below W3.heap.size W3 W' → (W'.cell? ⟨w.heap.size, 0, none⟩ = some (.int .i64 e.op) ∧ W'.cell? ⟨w.heap.size, 1, none⟩ = some (.int .i64 e.n) ∧ W'.cell? ⟨w.heap.size, 2, none⟩ = some (.string ⟨e.s.toArray⟩) ∧ W'.cell? ⟨w.heap.size, 3, none⟩ = some (.slice a e.ks.length cap)) := fun W' hb' => (four_all ((hb'.block _ hwl).trans HX4.out)).1
      have HK := Lib.hid hk
      obtain ⟨⟨x0, x1, x2, x3⟩, -⟩ := four_all hx
      clear hx hb3 hk HK2 HB4 HB3 HX2 HX3 HX4
      have hbe : Below W3.heap.size W3 W3.drew := (Below.refl _ _).drew
      have HWL := Lib.hid hwl
      clear hwl
      go_upto_region 4 with fail
      go_region_held3 (fun w' => (w'.cell? ⟨w.heap.size, 0, none⟩ = some (.int .i64 e.op) ∧ w'.cell? ⟨w.heap.size, 1, none⟩ = some (.int .i64 e.n) ∧ w'.cell? ⟨w.heap.size, 2, none⟩ = some (.string ⟨e.s.toArray⟩) ∧ w'.cell? ⟨w.heap.size, 3, none⟩ = some (.slice a e.ks.length cap))) (go_keep)
        ((first
          | (go_at_call 32; refine (HPS.out _ _ (HE.out.keep (HBX.out.seq hbe6)) (HL.out.lay.below (HBX.out.seq hbe6)) HK6.out).mono ?_; rintro r W7 ⟨rfl, hb7⟩; have hbe7 := hbe6.seq hb7; have hg := HK.out W7 hbe7; obtain ⟨g0, g1, g2, g3⟩ := hg; clear hb7)
          | (go_at_call 28; refine (HCP.out _ (HE.out.keep (HBX.out.seq hbe5))).mono ?_; rintro r W6 h6; have hbe6 := hbe5.seq h6.1; obtain ⟨v6, hv6, kv6, hkv6, hk6⟩ := h6.ev; obtain ⟨ka, kc, hkf⟩ := hk6.form; subst hkf; subst hkv6; subst hv6; have HK6 := Lib.hid hk6; unfold exV strV; have hg := HK.out W6 hbe6; obtain ⟨g0, g1, g2, g3⟩ := hg; clear h6 hk6)
          | (go_at_call 30; refine (HSX.out _ _ _ HN3.out HN4.out).mono ?_; rintro r W5 ⟨rfl, hb5⟩; have hbe5 := hbe4.seq hb5; have hg := HK.out W5 hbe5; obtain ⟨g0, g1, g2, g3⟩ := hg; clear hb5)
          | (go_at_call 18; refine (HRN.out _ (HE.out.keep (HBX.out.seq hbe3))).mono ?_; rintro r W4 ⟨hb4, v4, rfl, hn4⟩; have hbe4 := hbe3.seq hb4; have HN3 := Lib.hid (HN2.out.mono (below_gh hb4)); have HN4 := Lib.hid hn4.strs; have hg := HK.out W4 hbe4; obtain ⟨g0, g1, g2, g3⟩ := hg; clear hb4 hn4)
          | (go_at_call 31; refine (HPN.out _ _ (HL.out.lay.below (HBX.out.seq hbe2)) ⟨_, rfl, HK2.out⟩).mono ?_; rintro r W3 ⟨hb3, v3, rfl, hn3⟩; have hbe3 := hbe2.seq hb3; have HN2 := Lib.hid hn3; have hg := HK.out W3 hbe3; obtain ⟨g0, g1, g2, g3⟩ := hg; clear hb3 hn3)
          | (go_at_call 28; refine (HCP.out _ (HE.out.keep (HBX.out.seq hbe1))).mono ?_; rintro r W2 h2; have hbe2 := hbe1.seq h2.1; obtain ⟨v2, hv2, kv2, hkv2, hk2⟩ := h2.ev; obtain ⟨ka, kc, hkf⟩ := hk2.form; subst hkf; subst hkv2; subst hv2; have HK2 := Lib.hid hk2; unfold exV strV; have hg := HK.out W2 hbe2; obtain ⟨g0, g1, g2, g3⟩ := hg; clear h2 hk2)
          | (go_at_call 29; refine (HRT.out _ (HKE.out.keep (HBX.out.seq hbe))).mono ?_; rintro r W1 ⟨rfl, hb1⟩; have hbe1 := hbe.seq hb1; have hg := HK.out W1 hbe1; obtain ⟨g0, g1, g2, g3⟩ := hg; clear hb1)))
      all_goals
        have HBY := Lib.hid (HBX.out.seq hbe7)
        have HKY := Lib.hid (fun W' (hb : Below W7.heap.size W7 W') => HK.out W' (hbe7.seq hb))
        clear hbe hbe1 hbe2 hbe3 hbe4 hbe5 hbe6
        by_cases hT4 : 400 < tb.size
        · have q4 : decide ((400 : Int) < (tb.size : Int)) = true := decide_eq_true (by omega)
          clear hT4 HBK g0 g1 g2 g3
          go_wp2_with fail
          refine (HAW.out _ (HL.out.below HBY.out)).mono ?_
          rintro r W8 ⟨rfl, hb8⟩
          have hb9 := HBY.out.seq hb8
          go_wp2
          go_ret
          exact ⟨rfl, hb9⟩
        · have q4 : decide ((400 : Int) < (tb.size : Int)) = false := decide_eq_false (by omega)
          have hsz : tb.size = (textX e).length := by rw [← HTB.out, Array.length_toList]; rfl
          have hpb := HBK.out (by omega)
          have HPB := Lib.hid (fun W hL => parse_yes tb e W (by omega) (by rw [HTB.out]; exact hpb) hL)
          clear hT4 HBK hpb hsz g0 g1 g2 g3
          go_wp2_with fail
          refine (HPB.out _ (HL.out.lay.below HBY.out)).mono ?_
          rintro r W8 ⟨hb8, a2, k2, rfl, hK8⟩
          have hbn := (Below.refl W8.heap.size W8).alloc (Nat.le_refl _) (.cells #[.int .i64 e.op, .int .i64 e.n, .string ⟨e.s.toArray⟩, .slice a2 e.ks.length k2] 28)
          have hbB := (HBY.out.seq hb8).seq hbn
          have hg := HKY.out _ (hb8.seq hbn)
          have hKC := hK8.keep hbn
          have hKD := HKE.out.keep hbB
          have hc2 := heap_alloc_new W8 (.cells #[.int .i64 e.op, .int .i64 e.n, .string ⟨e.s.toArray⟩, .slice a2 e.ks.length k2] 28)
          clear hb8 hK8 hbn HPB HKY
          go_upto_region 9 with fail
          generalize W8.alloc (.cells #[.int .i64 e.op, .int .i64 e.n, .string ⟨e.s.toArray⟩, .slice a2 e.ks.length k2] 28) = WB at *
          obtain ⟨g0, g1, g2, g3⟩ := hg
          obtain ⟨d0, d1, d2, d3⟩ := four_cells hc2
          have hs := rsame_any e e (.slice a2 e.ks.length k2) (.slice a e.ks.length cap) WB hKC hKD
          rw [(sameX_iff e e).2 rfl] at hs
          unfold exV strV boolPost at hs
          have HSS := Lib.hid hs
          have HBB := Lib.hid hbB
          clear hs hbB hKC hKD hc2
          go_wp2_with fail
          refine HSS.out.mono ?_
          rintro r W9 ⟨rfl, hb9⟩
          have hb10 := HBB.out.seq hb9
          clear hb9 d0 d1 d2 d3 g0 g1 g2 g3
          go_wp2_with fail
          refine (HAW.out _ (HL.out.below hb10)).mono ?_
          rintro r W10 ⟨rfl, hb11⟩
          have hb12 := hb10.seq hb11
          go_wp2
          go_ret
          exact ⟨rfl, hb12⟩
end Go.Proofs.YtoklhppalkgdeaaGreatDoor
