/- The walk of palaverlaw07.ParseAll. Conditions: the tables hold what they are laid with; the text is as long as any may be. -/
import Derived.Test.YtoklhppalkgdeaaGreatDoorQ7
import Derived.Test.YtoklhppalkgdeaaGreatDoorQ8
import Derived.Test.YtoklhppalkgdeaaGreatDoorS5
import Derived.Test.YtoklhppalkgdeaaGreatDoorR1
set_option linter.unusedSimpArgs false
set_option linter.unusedVariables false
set_option linter.unusedSectionVars false
namespace Go.Proofs.YtoklhppalkgdeaaGreatDoor
open Go.RowKit Pal
/-- What both parsers hand back. -/
def outE (x : Except (Nat × Int) Ex) : Ex × Int × Int := match x with | .error (p, k) => (.mk 0 0 [] [], p, k) | .ok e => (e, 0, 0)
theorem parsePost_out {s : ByteArray} {w w' : World} {e : Ending} {X : Ex} {P K : Int} (hx : outE (parseM s.data.toList) = (X, P, K)) (h : parsePost s w e w') :
    Below w.heap.size w w' ∧ ∃ a c, e = .returned (.tuple #[exV X.op X.n X.s (.slice a X.ks.length c), .int .i64 P, .int .i64 K]) ∧ KV (gh w') (.slice a X.ks.length c) X.ks := by
  refine ⟨h.1, ?_⟩
  have h2 := h.2
  unfold outE at hx
  split at hx
  · rename_i p k hm
    rw [hm] at h2
    simp only [Prod.mk.injEq] at hx
    obtain ⟨rfl, rfl, rfl⟩ := hx
    exact ⟨none, 0, h2, KV.nil _⟩
  · rename_i ex hm
    rw [hm] at h2
    simp only [Prod.mk.injEq] at hx
    obtain ⟨rfl, rfl, rfl⟩ := hx
    obtain ⟨v, hv, kv, rfl, hk⟩ := h2
    obtain ⟨a, c, rfl⟩ := hk.form
    exact ⟨a, c, hv, hk.mono (gp_gh _ _)⟩
set_option maxRecDepth 1000000 in
set_option maxHeartbeats 8000000 in
theorem parseall_walk (s : ByteArray) (w : World) (hL : Lay2 w) (hm : s.size ≤ 9223372036854775807) :
    Calls Tryz.prog 5 #[.string s] w (yesPost w) := by
  have HAW := Lib.hid (fun W (hb : Below w.heap.size w W) => awake7 W (hL.below hb))
  obtain ⟨X, P, K, hx⟩ : ∃ X P K, outE (parseM s.data.toList) = (X, P, K) := ⟨_, _, _, rfl⟩
  by_cases hlen : 5000 < s.size
  · clear hx
    go_enter Tryz.func5, Tryz.ntmps5
    go_wp2_with fail
    refine (HAW.out _ (Below.refl _ _)).mono ?_
    rintro r V ⟨rfl, hbv⟩
    go_wp2
    go_ret
    exact ⟨rfl, hbv⟩
  · have HP := Lib.hid ((parse_any s w hm hL.lay).mono (fun e w' h => parsePost_out hx h))
    have HR := Lib.hid (fun W => (refParse_any s W hm).mono (fun e w' h => parsePost_out hx h))
    have HS := Lib.hid (rsame_any X)
    have HT := Lib.hid ((sameX_iff X X).2 rfl)
    unfold RSameOK at HS
    unfold exV strV at HP HR HS
    clear hx hL
    go_enter Tryz.func5, Tryz.ntmps5
    go_wp2_with fail
    refine HP.out.mono ?_
    rintro e W1 ⟨hb1, a, c, rfl, hk1⟩
    have HB2 := Lib.hid (hb1.alloc hb1.size (.cells #[.int .i64 X.op, .int .i64 X.n, .string ⟨X.s.toArray⟩, .slice a X.ks.length c] 28))
    have HK2 := Lib.hid (hk1.keep ((Below.refl _ _).alloc (Nat.le_refl _) (.cells #[.int .i64 X.op, .int .i64 X.n, .string ⟨X.s.toArray⟩, .slice a X.ks.length c] 28)))
    have hc2 := heap_alloc_new W1 (.cells #[.int .i64 X.op, .int .i64 X.n, .string ⟨X.s.toArray⟩, .slice a X.ks.length c] 28)
    clear hb1 hk1 HP
    go_upto_region 4 with fail
    generalize W1.alloc (.cells #[.int .i64 X.op, .int .i64 X.n, .string ⟨X.s.toArray⟩, .slice a X.ks.length c] 28) = W2 at *
    have hl2 : W1.heap.size < W2.heap.size := (Array.getElem?_eq_some_iff.1 hc2).1
    generalize W1.heap.size = b1 at *
    go_wp2_with fail
    refine (HR.out W2).mono ?_
    rintro e W3 ⟨hb3, a2, c2, rfl, hk3⟩
    have HB4 := Lib.hid ((HB2.out.seq hb3).alloc (HB2.out.seq hb3).size (.cells #[.int .i64 X.op, .int .i64 X.n, .string ⟨X.s.toArray⟩, .slice a2 X.ks.length c2] 28))
    have HK4 := Lib.hid (hk3.keep ((Below.refl _ _).alloc (Nat.le_refl _) (.cells #[.int .i64 X.op, .int .i64 X.n, .string ⟨X.s.toArray⟩, .slice a2 X.ks.length c2] 28)))
    have HJ4 := Lib.hid ((HK2.out.keep hb3).keep ((Below.refl _ _).alloc (Nat.le_refl _) (.cells #[.int .i64 X.op, .int .i64 X.n, .string ⟨X.s.toArray⟩, .slice a2 X.ks.length c2] 28)))
    have hc3 := (hb3.block _ hl2).trans hc2
    have hc4 := (Lib.alloc_old W3 (.cells #[.int .i64 X.op, .int .i64 X.n, .string ⟨X.s.toArray⟩, .slice a2 X.ks.length c2] 28) _ (Array.getElem?_eq_some_iff.1 hc3).1).trans hc3
    have hd4 := heap_alloc_new W3 (.cells #[.int .i64 X.op, .int .i64 X.n, .string ⟨X.s.toArray⟩, .slice a2 X.ks.length c2] 28)
    clear hb3 hk3 HB2 HK2 hc2 hc3 hl2 HR
    go_upto_region 5 with fail
    generalize W3.alloc (.cells #[.int .i64 X.op, .int .i64 X.n, .string ⟨X.s.toArray⟩, .slice a2 X.ks.length c2] 28) = W4 at *
    generalize W3.heap.size = b3 at *
    obtain ⟨⟨x0, x1, x2, x3⟩, -⟩ := four_all hc4
    obtain ⟨⟨y0, y1, y2, y3⟩, -⟩ := four_all hd4
    have HSS := Lib.hid (HS.out X _ _ W4 HJ4.out HK4.out)
    rw [HT.out] at HSS
    have q1 : (P == P) = true := beq_self_eq_true P
    have q2 : (K == K) = true := beq_self_eq_true K
    clear hc4 hd4 HJ4 HK4 HS HT
    go_wp2_with fail
    refine HSS.out.mono ?_
    rintro e W5 ⟨rfl, hb5⟩
    have HB5 := Lib.hid (HB4.out.seq hb5)
    clear hb5 x0 x1 x2 x3 y0 y1 y2 y3 HSS HB4
    go_wp2_with fail
    refine (HAW.out _ HB5.out).mono ?_
    rintro r V ⟨rfl, hbv⟩
    have hbv := HB5.out.seq hbv
    go_wp2
    go_ret
    exact ⟨rfl, hbv⟩
end Go.Proofs.YtoklhppalkgdeaaGreatDoor
