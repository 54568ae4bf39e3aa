/- math/bits.Div64 by ten. -/
import Derived.Test.YtogmajeaaabjlaaGreatDoorWide
import Derived.Laws.Bits64b
namespace Go.Proofs.YtogmajeaaabjlaaGreatDoor
open Go.RowKit

set_option maxHeartbeats 1000000 in
set_option maxRecDepth 100000 in
theorem div64_low (lo : Int) (h0 : 0 ≤ lo) (h1 : lo < 18446744073709551616) (w : World) :
    Calls Tryz.prog 14 #[.int .u64 0, .int .u64 lo, .int .u64 10] w fun e w' => e = .returned (.tuple #[.int .u64 (lo / 10), .int .u64 (lo % 10)]) ∧ w' = w.drew := by
  go_enter Tryz.func14, Tryz.ntmps14
  go_wp2_with fail
  go_region
  go_wp2_with fail
  go_ret2
  exact ⟨rfl, rfl⟩

theorem lead_ten (w : World) :
    Calls Tryz.prog 44 #[.int .u64 10] w fun e w' => e = .returned (.int .i64 60) ∧ w' = w :=
  (Tryz.bits_LeadingZeros64 10 w (by decide) (by decide)).mono (by rintro e w' ⟨rfl, rfl⟩; exact ⟨by simp [show Lib.bitLen 10 = 4 by decide +kernel], rfl⟩)

theorem wrap64 (x : Int) : IntKind.u64.wrap x = x % 18446744073709551616 := IntKind.wrap_u64 x
theorem w64_id (n : Int) (h0 : 0 ≤ n) (h1 : n < 2 ^ 64) : IntKind.u64.wrap n = n := by rw [wrap64]; omega
theorem or_join (r a : Int) (hr0 : 1 ≤ r) (hr1 : r ≤ 9) (ha0 : 0 ≤ a) (ha1 : a < 1152921504606846976) : bits .or .u64 (r * 1152921504606846976) a = r * 1152921504606846976 + a :=
  bits_join .u64 64 (by decide) w64_id 60 _ _ (by omega) (by omega) (by omega) ha0 (by omega) (by omega)
theorem and_none (b : Int) (h0 : 0 ≤ b) (h1 : b < 16) : bits .and .u64 (b * 1152921504606846976) 4294967295 = 0 := by
  have h := bits_mask .u64 64 (by decide) w64_id 32 (by decide) (b * 1152921504606846976) (by omega) (by omega)
  rw [show (2 ^ 32 - 1 : Int) = 4294967295 by decide] at h
  rw [h]; omega

set_option maxHeartbeats 2000000 in
set_option maxRecDepth 100000 in
theorem div64_high (r lo : Int) (hr0 : 1 ≤ r) (hr1 : r ≤ 9) (h0 : 0 ≤ lo) (h1 : lo < 18446744073709551616) (w : World) :
    Calls Tryz.prog 14 #[.int .u64 r, .int .u64 lo, .int .u64 10] w fun e w' => e = .returned (.tuple #[.int .u64 ((r * 18446744073709551616 + lo) / 10), .int .u64 ((r * 18446744073709551616 + lo) % 10)]) ∧ w' = w := by
  have hrz : (r == 0) = false := by simp; omega
  obtain ⟨a, ha⟩ : ∃ a, a = lo / 16 := ⟨_, rfl⟩
  obtain ⟨b, hb⟩ : ∃ b, b = lo % 16 := ⟨_, rfl⟩
  obtain ⟨u, hu⟩ : ∃ u, u = r * 1152921504606846976 + a := ⟨_, rfl⟩
  obtain ⟨q, hq⟩ : ∃ q, q = u / 2684354560 := ⟨_, rfl⟩
  obtain ⟨v, hv⟩ : ∃ v, v = u % 2684354560 := ⟨_, rfl⟩
  obtain ⟨q0, hq0⟩ : ∃ q0, q0 = (v * 16 + b) / 10 := ⟨_, rfl⟩
  obtain ⟨m, hm⟩ : ∃ m, m = (v * 16 + b) % 10 := ⟨_, rfl⟩
  obtain ⟨z, hz⟩ : ∃ z, z = v * 4294967296 + b * 268435456 := ⟨_, rfl⟩
  have ha0 : 0 ≤ a := by omega
  have ha1 : a < 1152921504606846976 := by omega
  have hb0 : 0 ≤ b := by omega
  have hb1 : b < 16 := by omega
  have hu0 : 0 ≤ u := by omega
  have hu1 : u < 11529215046068469760 := by omega
  have hqv : u = q * 2684354560 + v := by omega
  have hv0 : 0 ≤ v := by omega
  have hv1 : v < 2684354560 := by omega
  have hq1 : 0 ≤ q := by omega
  have hq2 : q < 4294967296 := by omega
  have hc : v * 16 + b = q0 * 10 + m := by omega
  have hm0 : 0 ≤ m := by omega
  have hm1 : m < 10 := by omega
  have hq00 : 0 ≤ q0 := by omega
  have hq01 : q0 < 4294967296 := by omega
  have hzc : z = q0 * 2684354560 + m * 268435456 := by omega
  have hz0 : 0 ≤ z := by omega
  have hz1 : z < 11529215046068469760 := by omega
  have e1 : (r * 18446744073709551616 + lo) / 10 = q * 4294967296 + q0 := by omega
  have e2 : (r * 18446744073709551616 + lo) % 10 = m := by omega
  have f0 : bits BinOp.and IntKind.u64 11529215046068469760 4294967295 = 0 := by decide +kernel
  have f1 : bits .or .u64 (r * 1152921504606846976) a = u := by rw [hu]; exact or_join r a hr0 hr1 ha0 ha1
  have f2 : IntKind.u64.wrap (lo * 1152921504606846976) = b * 1152921504606846976 := by rw [wrap64]; omega
  have f3 : b * 1152921504606846976 / 4294967296 = b * 268435456 := by omega
  have f4 := and_none b hb0 hb1
  have f5 : IntKind.u64.wrap (u.tdiv 2684354560) = q := by rw [Int.tdiv_eq_ediv_of_nonneg hu0, ← hq]; exact w64_id _ hq1 (by omega)
  have f6 : IntKind.u64.wrap (u - IntKind.u64.wrap (q * 2684354560)) = v := by rw [wrap64, wrap64]; omega
  rw [e1, e2]
  have g3 : IntKind.u64.wrap (IntKind.u64.wrap (IntKind.u64.wrap (u * 4294967296) + b * 268435456) - IntKind.u64.wrap (q * 11529215046068469760)) = z := by simp only [wrap64]; omega
  have g4 : IntKind.u64.wrap (z.tdiv 2684354560) = q0 := by rw [Int.tdiv_eq_ediv_of_nonneg hz0, wrap64]; omega
  have g5 : IntKind.u64.wrap (z - IntKind.u64.wrap (q0 * 2684354560)) = m * 268435456 := by simp only [wrap64]; omega
  have G3 := Lib.hid g3; have G4 := Lib.hid g4; have G5 := Lib.hid g5
  have g6 : IntKind.u64.wrap (IntKind.u64.wrap (q * 4294967296) + q0) = q * 4294967296 + q0 := by simp only [wrap64]; omega
  have g7 : IntKind.u64.wrap (IntKind.u64.wrap (IntKind.u64.wrap (z * 4294967296)) - IntKind.u64.wrap (q0 * 11529215046068469760)) / 1152921504606846976 = m := by simp only [wrap64]; omega
  have G6 := Lib.hid g6; have G7 := Lib.hid g7
  have HA := Lib.hid ha; have F1 := Lib.hid f1; have F2 := Lib.hid f2; have F3 := Lib.hid f3; have F4 := Lib.hid f4; have F5 := Lib.hid f5; have F6 := Lib.hid f6
  clear ha hb hu hq hv hq0 hm hz hqv hc hzc f1 f2 f3 f4 f5 f6 e1 e2 g3 g4 g5 g6 g7
  go_enter Tryz.func14, Tryz.ntmps14
  go_wp2_with fail
  refine (lead_ten _).mono ?_
  rintro e w' ⟨rfl, rfl⟩
  go_wp2_with fail
  rw [← HA.out, F1.out, F2.out, F3.out, F4.out, F5.out, F6.out]
  go_loopg [15, 16] 0 (fun _ s15 s16 wr => s15 = .int .u64 q ∧ s16 = .int .u64 v ∧ wr = w')
  case atStart => exact ⟨rfl, rfl, rfl⟩
  case round =>
    obtain ⟨rfl, rfl, rfl⟩ := hrel
    go_wp2_with fail
    rw [G3.out, G4.out, G5.out]
    go_loopg [16, 18] 0 (fun _ s16 s18 wr' => s16 = .int .u64 (m * 268435456) ∧ s18 = .int .u64 q0 ∧ wr' = wr)
    case atStart => exact ⟨rfl, rfl, rfl⟩
    case round =>
      obtain ⟨rfl, rfl, rfl⟩ := hrel
      go_wp2_with fail
      rw [G7.out]
      go_ret2
      exact ⟨rfl, rfl⟩

/-- math/bits.Div64 by ten. -/
theorem div64_ten (r lo : Int) (hr0 : 0 ≤ r) (hr1 : r ≤ 9) (h0 : 0 ≤ lo) (h1 : lo < 18446744073709551616) (w : World) :
    Calls Tryz.prog 14 #[.int .u64 r, .int .u64 lo, .int .u64 10] w fun e w' => e = .returned (.tuple #[.int .u64 ((r * 18446744073709551616 + lo) / 10), .int .u64 ((r * 18446744073709551616 + lo) % 10)]) ∧ ∃ k, w' = w.drewN k := by
  by_cases hr : r = 0
  · subst hr
    refine (div64_low lo h0 h1 w).mono ?_
    rintro e w' ⟨rfl, rfl⟩
    exact ⟨by rw [Int.zero_mul, Int.zero_add], 1, rfl⟩
  · refine (div64_high r lo (by omega) hr1 h0 h1 w).mono ?_
    rintro e w' ⟨rfl, rfl⟩
    exact ⟨rfl, 0, rfl⟩
end Go.Proofs.YtogmajeaaabjlaaGreatDoor
