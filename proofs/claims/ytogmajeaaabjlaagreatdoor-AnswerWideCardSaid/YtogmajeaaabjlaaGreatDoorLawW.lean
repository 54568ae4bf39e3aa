/- moidorelaw28.AnswerWide answers true, whatever it is handed. -/
import Derived.Test.YtogmajeaaabjlaaGreatDoorAwake
import Derived.Test.YtogmajeaaabjlaaGreatDoorLineA
import Derived.Test.YtogmajeaaabjlaaGreatDoorLawP
namespace Go.Proofs.YtogmajeaaabjlaaGreatDoor
open Go.RowKit

/-- The line of a tick. -/
def tickB (m : Int) : ByteArray := ⟨([116, 105, 99, 107, 32] ++ Lib.decDigits m.toNat).toArray⟩
theorem tick_line (m : Int) (h : 0 ≤ m) : lineS 3 [] m = some ([116, 105, 99, 107, 32] ++ Lib.decDigits m.toNat) := by
  have e : Lib.itoa m = Lib.decDigits m.toNat := by unfold Lib.itoa; rw [if_neg (by omega)]
  unfold lineS
  rw [if_neg (by omega), if_neg (by omega), if_pos ⟨rfl, h, rfl⟩, e]
  simp [joinW]
theorem wS_zero (m : Int) (h : 0 ≤ m) : wS 0 m = ⟨(Lib.decDigits m.toNat).toArray⟩ := by
  have e : (0 * 18446744073709551616 + m).natAbs = m.toNat := by omega
  unfold wS wideS; rw [if_neg (by omega), e]; rfl
theorem wide_s (hi lo : Int) (h0 : -9223372036854775808 ≤ hi) (h1 : hi < 9223372036854775808) (l0 : 0 ≤ lo) (l1 : lo < 18446744073709551616) (w : World) :
    Calls Tryz.prog 6 #[.agg #[.int .i64 hi, .int .u64 lo]] w fun e w' => e = .returned (.string (wS hi lo)) ∧ Below w.heap.size w w' := wide_any hi lo h0 h1 l0 l1 w

set_option maxHeartbeats 1000000 in
set_option maxRecDepth 100000 in
theorem wide_law (hi lo n : Int) (h0 : -9223372036854775808 ≤ hi) (h1 : hi < 9223372036854775808) (l0 : 0 ≤ lo) (l1 : lo < 18446744073709551616) (_n0 : -9223372036854775808 ≤ n) (n1 : n ≤ 9223372036854775807) (w : World) (hL : Laid w) :
    Calls Tryz.prog 3 #[.agg #[.int .i64 hi, .int .u64 lo], .int .i64 n] w fun e w' => e = .returned (.bool true) ∧ Below w.heap.size w w' := by
  go_enter Tryz.func3, Tryz.ntmps3
  go_wp2_with fail
  have hB0 : Below w.heap.size w (w.alloc (.cells #[.int .i64 hi, .int .u64 lo] 24)) := (Below.refl _ _).alloc (Nat.le_refl _) _
  refine (awake_any _ (hL.below hB0 hL.size)).mono ?_
  rintro e w1 ⟨rfl, hB1⟩
  have k0 : w1.cell? ⟨w.heap.size, 0, none⟩ = some (.int .i64 hi) := by rw [hB1.cell (by simp)]; simp [go_sem]
  have k1 : w1.cell? ⟨w.heap.size, 1, none⟩ = some (.int .u64 lo) := by rw [hB1.cell (by simp)]; simp [go_sem]
  have hBa : Below w.heap.size w w1 := hB0.trans (hB1.mono (by simp))
  have hz1 : w.heap.size < w1.heap.size := by have := hB1.size; simp at this; omega
  clear hB0 hB1
  go_wp2_with fail
  refine (wide_s hi lo h0 h1 l0 l1 _).mono ?_
  rintro e w2 ⟨rfl, hB2⟩
  have hBb : Below w.heap.size w w2 := hBa.trans (hB2.mono hBa.size)
  have m0 : w2.cell? ⟨w.heap.size, 0, none⟩ = some (.int .i64 hi) := by rw [hB2.cell (by simpa using hz1)]; exact k0
  have m1 : w2.cell? ⟨w.heap.size, 1, none⟩ = some (.int .u64 lo) := by rw [hB2.cell (by simpa using hz1)]; exact k1
  have hz2 : w.heap.size < w2.heap.size := Nat.lt_of_lt_of_le hz1 hB2.size
  clear k0 k1 hz1 hB2 hBa
  go_wp2_with fail
  refine (digits_wide hi lo h0 h1 l0 l1 _).mono ?_
  rintro e w3 ⟨rfl, hB3⟩
  have hBc : Below w.heap.size w w3 := hBb.trans (hB3.mono hBb.size)
  have p0 : w3.cell? ⟨w.heap.size, 0, none⟩ = some (.int .i64 hi) := by rw [hB3.cell (by simpa using hz2)]; exact m0
  have p1 : w3.cell? ⟨w.heap.size, 1, none⟩ = some (.int .u64 lo) := by rw [hB3.cell (by simpa using hz2)]; exact m1
  have hz3 : w.heap.size < w3.heap.size := Nat.lt_of_lt_of_le hz2 hB3.size
  clear m0 m1 hz2 hB3 hBb
  go_wp2_with fail
  have M0 : 0 ≤ max n 0 := Int.le_max_right _ _
  have M1 : max n 0 ≤ 9223372036854775807 := by omega
  have hBd : Below w.heap.size w (w3.alloc (.cells #[.int .i64 hi, .int .u64 lo] 24)) := hBc.alloc hBc.size _
  have r0 : (w3.alloc (.cells #[.int .i64 hi, .int .u64 lo] 24)).cell? ⟨w.heap.size, 0, none⟩ = some (.int .i64 hi) := by rw [← p0]; exact ((Below.refl _ w3).alloc (Nat.le_refl _) _).cell (by simpa using hz3)
  have r1 : (w3.alloc (.cells #[.int .i64 hi, .int .u64 lo] 24)).cell? ⟨w.heap.size, 1, none⟩ = some (.int .u64 lo) := by rw [← p1]; exact ((Below.refl _ w3).alloc (Nat.le_refl _) _).cell (by simpa using hz3)
  have s0 : (w3.alloc (.cells #[.int .i64 hi, .int .u64 lo] 24)).cell? ⟨w3.heap.size, 0, none⟩ = some (.int .i64 hi) := by simp [go_sem]
  have s1 : (w3.alloc (.cells #[.int .i64 hi, .int .u64 lo] 24)).cell? ⟨w3.heap.size, 1, none⟩ = some (.int .u64 lo) := by simp [go_sem]
  have hz4 : w3.heap.size < (w3.alloc (.cells #[.int .i64 hi, .int .u64 lo] 24)).heap.size := by simp
  generalize w3.alloc (.cells #[.int .i64 hi, .int .u64 lo] 24) = w4 at hBd r0 r1 s0 s1 hz4 ⊢
  have hz5 : w.heap.size < w4.heap.size := Nat.lt_trans hz3 hz4
  generalize w3.heap.size = b3 at s0 s1 hz4 ⊢
  clear p0 p1 hz3 hBc w3
  have hline := line_any 3 (max n 0) [] (.slice none 0 0) w4 (hL.below hBd hL.size) ⟨none, 0, rfl, .inl rfl⟩ (by simp) M1
  rw [tick_line _ M0] at hline
  refine hline.mono ?_
  clear hline
  rintro e w5 ⟨rfl, hB5⟩
  have hBe : Below w.heap.size w w5 := hBd.trans (hB5.mono hBd.size)
  have t0 : w5.cell? ⟨w.heap.size, 0, none⟩ = some (.int .i64 hi) := by rw [hB5.cell (by simpa using hz5)]; exact r0
  have t1 : w5.cell? ⟨w.heap.size, 1, none⟩ = some (.int .u64 lo) := by rw [hB5.cell (by simpa using hz5)]; exact r1
  have v0 : w5.cell? ⟨b3, 0, none⟩ = some (.int .i64 hi) := by rw [hB5.cell (by simpa using hz4)]; exact s0
  have v1 : w5.cell? ⟨b3, 1, none⟩ = some (.int .u64 lo) := by rw [hB5.cell (by simpa using hz4)]; exact s1
  clear r0 r1 s0 s1 hz4 hz5 hB5 hBd
  simp only [Option.getD_some, Option.isSome_some]
  have hT : (⟨([116, 105, 99, 107, 32] ++ Lib.decDigits (max n 0).toNat).toArray⟩ : ByteArray) = tickB (max n 0) := rfl
  rw [hT]
  clear hT
  go_wp2_with fail
  refine (wide_s 0 (max n 0) (by omega) (by omega) M0 (by omega) _).mono ?_
  rintro e w6 ⟨rfl, hB6⟩
  have hBf : Below w.heap.size w w6 := hBe.trans (hB6.mono hBe.size)
  have HX := Lib.hid (wS_zero (max n 0) M0)
  clear hBe hB6 t0 t1 v0 v1
  have hxs : (wS 0 (max n 0)).size ≤ 100 := by
    rw [HX.out]
    have := dec_len 39 (max n 0).toNat (big_lt _ (by omega))
    simp only [ByteArray.size, List.size_toArray]
    omega
  generalize wS 0 (max n 0) = x at HX hxs ⊢
  have heq : ((tickB (max n 0)).toList == (({ data := #[116, 105, 99, 107, 32] } : ByteArray) ++ x).toList) = true := by
    rw [HX.out, ByteArray.toList_eq, ByteArray.toList_eq]
    simp [tickB]
  go_wp2_with fail
  go_ret
  exact ⟨rfl, hBf⟩
end Go.Proofs.YtogmajeaaabjlaaGreatDoor
