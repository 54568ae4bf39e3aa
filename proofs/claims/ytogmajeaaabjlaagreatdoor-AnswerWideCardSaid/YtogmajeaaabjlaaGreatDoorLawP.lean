/- The digits of a wide number are that number's: the plain part, and the contract of digits at what answer.Wide tells. -/
import Derived.Test.YtogmajeaaabjlaaGreatDoorSum
namespace Go.Proofs.YtogmajeaaabjlaaGreatDoor
open Go.RowKit

theorem dec_len : ∀ (k N : Nat), N < 10 ^ (k + 1) → (Lib.decDigits N).length ≤ k + 1
  | 0, N, h => by
    rw [Lib.decDigits, dif_pos (by simpa using h)]; simp
  | k + 1, N, h => by
    rw [Lib.decDigits]
    split
    · simp
    · have := dec_len k (N / 10) (by rw [Nat.pow_succ] at h; omega)
      simp; omega
theorem big_lt (N : Nat) (h : N ≤ 170141183460469231731687303715884105728) : N < 10 ^ (39 + 1) :=
  Nat.lt_of_le_of_lt h (by decide)

/-- The size of the number. -/
def wN (hi lo : Int) : Nat := (hi * 18446744073709551616 + lo).natAbs
theorem wN_le (hi lo : Int) (h0 : -9223372036854775808 ≤ hi) (h1 : hi < 9223372036854775808) (l0 : 0 ≤ lo) (l1 : lo < 18446744073709551616) : wN hi lo ≤ 170141183460469231731687303715884105728 := by
  unfold wN; omega
def wT (hi lo : Int) : ByteArray := ⟨(Lib.decDigits (wN hi lo)).toArray⟩
def wS (hi lo : Int) : ByteArray := ⟨(wideS hi lo).toArray⟩
theorem wT_size (hi lo : Int) : (wT hi lo).size = (Lib.decDigits (wN hi lo)).length := by simp [wT, ByteArray.size]
theorem wT_list (hi lo : Int) : (wT hi lo).data.toList = Lib.decDigits (wN hi lo) := by simp [wT]
theorem wS_neg (hi lo : Int) (h : hi < 0) : wS hi lo = ⟨(45 :: Lib.decDigits (wN hi lo)).toArray⟩ := by unfold wS wideS; rw [if_pos h]; rfl
theorem wS_pos (hi lo : Int) (h : ¬ hi < 0) : wS hi lo = wT hi lo := by unfold wS wideS; rw [if_neg h]; rfl
theorem no_dash (n : Nat) : Lib.hasPrefix (Lib.decDigits n) [45] = false := by
  unfold Lib.hasPrefix
  cases h : Lib.decDigits n with
  | nil => rfl
  | cons x xs =>
    have hx := dec_digit n x (by rw [h]; simp)
    have : (45 == x) = false := by
      rw [beq_eq_false_iff_ne]; intro e; rw [← e] at hx; exact absurd hx.1 (by decide)
    simp [List.isPrefixOf, this]
theorem wT_trim (hi lo : Int) : (⟨(Lib.trimPrefix (wS hi lo).data.toList [45]).toArray⟩ : ByteArray) = wT hi lo := by
  by_cases h : hi < 0
  · rw [wS_neg hi lo h]
    simp [Lib.trimPrefix, Lib.hasPrefix, List.isPrefixOf, wT]
  · rw [wS_pos hi lo h, wT_list]
    unfold Lib.trimPrefix
    rw [no_dash]
    rfl
theorem wT_at (hi lo : Int) (j : Nat) (h : j < (wT hi lo).size) : 48 ≤ (wT hi lo)[j].toNat ∧ (wT hi lo)[j].toNat ≤ 57 := by
  refine dec_digit (wN hi lo) _ ?_
  have h2 : j < (Lib.decDigits (wN hi lo)).length := by rw [← wT_size]; exact h
  exact (show (Lib.decDigits (wN hi lo))[j] ∈ Lib.decDigits (wN hi lo) from List.getElem_mem h2)
theorem wT_pos (hi lo : Int) : 0 < (wT hi lo).size := by
  rw [wT_size]; exact List.length_pos_iff.2 (dec_ne _)
theorem wT_head (hi lo : Int) (h : 0 < wN hi lo) : ((wT hi lo)[0]'(wT_pos hi lo)).toNat ≠ 48 := by
  intro e
  cases hd : Lib.decDigits (wN hi lo) with
  | nil => exact dec_ne _ hd
  | cons x xs =>
    have e2 : (wT hi lo)[0]'(wT_pos hi lo) = x := by simp [wT, hd]; rfl
    have := dec_head (wN hi lo) h x xs hd
    rw [e2] at e
    exact this (UInt8.toNat_inj.1 e)
theorem wS_ne (hi lo : Int) (h : hi < 0) : wS hi lo ≠ wT hi lo := by
  rw [wS_neg hi lo h]
  intro e
  have := congrArg ByteArray.size e
  rw [wT_size] at this
  simp [ByteArray.size] at this
theorem digR_is (hi lo : Int) (h0 : -9223372036854775808 ≤ hi) (h1 : hi < 9223372036854775808) (l0 : 0 ≤ lo) (l1 : lo < 18446744073709551616) : digR (wS hi lo) (wT hi lo) = wn hi lo := by
  have hN := wN_le hi lo h0 h1 l0 l1
  have hd : dv 0 (wT hi lo).data.toList = wN hi lo := by rw [wT_list]; exact dv_dec _ (by omega)
  unfold digR
  by_cases h : hi < 0
  · rw [if_neg (wS_ne hi lo h), hd]
    exact ng_wn hi lo (by omega) h0 l0
  · rw [if_pos (wS_pos hi lo h), hd]
    exact (wn_pos hi lo (by omega) h1 l0 l1).symm

/-- What digits tells of the digits of a wide number: that number. -/
theorem digits_wide (hi lo : Int) (h0 : -9223372036854775808 ≤ hi) (h1 : hi < 9223372036854775808) (l0 : 0 ≤ lo) (l1 : lo < 18446744073709551616) (w : World) :
    Calls Tryz.prog 5 #[.string (wS hi lo)] w fun e w' => e = .returned (.tuple #[.agg #[.int .i64 hi, .int .u64 lo], .bool true]) ∧ Below w.heap.size w w' := by
  have hN := wN_le hi lo h0 h1 l0 l1
  have hWV := WV_wn hi lo h0 h1 l0 l1
  have hlen : (wT hi lo).size ≤ 4294967296 := by
    rw [wT_size]
    have := dec_len 39 (wN hi lo) (big_lt _ hN)
    omega
  have hd : dv 0 (wT hi lo).data.toList = wN hi lo := by rw [wT_list]; exact dv_dec _ (by omega)
  have hc : (wS hi lo = wT hi lo ∧ 0 < (wT hi lo).size ∧ ((wT hi lo)[0]'(wT_pos hi lo)).toNat ≠ 48) ∨ (wS hi lo ≠ wT hi lo ∧ dv 0 (wT hi lo).data.toList ≤ 170141183460469231731687303715884105728 ∧ ((wT hi lo)[0]'(wT_pos hi lo)).toNat ≠ 48) ∨ (wS hi lo = wT hi lo ∧ wT hi lo = ⟨#[48]⟩) := by
    by_cases h : hi < 0
    · exact .inr (.inl ⟨wS_ne hi lo h, by rw [hd]; exact hN, wT_head hi lo (by unfold wN; omega)⟩)
    · by_cases hz : wN hi lo = 0
      · exact .inr (.inr ⟨wS_pos hi lo h, by unfold wT; rw [hz, dec_zero]⟩)
      · exact .inl ⟨wS_pos hi lo h, wT_pos hi lo, wT_head hi lo (by omega)⟩
  have h := digits_dec (wS hi lo) (wT hi lo) w (wT_trim hi lo) (wT_at hi lo) hlen (wT_pos hi lo) hc
  rw [digR_is hi lo h0 h1 l0 l1] at h
  have e : (Value.agg #[.int .i64 (wh (wn hi lo)), .int .u64 (wl (wn hi lo))]) = .agg #[.int .i64 hi, .int .u64 lo] := hWV
  rw [e] at h
  exact h
end Go.Proofs.YtogmajeaaabjlaaGreatDoor
