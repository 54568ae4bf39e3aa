/- Plain: wide numbers as numbers below 2^128, decimal digits added up, no program in sight. -/
import Derived.IntWalk
import Derived.Laws.BitsLemmas
import Derived.Laws.Bits64
import Derived.Lib.ItoaNum
import Derived.Lib.ItoaMem
import Derived.Lib.Strings
import Derived.Lib.Zigzag
import Derived.Laws.BitsAllLaws
import Derived.Laws.DeepNot64
namespace Go.Proofs.YtogmajeaaabjlaaGreatDoor

/-- The low and the high word of a number. -/
def wl (v : Nat) : Int := ((v % 18446744073709551616 : Nat) : Int)
def wh (v : Nat) : Int := IntKind.i64.wrap ((v / 18446744073709551616 : Nat) : Int)
def WV (v : Nat) : Value := .agg #[.int .i64 (wh v), .int .u64 (wl v)]
def sumL (al bl : Int) : Int := IntKind.u64.wrap (al + bl)
def sumH (ah al bh bl : Int) : Int := if sumL al bl < al then IntKind.i64.wrap (IntKind.i64.wrap (ah + bh) + 1) else IntKind.i64.wrap (ah + bh)
def m128 (n : Nat) : Nat := n % 340282366920938463463374607431768211456

theorem m128_lt (n : Nat) : m128 n < 340282366920938463463374607431768211456 := Nat.mod_lt _ (by omega)
theorem m128_low (n : Nat) : m128 n % 18446744073709551616 = n % 18446744073709551616 :=
  Nat.mod_mod_of_dvd n (⟨18446744073709551616, rfl⟩ : (18446744073709551616 : Nat) ∣ 340282366920938463463374607431768211456)
theorem m128_high (n : Nat) : m128 n / 18446744073709551616 = n / 18446744073709551616 % 18446744073709551616 :=
  Nat.mod_mul_right_div_self n 18446744073709551616 18446744073709551616
theorem wrap_add (x y : Int) : IntKind.i64.wrap (IntKind.i64.wrap x + IntKind.i64.wrap y) = IntKind.i64.wrap (x + y) := by
  simp only [IntKind.wrap_i64]; omega
theorem wrap_succ (x : Int) : IntKind.i64.wrap (IntKind.i64.wrap x + 1) = IntKind.i64.wrap (x + 1) := by
  simp only [IntKind.wrap_i64]; omega
theorem wrap_mod (n : Nat) : IntKind.i64.wrap ((n % 18446744073709551616 : Nat) : Int) = IntKind.i64.wrap (n : Int) := by
  simp only [IntKind.wrap_i64]; omega
theorem low_sum (a b : Nat) : sumL (wl a) (wl b) = (((a % 18446744073709551616 + b % 18446744073709551616) % 18446744073709551616 : Nat) : Int) := by
  unfold sumL wl; rw [IntKind.wrap_u64]; omega
theorem sum_low (a b : Nat) : sumL (wl a) (wl b) = wl (m128 (a + b)) := by
  rw [low_sum]; unfold wl; rw [m128_low]; exact congrArg (fun n : Nat => (n : Int)) (Nat.add_mod a b _).symm
theorem carry_yes (a b : Nat) (h : (a % 18446744073709551616 + b % 18446744073709551616) % 18446744073709551616 < a % 18446744073709551616) : (a + b) / 18446744073709551616 = a / 18446744073709551616 + b / 18446744073709551616 + 1 := by omega
theorem carry_no (a b : Nat) (h : ¬ (a % 18446744073709551616 + b % 18446744073709551616) % 18446744073709551616 < a % 18446744073709551616) : (a + b) / 18446744073709551616 = a / 18446744073709551616 + b / 18446744073709551616 := by omega
theorem sum_high (a b : Nat) : sumH (wh a) (wl a) (wh b) (wl b) = wh (m128 (a + b)) := by
  have e : wh (m128 (a + b)) = IntKind.i64.wrap (((a + b) / 18446744073709551616 : Nat) : Int) := by unfold wh; rw [m128_high, wrap_mod]
  rw [e]
  unfold sumH
  rw [low_sum]
  by_cases h : (a % 18446744073709551616 + b % 18446744073709551616) % 18446744073709551616 < a % 18446744073709551616
  · rw [if_pos (by unfold wl; exact Int.ofNat_lt.2 h), carry_yes a b h]
    unfold wh
    rw [wrap_add, wrap_succ]
    rfl
  · rw [if_neg (by unfold wl; exact fun h2 => h (Int.ofNat_lt.1 h2)), carry_no a b h]
    unfold wh
    rw [wrap_add]
    rfl
theorem sum_WV (a b : Nat) :
    (Value.agg #[.int .i64 (sumH (wh a) (wl a) (wh b) (wl b)), .int .u64 (sumL (wl a) (wl b))]) = WV (m128 (a + b)) := by
  rw [sum_low, sum_high a b]; rfl

theorem WV_small (d : Nat) (h : d < 18446744073709551616) : (Value.agg #[.int .i64 0, .int .u64 (d : Int)]) = WV d := by
  unfold WV wh wl
  rw [Nat.div_eq_of_lt h, Nat.mod_eq_of_lt h]
  rfl

/-- The number of two words. -/
def wn (hi lo : Int) : Nat := ((hi * 18446744073709551616 + lo) % 340282366920938463463374607431768211456).toNat
theorem wn_lt (hi lo : Int) : wn hi lo < 340282366920938463463374607431768211456 := by unfold wn; omega
theorem WV_wn (hi lo : Int) (h0 : -9223372036854775808 ≤ hi) (h1 : hi < 9223372036854775808) (l0 : 0 ≤ lo) (l1 : lo < 18446744073709551616) : WV (wn hi lo) = .agg #[.int .i64 hi, .int .u64 lo] := by
  have e1 : wh (wn hi lo) = hi := by unfold wh wn; rw [IntKind.wrap_i64]; omega
  have e2 : wl (wn hi lo) = lo := by unfold wl wn; omega
  unfold WV; rw [e1, e2]

/-- Digits added up. -/
def dv : Nat → List UInt8 → Nat
  | a, [] => a
  | a, c :: cs => dv (m128 (10 * a + (c.toNat - 48))) cs
theorem dv_snoc (l : List UInt8) (c : UInt8) : ∀ a, dv a (l ++ [c]) = m128 (10 * dv a l + (c.toNat - 48)) := by
  induction l with
  | nil => intro a; rfl
  | cons x xs ih => intro a; exact ih _
theorem dv_take (l : List UInt8) (k : Nat) (h : k < l.length) : dv 0 (l.take (k + 1)) = m128 (10 * dv 0 (l.take k) + (l[k].toNat - 48)) := by
  rw [List.take_succ_eq_append_getElem h, dv_snoc]
theorem dv_lt (l : List UInt8) : ∀ a, a < 340282366920938463463374607431768211456 → dv a l < 340282366920938463463374607431768211456 := by
  induction l with
  | nil => intro a h; exact h
  | cons x xs ih => intro a _; exact ih _ (m128_lt _)
theorem ten_times (v d : Nat) : m128 (m128 (m128 (m128 (m128 (v + v) + m128 (v + v)) + v) + m128 (m128 (m128 (v + v) + m128 (v + v)) + v)) + d) = m128 (10 * v + d) := by
  unfold m128; omega
theorem digit_byte (d : Nat) (h : d < 10) : (UInt8.ofNat (48 + d)).toNat = 48 + d := by simp; omega
theorem dv_dec (n : Nat) : n < 340282366920938463463374607431768211456 → dv 0 (Lib.decDigits n) = n := by
  induction n using Nat.strongRecOn with
  | ind n ih =>
    intro h
    rw [Lib.decDigits]
    split
    · rename_i h10
      show m128 (10 * 0 + ((UInt8.ofNat (48 + n)).toNat - 48)) = n
      rw [digit_byte n h10]; unfold m128; omega
    · rename_i h10
      rw [dv_snoc, ih (n / 10) (by omega) (by omega), digit_byte (n % 10) (by omega)]
      unfold m128; omega
theorem dec_digit (n : Nat) : ∀ c ∈ Lib.decDigits n, 48 ≤ c.toNat ∧ c.toNat ≤ 57 := by
  induction n using Nat.strongRecOn with
  | ind n ih =>
    intro c hc
    rw [Lib.decDigits] at hc
    split at hc
    · rename_i h10
      simp only [List.mem_singleton] at hc
      subst hc; rw [digit_byte n h10]; omega
    · rename_i h10
      rcases List.mem_append.1 hc with h | h
      · exact ih (n / 10) (by omega) c h
      · simp only [List.mem_singleton] at h
        subst h; rw [digit_byte (n % 10) (by omega)]; omega
theorem dec_ne (n : Nat) : Lib.decDigits n ≠ [] := by
  rw [Lib.decDigits]; split <;> simp
theorem dec_head (n : Nat) (h : 0 < n) : ∀ x xs, Lib.decDigits n = x :: xs → x ≠ 48 := by
  induction n using Nat.strongRecOn with
  | ind n ih =>
    intro x xs e
    rw [Lib.decDigits] at e
    split at e
    · rename_i h10
      simp only [List.cons.injEq] at e
      obtain ⟨rfl, _⟩ := e
      intro e2
      have := congrArg UInt8.toNat e2
      rw [digit_byte n h10] at this
      simp at this; omega
    · rename_i h10
      cases hd : Lib.decDigits (n / 10) with
      | nil => exact absurd hd (dec_ne _)
      | cons y ys =>
        rw [hd] at e
        simp only [List.cons_append, List.cons.injEq] at e
        obtain ⟨rfl, _⟩ := e
        exact ih (n / 10) (by omega) (by omega) _ _ hd
theorem dec_zero : Lib.decDigits 0 = [48] := by rw [Lib.decDigits]; rfl

/-- A number's negative. -/
def ng (v : Nat) : Nat := m128 (340282366920938463463374607431768211455 - v + 1)
theorem ng_wn (hi lo : Int) (hn : hi * 18446744073709551616 + lo < 0) (h0 : -9223372036854775808 ≤ hi) (l0 : 0 ≤ lo) : ng (hi * 18446744073709551616 + lo).natAbs = wn hi lo := by
  unfold ng wn m128; omega
theorem wn_pos (hi lo : Int) (h0 : 0 ≤ hi) (h1 : hi < 9223372036854775808) (l0 : 0 ≤ lo) (l1 : lo < 18446744073709551616) : wn hi lo = (hi * 18446744073709551616 + lo).natAbs := by
  unfold wn; omega
theorem u64_not (b : Nat) (hb : b < 18446744073709551616) : bits .xor .u64 IntKind.u64.max (b : Int) = ((18446744073709551615 - b : Nat) : Int) := by
  rw [show IntKind.u64.max = ((18446744073709551615 : Nat) : Int) from by decide, u64_xor_nat _ _ (by omega) hb]
  exact congrArg (fun n : Nat => (n : Int)) (Lib.xor_ones64 b hb)
theorem wh_low (v : Nat) (h : v < 170141183460469231731687303715884105728) : wh v = ((v / 18446744073709551616 : Nat) : Int) := by
  unfold wh; rw [IntKind.wrap_i64]; omega
theorem not_high (v : Nat) (h : v ≤ 170141183460469231731687303715884105728) : bits .xor .i64 (-1) (wh v) = wh (340282366920938463463374607431768211455 - v) := by
  by_cases h2 : v < 170141183460469231731687303715884105728
  · rw [wh_low v h2, i64_not _ (by omega)]
    unfold wh; rw [IntKind.wrap_i64]; omega
  · obtain rfl : v = 170141183460469231731687303715884105728 := by omega
    decide +kernel
theorem not_low (v : Nat) (h : v ≤ 170141183460469231731687303715884105728) : bits .xor .u64 IntKind.u64.max (wl v) = wl (340282366920938463463374607431768211455 - v) := by
  unfold wl; rw [u64_not _ (Nat.mod_lt _ (by omega))]; omega
end Go.Proofs.YtogmajeaaabjlaaGreatDoor
