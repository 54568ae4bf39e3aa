/- The plain law of strconv.ParseUint at a written base: the digits, one behind the other, in a bound; no program in sight. -/
import Derived.IntWalk
import Derived.Laws.BitsLemmas
namespace Go.Proofs.YtogmajeaaabjlaaGreatDoor

/-- A byte with the bit 32 set. -/
def low (c : UInt8) : Nat := (c ||| 32).toNat
/-- A digit's number; 255: it is none. -/
def dval (c : UInt8) : Nat := if 48 ≤ c.toNat ∧ c.toNat ≤ 57 then c.toNat - 48 else if 97 ≤ low c ∧ low c ≤ 122 then low c - 87 else 255

inductive PU where
  | val (n : Nat)
  | syn
  | rng

/-- The digits l behind the number n. -/
def pu (base maxV : Nat) : Nat → List UInt8 → PU
  | n, [] => .val n
  | n, c :: l => if dval c ≥ base then .syn else if n * base + dval c > maxV then .rng else pu base maxV (n * base + dval c) l

theorem low_fin : ∀ c : Fin 256, bits .or .u8 (c.val : Int) 32 = ((UInt8.ofNat c.val ||| 32).toNat : Int) := by decide +kernel
theorem low_eq (c : UInt8) : bits .or .u8 (c.toNat : Int) 32 = (low c : Int) := by
  have h := low_fin ⟨c.toNat, c.toNat_lt⟩
  simpa [low] using h
theorem low_lt (c : UInt8) : low c < 256 := (c ||| 32).toNat_lt
end Go.Proofs.YtogmajeaaabjlaaGreatDoor
