/- The contract of answer.hex: the bytes of any slice as a word. -/
import Derived.Test.YtogmajeaaabjlaaGreatDoorBuilder
import Derived.Lib.Hide
namespace Go.Proofs.YtogmajeaaabjlaaGreatDoor
open Go.RowKit

/-- The value v is a slice of the bytes l, which lie below block B. -/
def BytesV (B : Nat) (w : World) (v : Value) (l : List UInt8) : Prop :=
  ∃ a cap, v = .slice a l.length cap ∧ (l = [] ∨ ∃ b off, a = some ⟨b, off, none⟩ ∧ b < B ∧ ∀ j, j < l.length → w.cell? ⟨b, off + j, none⟩ = some (.int .u8 (l.getD j 0).toNat))

/-- A hexadecimal digit. -/
def digs : List UInt8 := [48, 49, 50, 51, 52, 53, 54, 55, 56, 57, 97, 98, 99, 100, 101, 102]
def dig (n : Nat) : UInt8 := digs.getD n 0
/-- The digits of some bytes. -/
def hexD : List UInt8 → List UInt8
  | [] => []
  | c :: l => dig (c.toNat / 16) :: dig (c.toNat % 16) :: hexD l
def hexS (l : List UInt8) : List UInt8 := if l = [] then [45] else hexD l

theorem hexD_append (a b : List UInt8) : hexD (a ++ b) = hexD a ++ hexD b := by
  induction a with
  | nil => rfl
  | cons c l ih => simp [hexD, ih]
theorem hexD_length (l : List UInt8) : (hexD l).length = 2 * l.length := by
  induction l with
  | nil => rfl
  | cons c l ih => simp [hexD, ih]; omega
theorem hexD_snoc (l : List UInt8) (k : Nat) (h : k < l.length) : hexD (l.take (k + 1)) = hexD (l.take k) ++ [dig ((l.getD k 0).toNat / 16)] ++ [dig ((l.getD k 0).toNat % 16)] := by
  rw [List.take_succ_eq_append_getElem h, hexD_append]
  simp [hexD, List.getD_eq_getElem?_getD, List.getElem?_eq_getElem h]

theorem digs_get (n : Nat) (h : n < (⟨#[48, 49, 50, 51, 52, 53, 54, 55, 56, 57, 97, 98, 99, 100, 101, 102]⟩ : ByteArray).size) : (⟨#[48, 49, 50, 51, 52, 53, 54, 55, 56, 57, 97, 98, 99, 100, 101, 102]⟩ : ByteArray)[n] = dig n := by
  have h' : n < 16 := h
  have : n = 0 ∨ n = 1 ∨ n = 2 ∨ n = 3 ∨ n = 4 ∨ n = 5 ∨ n = 6 ∨ n = 7 ∨ n = 8 ∨ n = 9 ∨ n = 10 ∨ n = 11 ∨ n = 12 ∨ n = 13 ∨ n = 14 ∨ n = 15 := by omega
  rcases this with rfl | rfl | rfl | rfl | rfl | rfl | rfl | rfl | rfl | rfl | rfl | rfl | rfl | rfl | rfl | rfl <;> rfl

set_option maxHeartbeats 400000 in
theorem hex_none (a : Option Addr) (cap : Nat) (w : World) :
    Calls Tryz.prog 22 #[.slice a 0 cap] w fun e w' => e = .returned (.string ⟨#[45]⟩) ∧ w' = w := by
  go_enter Tryz.func22, Tryz.ntmps22
  go_wp2
  go_ret
  exact ⟨rfl, rfl⟩

set_option maxHeartbeats 1000000 in
theorem hex_some (l : List UInt8) (b off cap : Nat) (w : World) (hb : b < w.heap.size) (hl : 0 < l.length) (hlen : l.length ≤ 68719476736)
    (hc : ∀ j, j < l.length → w.cell? ⟨b, off + j, none⟩ = some (.int .u8 (l.getD j 0).toNat)) :
    Calls Tryz.prog 22 #[.slice (some ⟨b, off, none⟩) l.length cap] w fun e w' => e = .returned (.string ⟨(hexD l).toArray⟩) ∧ Below w.heap.size w w' := by
  have h0 : ((l.length : Int) == 0) = false := by simp; intro h; simp [h] at hl
  go_enter Tryz.func22, Tryz.ntmps22
  go_wp2
  go_loopw [5, 11] (fun _ i wr => ∃ k : Nat, k ≤ l.length ∧ i = .int .i64 k ∧ LB 73 w.heap.size w.heap.size (hexD (l.take k)) wr ∧ Below w.heap.size w wr) (fun _ i _ => l.length - (intOf i).toNat)
  case atStart =>
    refine ⟨0, Nat.zero_le _, rfl, .inl ⟨Nat.le_refl _, .slice none 0 0, ?_, ?_, by simp [Value.ownBlock]⟩, (Below.refl _ _).alloc (Nat.le_refl _) _⟩
    · show (w.heap.push _)[w.heap.size]? = _
      simp
    · exact ⟨by simp [hexD, Lib.byteCells], .inl ⟨rfl, by simp [hexD, Lib.byteCells]⟩⟩
  case round =>
    obtain ⟨k, hk, rfl, hLB, hB⟩ := hrel
    by_cases hlt : k < l.length
    · have hcell : wr.cell? ⟨b, off + k, none⟩ = some (.int .u8 (l.getD k 0).toNat) := by rw [hB.cell hb]; exact hc k hlt
      have hsn := hexD_snoc l k hlt
      have hlk : (hexD (l.take k)).length ≤ 2 * l.length := by rw [hexD_length]; have := List.length_take_le k l; omega
      generalize hx : l.getD k 0 = x at *
      have hx256 : x.toNat < 256 := x.toNat_lt
      have Hsn := Lib.hid hsn
      clear hsn hx
      go_wp2_with fail
      refine (builder_writeByte _ _ _ likeB _ _ _ hLB (by omega) hB.size).mono ?_
      rintro e w1 ⟨rfl, h1, hk1⟩
      have hB1 := hB.trans hk1.below
      go_wp2_with fail
      refine (builder_writeByte _ _ _ likeB _ _ _ h1.lb (by simp; omega) hB1.size).mono ?_
      rintro e w2 ⟨rfl, h2, hk2⟩
      have hB2 := hB1.trans hk2.below
      go_wp2_with fail
      rw [digs_get, digs_get, ← Hsn.out] at h2
      exact ⟨⟨k + 1, by omega, by go_num, h2.lb, hB2⟩, by simp [intOf]; omega⟩
    · obtain rfl : k = l.length := by omega
      rw [List.take_length] at hLB
      go_wp2_with fail
      refine (builder_string _ _ _ _ _ hLB (by intro h; have := hexD_length l; rw [h] at this; simp at this; omega)).mono ?_
      rintro e w1 ⟨rfl, hk1⟩
      go_wp2_with fail
      go_ret
      exact ⟨rfl, hB.trans hk1.below⟩

/-- answer.hex: of any slice of bytes. -/
theorem hex_any (l : List UInt8) (v : Value) (w : World) (hv : BytesV w.heap.size w v l) (hlen : l.length ≤ 68719476736) :
    Calls Tryz.prog 22 #[v] w fun e w' => e = .returned (.string ⟨(hexS l).toArray⟩) ∧ Below w.heap.size w w' := by
  obtain ⟨a, cap, rfl, h⟩ := hv
  cases l with
  | nil =>
    refine (hex_none _ _ _).mono ?_
    rintro e w' ⟨rfl, rfl⟩
    exact ⟨rfl, Below.refl _ _⟩
  | cons c l =>
    rcases h with h | ⟨b, off, rfl, hb, hc⟩
    · simp at h
    · exact hex_some _ b off cap w hb (by simp) hlen hc

end Go.Proofs.YtogmajeaaabjlaaGreatDoor
