/- strconv.ParseUint at base 10 and 63 bits, and at base 16 and 8 bits: the number, or an error that is not nil. -/
import Derived.Test.YtogmajeaaabjlaaGreatDoorPuW
import Derived.Test.YtogmajeaaabjlaaGreatDoorText
namespace Go.Proofs.YtogmajeaaabjlaaGreatDoor
open Go.RowKit

/-- What strconv.ParseUint tells: the number and no error, or an error. -/
def PuTells (maxV : Nat) (r : PU) (e : Ending) : Prop :=
  match r with
  | .val n => e = .returned (.tuple #[.int .u64 n, .nilIface])
  | .syn => ∃ p, e = .returned (.tuple #[.int .u64 0, .iface 222 p])
  | .rng => ∃ p, e = .returned (.tuple #[.int .u64 maxV, .iface 222 p])
/-- The digits of a whole text. -/
def puS (base maxV : Nat) (l : List UInt8) : PU := if l = [] then .syn else pu base maxV 0 l

set_option maxHeartbeats 1000000 in
set_option maxRecDepth 100000 in
theorem pu_empty (base bits : Int) (s : ByteArray) (w : World) (h0 : s.data.toList = []) :
    Calls Tryz.prog 78 #[.string s, .int .i64 base, .int .i64 bits] w fun e w' => e = .returned (puV 0 .syn) ∧ w = w' := by
  have he : s.toList.isEmpty = true := by
    rw [← decide_eq_emptyBytes]
    refine decide_eq_true ?_
    cases s
    simp at h0
    rw [h0]
    rfl
  go_enter Tryz.func78, Tryz.ntmps78
  go_wp2_with fail
  go_ret2
  exact ⟨rfl, rfl⟩

set_option maxHeartbeats 1000000 in
set_option maxRecDepth 100000 in
/-- the public function, over what the inner one tells -/
theorem pu_over (base bits : Int) (maxV : Nat) (r : PU) (s : ByteArray) (w : World) (hL : Laid w) (hs : s.size ≤ 4294967296)
    (hi : Calls Tryz.prog 78 #[.string s, .int .i64 base, .int .i64 bits] w fun e w' => e = .returned (puV maxV r) ∧ Below w.heap.size w w') :
    Calls Tryz.prog 51 #[.string s, .int .i64 base, .int .i64 bits] w fun e w' => PuTells maxV r e ∧ Below w.heap.size w w' := by
  have Hi := Lib.hid hi
  clear hi
  cases r with
  | val n =>
    go_enter Tryz.func51, Tryz.ntmps51
    go_wp2_with fail
    refine Hi.out.mono ?_
    rintro e w1 ⟨rfl, hB⟩
    simp only [puV]
    go_wp2_with fail
    go_ret2
    exact ⟨rfl, hB⟩
  | syn =>
    go_enter Tryz.func51, Tryz.ntmps51
    go_wp2_with fail
    refine Hi.out.mono ?_
    rintro e w1 ⟨rfl, hB⟩
    simp only [puV]
    go_wp2_with fail
    obtain ⟨ev, hv, hev⟩ := (hL.below hB hL.size).syn
    refine (Tryz.strconv_toError_syntax _ _ _ _ ev _ (by omega) hv hev).mono ?_
    rintro e w2 ⟨N, rfl, _, _, hB2⟩
    go_wp2_with fail
    go_ret2
    exact ⟨⟨_, rfl⟩, hB.trans (hB2.mono hB.size)⟩
  | rng =>
    go_enter Tryz.func51, Tryz.ntmps51
    go_wp2_with fail
    refine Hi.out.mono ?_
    rintro e w1 ⟨rfl, hB⟩
    simp only [puV]
    go_wp2_with fail
    obtain ⟨ev, hv, hev⟩ := (hL.below hB hL.size).rng
    refine (Tryz.strconv_toError_range _ _ _ _ ev _ (by omega) hv hev).mono ?_
    rintro e w2 ⟨N, rfl, _, _, hB2⟩
    go_wp2_with fail
    go_ret2
    exact ⟨⟨_, rfl⟩, hB.trans (hB2.mono hB.size)⟩

theorem pu10_any (s : ByteArray) (w : World) (hL : Laid w) (hs : s.size ≤ 4294967296) :
    Calls Tryz.prog 51 #[.string s, .int .i64 10, .int .i64 63] w fun e w' => PuTells 9223372036854775807 (puS 10 9223372036854775807 s.data.toList) e ∧ Below w.heap.size w w' := by
  unfold puS
  split
  · rename_i h
    refine pu_over 10 63 _ _ s w hL hs ((pu_empty 10 63 s w h).mono ?_)
    rintro e w' ⟨rfl, rfl⟩
    exact ⟨rfl, Below.refl _ _⟩
  · rename_i h
    exact pu_over 10 63 _ _ s w hL hs (pu10_int s w h hs)
theorem pu16_any (s : ByteArray) (w : World) (hL : Laid w) (hs : s.size ≤ 4294967296) :
    Calls Tryz.prog 51 #[.string s, .int .i64 16, .int .i64 8] w fun e w' => PuTells 255 (puS 16 255 s.data.toList) e ∧ Below w.heap.size w w' := by
  unfold puS
  split
  · rename_i h
    refine pu_over 16 8 _ _ s w hL hs ((pu_empty 16 8 s w h).mono ?_)
    rintro e w' ⟨rfl, rfl⟩
    exact ⟨rfl, Below.refl _ _⟩
  · rename_i h
    exact pu_over 16 8 _ _ s w hL hs (pu16_int s w h hs)
end Go.Proofs.YtogmajeaaabjlaaGreatDoor
