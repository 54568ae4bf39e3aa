/- The contract of moidorelaw28.awake: it answers true. -/
import Derived.Test.YtogmajeaaabjlaaGreatDoorQuery
import Derived.Test.YtogmajeaaabjlaaGreatDoorAsk
import Derived.Test.YtogmajeaaabjlaaGreatDoorTold3
namespace Go.Proofs.YtogmajeaaabjlaaGreatDoor
open Go.RowKit

theorem dd5 : Lib.decDigits 5 = [53] := by rw [Lib.decDigits]; rfl
theorem it5 : Lib.itoa 5 = [53] := by unfold Lib.itoa; rw [if_neg (by omega)]; show Lib.decDigits 5 = [53]; exact dd5
theorem told_bad : toldS 0 5 4 = some [114, 101, 102, 117, 115, 101, 100, 32, 53, 32, 98, 97, 100] := by
  unfold toldS toldW
  simp only [it5]
  decide
theorem sp1 : splitSp ⟨#[116, 105, 99, 107, 32, 53]⟩ = [⟨#[116, 105, 99, 107]⟩, ⟨#[53]⟩] := by rfl
theorem sp2 : splitSp ⟨#[116, 105, 99, 107, 32, 48, 53]⟩ = [⟨#[116, 105, 99, 107]⟩, ⟨#[48, 53]⟩] := by rfl
theorem num5 : numS [53] = some 5 := by
  have hp : puS 10 9223372036854775807 [53] = .val 5 := by rfl
  unfold numS; rw [hp]; simp [dd5]
theorem num05 : numS [48, 53] = none := by
  have hp : puS 10 9223372036854775807 [48, 53] = .val 5 := by rfl
  unfold numS; rw [hp]; simp [dd5]
theorem ask5 : askS ⟨#[116, 105, 99, 107, 32, 53]⟩ = some (3, [], 5) := by
  unfold askS
  rw [sp1, if_neg (by decide)]
  unfold askW
  simp only []
  rw [if_neg (by decide), if_neg (by decide), if_pos trivial, num5]
  rfl
theorem ask05 : askS ⟨#[116, 105, 99, 107, 32, 48, 53]⟩ = none := by
  unfold askS
  rw [sp2, if_neg (by decide)]
  unfold askW
  simp only []
  rw [if_neg (by decide), if_neg (by decide), if_pos trivial, num05]
  rfl

theorem zero58 : Tryz.zeroCells58 = st0 := by kernel_rfl

set_option maxHeartbeats 1000000 in
set_option maxRecDepth 100000 in
theorem awake_any (w : World) (hL : Laid w) :
    Calls Tryz.prog 4 #[] w fun e w' => e = .returned (.bool true) ∧ Below w.heap.size w w' := by
  have h1 := ask_any ⟨#[116, 105, 99, 107, 32, 53]⟩ w hL (by decide)
  rw [ask5] at h1
  have H1 := Lib.hid h1
  clear h1
  go_enter Tryz.func4, Tryz.ntmps4
  go_wp2_with fail
  refine H1.out.mono ?_
  rintro e w1 ⟨⟨v, rfl, hown⟩, hB1⟩
  obtain ⟨a0, cc, rfl⟩ := slice_of_own hown
  clear hown
  go_wp2_with fail
  have hBa : Below w.heap.size w (w1.alloc (.cells #[.int .i64 3, .slice a0 0 cc, .int .i64 5] 34)) := hB1.alloc hB1.size _
  have k0 : (w1.alloc (.cells #[.int .i64 3, .slice a0 0 cc, .int .i64 5] 34)).cell? ⟨w1.heap.size, 0, none⟩ = some (.int .i64 3) := by simp [go_sem]
  have k2 : (w1.alloc (.cells #[.int .i64 3, .slice a0 0 cc, .int .i64 5] 34)).cell? ⟨w1.heap.size, 2, none⟩ = some (.int .i64 5) := by simp [go_sem]
  have h2 := ask_any ⟨#[116, 105, 99, 107, 32, 48, 53]⟩ _ (hL.below hBa hL.size) (by decide)
  rw [ask05] at h2
  have H2 := Lib.hid h2
  have hz1 : w1.heap.size < (w1.alloc (.cells #[.int .i64 3, .slice a0 0 cc, .int .i64 5] 34)).heap.size := by simp
  clear h2
  generalize w1.alloc (.cells #[.int .i64 3, .slice a0 0 cc, .int .i64 5] 34) = w2 at hBa k0 k2 H2 hz1 ⊢
  generalize w1.heap.size = b1 at k0 k2 hz1 ⊢
  clear hB1 w1
  refine H2.out.mono ?_
  rintro e w3 ⟨rfl, hB3⟩
  have hBb : Below w.heap.size w w3 := hBa.trans (hB3.mono hBa.size)
  have m0 : w3.cell? ⟨b1, 0, none⟩ = some (.int .i64 3) := by rw [hB3.cell (by simpa using hz1)]; exact k0
  have m2 : w3.cell? ⟨b1, 2, none⟩ = some (.int .i64 5) := by rw [hB3.cell (by simpa using hz1)]; exact k2
  have hz3 : b1 < w3.heap.size := Nat.lt_of_lt_of_le hz1 hB3.size
  clear k0 k2 hz1 H2 hB3 hBa
  go_wp2_with fail
  have hBc : Below w.heap.size w (w3.alloc (.cells #[.int .i64 0, .slice none 0 0, .int .i64 0] 34)) := hBb.alloc hBb.size _
  have h3 := told_any 0 5 4 (w3.alloc (.cells #[.int .i64 0, .slice none 0 0, .int .i64 0] 34)) (hL.below hBc hL.size)
  rw [told_bad] at h3
  have H3 := Lib.hid h3
  clear h3
  refine H3.out.mono ?_
  rintro e w4 ⟨rfl, hB4⟩
  have hBd : Below w.heap.size w w4 := hBc.trans (hB4.mono hBc.size)
  have n0 : w4.cell? ⟨b1, 0, none⟩ = some (.int .i64 3) := by rw [hB4.cell (by simp; omega)]; rw [← m0]; exact ((Below.refl _ w3).alloc (Nat.le_refl _) _).cell (by simpa using hz3)
  have n2 : w4.cell? ⟨b1, 2, none⟩ = some (.int .i64 5) := by rw [hB4.cell (by simp; omega)]; rw [← m2]; exact ((Below.refl _ w3).alloc (Nat.le_refl _) _).cell (by simpa using hz3)
  have hz4 : b1 < w4.heap.size := by have := hB4.size; simp at this; omega
  clear m0 m2 hz3 hB4 hBc hBb H3
  simp only [Option.getD_some, Option.isSome_some]
  go_wp2_with fail
  rw [zero58]
  refine (query_clock w4 (hL.below hBd hL.size)).mono ?_
  rintro e w5 ⟨rfl, hB5⟩
  have p0 : w5.cell? ⟨b1, 0, none⟩ = some (.int .i64 3) := by rw [hB5.cell (by simpa using hz4)]; exact n0
  have p2 : w5.cell? ⟨b1, 2, none⟩ = some (.int .i64 5) := by rw [hB5.cell (by simpa using hz4)]; exact n2
  have hBe : Below w.heap.size w w5 := hBd.trans (hB5.mono hBd.size)
  clear n0 n2 hz4 hB5 hBd
  go_wp2_with fail
  go_ret
  exact ⟨rfl, hBe⟩
end Go.Proofs.YtogmajeaaabjlaaGreatDoor
