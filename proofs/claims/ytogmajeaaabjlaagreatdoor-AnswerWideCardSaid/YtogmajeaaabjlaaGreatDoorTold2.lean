/- The contract of answer.Told, where there is a line. -/
import Derived.Test.YtogmajeaaabjlaaGreatDoorTold
namespace Go.Proofs.YtogmajeaaabjlaaGreatDoor
open Go.RowKit

theorem itoa_len (n : Int) (h0 : 0 ≤ n) (h1 : n ≤ 99) : (Lib.itoa n).length ≤ 3 := by
  have h : ∀ k : Fin 100, (Lib.itoa k.val).length ≤ 3 := by decide +kernel
  have := h ⟨n.toNat, by omega⟩
  rwa [show ((n.toNat : Nat) : Int) = n by omega] at this
theorem joinW_two_le (a : List UInt8) (n : Int) (h0 : 0 ≤ n) (h1 : n ≤ 99) : (joinW [] [⟨a.toArray⟩, ⟨(Lib.itoa n).toArray⟩]).length ≤ a.length + 5 := by
  have := joinW_len [⟨a.toArray⟩, ⟨(Lib.itoa n).toArray⟩] []
  have h := itoa_len n h0 h1
  have e1 : (⟨a.toArray⟩ : ByteArray).size = a.length := by simp [ByteArray.size]
  have e2 : (⟨(Lib.itoa n).toArray⟩ : ByteArray).size = (Lib.itoa n).length := by simp [ByteArray.size]
  simp only [List.map_cons, List.map_nil, List.sum_cons, List.sum_nil, List.length_nil, e1, e2] at this
  omega
theorem joinW_ne (ss : List ByteArray) (l : List UInt8) (h : l ≠ []) : joinW l ss ≠ [] := by
  intro e
  have := joinW_mono ss l
  rw [e] at this
  simp at this
  exact h this
theorem line_below {w w1 : World} (hb : Below (w.heap.size + 1) (w.alloc (.cells #[.pointer none, .slice none 0 0] 75)) w1) : LB 75 w.heap.size w.heap.size [] w1 := by
  refine .inl ⟨Nat.le_refl _, .slice none 0 0, ?_, ?_, by simp [Value.ownBlock]⟩
  · rw [hb.block _ (by omega)]
    show (w.heap.push _)[w.heap.size]? = _
    simp
  · exact ⟨by simp [Lib.byteCells], .inl ⟨rfl, by simp [Lib.byteCells]⟩⟩

set_option maxHeartbeats 2000000 in
set_option maxRecDepth 100000 in
theorem told1_ok (b : Nat)  (w : World) (_hL : Laid w) (h0 : w.cell? ⟨b, 0, none⟩ = some (.int .i64 0)) (h1 : w.cell? ⟨b, 1, none⟩ = some (.int .i64 0)) (h2 : w.cell? ⟨b, 2, none⟩ = some (.int .i64 0)) (hb : b < w.heap.size) :
    Calls Tryz.prog 28 #[.pointer (some ⟨b, 0, none⟩)] w fun e w' => e = .returned (.string ⟨(joinW [] [⟨#[111, 107]⟩]).toArray⟩) ∧ Below w.heap.size w w' := by
  have hj : (joinW [] [⟨#[111, 107]⟩]).length ≤ 1000 := by rw [show joinW [] [⟨#[111, 107]⟩] = [111, 107] from rfl]; simp
  go_enter Tryz.func28, Tryz.ntmps28
  go_wp2_with fail
  refine (must_t _).mono ?_; rintro e w' ⟨rfl, rfl⟩
  go_wp2_with fail
  refine (must_t _).mono ?_; rintro e w' ⟨rfl, rfl⟩
  go_wp2_with fail
  refine (put_any w.heap.size _ [] [⟨#[111, 107]⟩] _ _ ((line_new w).alloc _) (strsV_one _ _ _ (by simp)) (by simp; omega) (by omega) (by simp)).mono ?_
  rintro e w2 ⟨rfl, hLB, hW⟩
  have hB : Below w.heap.size w w2 := (((Below.refl _ _).alloc (Nat.le_refl _) _).alloc (by simp) _).trans hW.below
  have g2 : w2.cell? ⟨b, 2, none⟩ = some (.int .i64 0) := by rw [hB.cell hb]; exact h2
  have hne : joinW [] [⟨#[111, 107]⟩] ≠ [] := by decide
  have Hne := Lib.hid hne
  clear hne
  go_wp2_with fail
  refine (builder_string _ _ _ _ _ hLB Hne.out).mono ?_
  rintro e w3 ⟨rfl, hW2⟩
  go_wp2_with fail
  go_ret
  exact ⟨rfl, hB.trans hW2.below⟩

set_option maxHeartbeats 2000000 in
set_option maxRecDepth 100000 in
theorem told1_ok_m (b : Nat) (m : Int) (w : World) (_hL : Laid w) (h0 : w.cell? ⟨b, 0, none⟩ = some (.int .i64 0)) (h1 : w.cell? ⟨b, 1, none⟩ = some (.int .i64 0)) (h2 : w.cell? ⟨b, 2, none⟩ = some (.int .i64 m)) (hb : b < w.heap.size) (m1 : 1 ≤ m) (m4 : m ≤ 4) :
    Calls Tryz.prog 28 #[.pointer (some ⟨b, 0, none⟩)] w fun e w' => e = .returned (.string ⟨(joinW [] [⟨#[111, 107]⟩, ⟨(mk m).toArray⟩]).toArray⟩) ∧ Below w.heap.size w w' := by
  have hj : (joinW [] [⟨#[111, 107]⟩]).length ≤ 1000 := by rw [show joinW [] [⟨#[111, 107]⟩] = [111, 107] from rfl]; simp
  have m0' : (m != 0) = true := by simp; omega
  go_enter Tryz.func28, Tryz.ntmps28
  go_wp2_with fail
  refine (must_t _).mono ?_; rintro e w' ⟨rfl, rfl⟩
  go_wp2_with fail
  refine (must_t _).mono ?_; rintro e w' ⟨rfl, rfl⟩
  go_wp2_with fail
  refine (put_any w.heap.size _ [] [⟨#[111, 107]⟩] _ _ ((line_new w).alloc _) (strsV_one _ _ _ (by simp)) (by simp; omega) (by omega) (by simp)).mono ?_
  rintro e w2 ⟨rfl, hLB, hW⟩
  have hB : Below w.heap.size w w2 := (((Below.refl _ _).alloc (Nat.le_refl _) _).alloc (by simp) _).trans hW.below
  have g2 : w2.cell? ⟨b, 2, none⟩ = some (.int .i64 m) := by rw [hB.cell hb]; exact h2
  have hi0 : (0 : Int) ≤ m := by omega
  have hi1 : m < (5 : Int) := by omega
  have hmk := mk_at m m1 m4
  have hb1 : b < w2.heap.size := Nat.lt_of_lt_of_le hb hB.size
  have hms := mk_size m
  have hB1 := hB.size
  have hjm := joinW_len [⟨(mk m).toArray⟩] (joinW [] [⟨#[111, 107]⟩])
  simp only [List.map_cons, List.map_nil, List.sum_cons, List.sum_nil] at hjm
  have hput := put_any w.heap.size w.heap.size (joinW [] [⟨#[111, 107]⟩]) [⟨(mk m).toArray⟩] _ _ ((hLB.alloc (.cells marksC 9)).alloc (.cells #[.string ⟨(mk m).toArray⟩] 9)).drew (strsV_one (w2.alloc (.cells marksC 9)) ⟨(mk m).toArray⟩ (w2.heap.size + 1) (by simp)).drew (by simp; omega) (by omega) (by simp)
  have Hput := Lib.hid hput
  have hne : joinW (joinW [] [⟨#[111, 107]⟩]) [⟨(mk m).toArray⟩] ≠ [] := joinW_ne _ _ (by decide)
  have Hne := Lib.hid hne
  have hcat : joinW [] [⟨#[111, 107]⟩, ⟨(mk m).toArray⟩] = joinW (joinW [] [⟨#[111, 107]⟩]) [⟨(mk m).toArray⟩] := rfl
  have Hcat := Lib.hid hcat
  clear hput hms hjm hne hcat hj
  go_wp2_with fail
  go_region_with (first | (go_at_call 30; refine (marks_any _).mono ?_; rintro e w3 ⟨rfl, rfl⟩) | (go_at_call 29; refine Hput.out.mono ?_; rintro e w3 ⟨rfl, h3, hk3⟩))
  all_goals
    go_wp2_with fail
    refine (builder_string _ _ _ _ _ h3 Hne.out).mono ?_
    rintro e w4 ⟨rfl, hW2⟩
    go_wp2_with fail
    go_ret
    exact ⟨by rw [Hcat.out]; rfl, (((hB.alloc hB1 _).alloc (by simp; omega) _).drew.trans hk3.below).trans hW2.below⟩

set_option maxHeartbeats 2000000 in
set_option maxRecDepth 100000 in
theorem told1_re (b : Nat) (r : Int) (w : World) (hL : Laid w) (h0 : w.cell? ⟨b, 0, none⟩ = some (.int .i64 0)) (h1 : w.cell? ⟨b, 1, none⟩ = some (.int .i64 r)) (h2 : w.cell? ⟨b, 2, none⟩ = some (.int .i64 0)) (hb : b < w.heap.size) (r1 : 1 ≤ r) (r9 : r ≤ 99) :
    Calls Tryz.prog 28 #[.pointer (some ⟨b, 0, none⟩)] w fun e w' => e = .returned (.string ⟨(joinW [] [⟨#[114, 101, 102, 117, 115, 101, 100]⟩, ⟨(Lib.itoa r).toArray⟩]).toArray⟩) ∧ Below w.heap.size w w' := by
  have hj : (joinW [] [⟨#[114, 101, 102, 117, 115, 101, 100]⟩, ⟨(Lib.itoa r).toArray⟩]).length ≤ 1000 := by have := joinW_two_le [114, 101, 102, 117, 115, 101, 100] r (by omega) (by omega); simp only [List.length_cons, List.length_nil] at this; exact Nat.le_trans this (by omega)
  have r0 : (r == 0) = false := by simp; omega
  have r0' : (r != 0) = true := by simp; omega
  go_enter Tryz.func28, Tryz.ntmps28
  go_wp2_with fail
  refine (must_t _).mono ?_; rintro e w' ⟨rfl, rfl⟩
  go_wp2_with fail
  refine (must_t _).mono ?_; rintro e w' ⟨rfl, rfl⟩
  go_wp2_with fail
  refine (text_any r (by omega) (by omega) _ (hL.below ((Below.refl _ _).alloc (Nat.le_refl _) _) hL.size)).mono ?_
  rintro e w1 ⟨rfl, hBt⟩
  have hBt' : Below w.heap.size w w1 := ((Below.refl _ _).alloc (Nat.le_refl _) _).trans (hBt.mono (by simp))
  have hl1 := line_below (hBt.mono (by simp))
  have hs1 : w.heap.size + 1 ≤ w1.heap.size := by have := hBt.size; simp at this; omega
  go_wp2_with fail
  refine (put_any w.heap.size _ [] [⟨#[114, 101, 102, 117, 115, 101, 100]⟩, ⟨(Lib.itoa r).toArray⟩] _ _ (hl1.alloc _) (strsV_two _ _ _ _ (by simp)) (by simp; omega) (by omega) (by simp)).mono ?_
  rintro e w2 ⟨rfl, hLB, hW⟩
  have hB : Below w.heap.size w w2 := (hBt'.alloc (by omega) _).trans hW.below
  have g2 : w2.cell? ⟨b, 2, none⟩ = some (.int .i64 0) := by rw [hB.cell hb]; exact h2
  have hne : joinW [] [⟨#[114, 101, 102, 117, 115, 101, 100]⟩, ⟨(Lib.itoa r).toArray⟩] ≠ [] := joinW_ne [⟨(Lib.itoa r).toArray⟩] _ (by simp)
  have Hne := Lib.hid hne
  clear hne
  go_wp2_with fail
  refine (builder_string _ _ _ _ _ hLB Hne.out).mono ?_
  rintro e w3 ⟨rfl, hW2⟩
  go_wp2_with fail
  go_ret
  exact ⟨rfl, hB.trans hW2.below⟩

set_option maxHeartbeats 2000000 in
set_option maxRecDepth 100000 in
theorem told1_re_m (b : Nat) (r m : Int) (w : World) (hL : Laid w) (h0 : w.cell? ⟨b, 0, none⟩ = some (.int .i64 0)) (h1 : w.cell? ⟨b, 1, none⟩ = some (.int .i64 r)) (h2 : w.cell? ⟨b, 2, none⟩ = some (.int .i64 m)) (hb : b < w.heap.size) (m1 : 1 ≤ m) (m4 : m ≤ 4) (r1 : 1 ≤ r) (r9 : r ≤ 99) :
    Calls Tryz.prog 28 #[.pointer (some ⟨b, 0, none⟩)] w fun e w' => e = .returned (.string ⟨(joinW [] [⟨#[114, 101, 102, 117, 115, 101, 100]⟩, ⟨(Lib.itoa r).toArray⟩, ⟨(mk m).toArray⟩]).toArray⟩) ∧ Below w.heap.size w w' := by
  have hj : (joinW [] [⟨#[114, 101, 102, 117, 115, 101, 100]⟩, ⟨(Lib.itoa r).toArray⟩]).length ≤ 1000 := by have := joinW_two_le [114, 101, 102, 117, 115, 101, 100] r (by omega) (by omega); simp only [List.length_cons, List.length_nil] at this; exact Nat.le_trans this (by omega)
  have r0 : (r == 0) = false := by simp; omega
  have r0' : (r != 0) = true := by simp; omega
  have m0' : (m != 0) = true := by simp; omega
  go_enter Tryz.func28, Tryz.ntmps28
  go_wp2_with fail
  refine (must_t _).mono ?_; rintro e w' ⟨rfl, rfl⟩
  go_wp2_with fail
  refine (must_t _).mono ?_; rintro e w' ⟨rfl, rfl⟩
  go_wp2_with fail
  refine (text_any r (by omega) (by omega) _ (hL.below ((Below.refl _ _).alloc (Nat.le_refl _) _) hL.size)).mono ?_
  rintro e w1 ⟨rfl, hBt⟩
  have hBt' : Below w.heap.size w w1 := ((Below.refl _ _).alloc (Nat.le_refl _) _).trans (hBt.mono (by simp))
  have hl1 := line_below (hBt.mono (by simp))
  have hs1 : w.heap.size + 1 ≤ w1.heap.size := by have := hBt.size; simp at this; omega
  go_wp2_with fail
  refine (put_any w.heap.size _ [] [⟨#[114, 101, 102, 117, 115, 101, 100]⟩, ⟨(Lib.itoa r).toArray⟩] _ _ (hl1.alloc _) (strsV_two _ _ _ _ (by simp)) (by simp; omega) (by omega) (by simp)).mono ?_
  rintro e w2 ⟨rfl, hLB, hW⟩
  have hB : Below w.heap.size w w2 := (hBt'.alloc (by omega) _).trans hW.below
  have g2 : w2.cell? ⟨b, 2, none⟩ = some (.int .i64 m) := by rw [hB.cell hb]; exact h2
  have hi0 : (0 : Int) ≤ m := by omega
  have hi1 : m < (5 : Int) := by omega
  have hmk := mk_at m m1 m4
  have hb1 : b < w2.heap.size := Nat.lt_of_lt_of_le hb hB.size
  have hms := mk_size m
  have hB1 := hB.size
  have hjm := joinW_len [⟨(mk m).toArray⟩] (joinW [] [⟨#[114, 101, 102, 117, 115, 101, 100]⟩, ⟨(Lib.itoa r).toArray⟩])
  simp only [List.map_cons, List.map_nil, List.sum_cons, List.sum_nil] at hjm
  have hput := put_any w.heap.size w.heap.size (joinW [] [⟨#[114, 101, 102, 117, 115, 101, 100]⟩, ⟨(Lib.itoa r).toArray⟩]) [⟨(mk m).toArray⟩] _ _ ((hLB.alloc (.cells marksC 9)).alloc (.cells #[.string ⟨(mk m).toArray⟩] 9)).drew (strsV_one (w2.alloc (.cells marksC 9)) ⟨(mk m).toArray⟩ (w2.heap.size + 1) (by simp)).drew (by simp; omega) (by omega) (by simp)
  have Hput := Lib.hid hput
  have hne : joinW (joinW [] [⟨#[114, 101, 102, 117, 115, 101, 100]⟩, ⟨(Lib.itoa r).toArray⟩]) [⟨(mk m).toArray⟩] ≠ [] := joinW_ne _ _ (joinW_ne [⟨(Lib.itoa r).toArray⟩] _ (by simp))
  have Hne := Lib.hid hne
  have hcat : joinW [] [⟨#[114, 101, 102, 117, 115, 101, 100]⟩, ⟨(Lib.itoa r).toArray⟩, ⟨(mk m).toArray⟩] = joinW (joinW [] [⟨#[114, 101, 102, 117, 115, 101, 100]⟩, ⟨(Lib.itoa r).toArray⟩]) [⟨(mk m).toArray⟩] := rfl
  have Hcat := Lib.hid hcat
  clear hput hms hjm hne hcat hj
  go_wp2_with fail
  go_region_with (first | (go_at_call 30; refine (marks_any _).mono ?_; rintro e w3 ⟨rfl, rfl⟩) | (go_at_call 29; refine Hput.out.mono ?_; rintro e w3 ⟨rfl, h3, hk3⟩))
  all_goals
    go_wp2_with fail
    refine (builder_string _ _ _ _ _ h3 Hne.out).mono ?_
    rintro e w4 ⟨rfl, hW2⟩
    go_wp2_with fail
    go_ret
    exact ⟨by rw [Hcat.out]; rfl, (((hB.alloc hB1 _).alloc (by simp; omega) _).drew.trans hk3.below).trans hW2.below⟩

set_option maxHeartbeats 2000000 in
set_option maxRecDepth 100000 in
theorem told1_er (b : Nat) (q : Int) (w : World) (hL : Laid w) (h0 : w.cell? ⟨b, 0, none⟩ = some (.int .i64 q)) (h1 : w.cell? ⟨b, 1, none⟩ = some (.int .i64 0)) (h2 : w.cell? ⟨b, 2, none⟩ = some (.int .i64 0)) (hb : b < w.heap.size) (r1 : 1 ≤ q) (r9 : q ≤ 99) :
    Calls Tryz.prog 28 #[.pointer (some ⟨b, 0, none⟩)] w fun e w' => e = .returned (.string ⟨(joinW [] [⟨#[101, 114, 114, 111, 114]⟩, ⟨(Lib.itoa q).toArray⟩]).toArray⟩) ∧ Below w.heap.size w w' := by
  have hj : (joinW [] [⟨#[101, 114, 114, 111, 114]⟩, ⟨(Lib.itoa q).toArray⟩]).length ≤ 1000 := by have := joinW_two_le [101, 114, 114, 111, 114] q (by omega) (by omega); simp only [List.length_cons, List.length_nil] at this; exact Nat.le_trans this (by omega)
  have r0 : (q == 0) = false := by simp; omega
  have r0' : (q != 0) = true := by simp; omega
  go_enter Tryz.func28, Tryz.ntmps28
  go_wp2_with fail
  refine (must_t _).mono ?_; rintro e w' ⟨rfl, rfl⟩
  go_wp2_with fail
  refine (must_t _).mono ?_; rintro e w' ⟨rfl, rfl⟩
  go_wp2_with fail
  refine (text_any q (by omega) (by omega) _ (hL.below ((Below.refl _ _).alloc (Nat.le_refl _) _) hL.size)).mono ?_
  rintro e w1 ⟨rfl, hBt⟩
  have hBt' : Below w.heap.size w w1 := ((Below.refl _ _).alloc (Nat.le_refl _) _).trans (hBt.mono (by simp))
  have hl1 := line_below (hBt.mono (by simp))
  have hs1 : w.heap.size + 1 ≤ w1.heap.size := by have := hBt.size; simp at this; omega
  go_wp2_with fail
  refine (put_any w.heap.size _ [] [⟨#[101, 114, 114, 111, 114]⟩, ⟨(Lib.itoa q).toArray⟩] _ _ (hl1.alloc _) (strsV_two _ _ _ _ (by simp)) (by simp; omega) (by omega) (by simp)).mono ?_
  rintro e w2 ⟨rfl, hLB, hW⟩
  have hB : Below w.heap.size w w2 := (hBt'.alloc (by omega) _).trans hW.below
  have g2 : w2.cell? ⟨b, 2, none⟩ = some (.int .i64 0) := by rw [hB.cell hb]; exact h2
  have hne : joinW [] [⟨#[101, 114, 114, 111, 114]⟩, ⟨(Lib.itoa q).toArray⟩] ≠ [] := joinW_ne [⟨(Lib.itoa q).toArray⟩] _ (by simp)
  have Hne := Lib.hid hne
  clear hne
  go_wp2_with fail
  refine (builder_string _ _ _ _ _ hLB Hne.out).mono ?_
  rintro e w3 ⟨rfl, hW2⟩
  go_wp2_with fail
  go_ret
  exact ⟨rfl, hB.trans hW2.below⟩

end Go.Proofs.YtogmajeaaabjlaaGreatDoor
