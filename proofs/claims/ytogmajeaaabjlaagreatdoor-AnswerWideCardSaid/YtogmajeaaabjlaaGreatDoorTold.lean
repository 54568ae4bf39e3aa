/- The contract of answer.Told: the line of what is told, or that there is none. -/
import Derived.Test.YtogmajeaaabjlaaGreatDoorTried
import Derived.Test.YtogmajeaaabjlaaGreatDoorLine
import Derived.Test.YtogmajeaaabjlaaGreatDoorText
import Derived.Deep.RegionWith
namespace Go.Proofs.YtogmajeaaabjlaaGreatDoor
open Go.RowKit

def fitsT (e r m : Int) : Prop := 0 ≤ e ∧ e ≤ 99 ∧ 0 ≤ r ∧ r ≤ 99 ∧ 0 ≤ m ∧ m ≤ 4

set_option maxHeartbeats 1000000 in
set_option maxRecDepth 100000 in
theorem told1_out (b : Nat) (e r m : Int) (w : World) (h0 : w.cell? ⟨b, 0, none⟩ = some (.int .i64 e)) (h1 : w.cell? ⟨b, 1, none⟩ = some (.int .i64 r)) (h2 : w.cell? ⟨b, 2, none⟩ = some (.int .i64 m)) (hn : ¬ fitsT e r m) :
    Calls Tryz.prog 28 #[.pointer (some ⟨b, 0, none⟩)] w fun e w' => e = .panicked thrown ∧ w = w' := by
  by_cases a1 : 0 ≤ e
  · by_cases a2 : e ≤ 99
    · by_cases a3 : 0 ≤ r
      · by_cases a4 : r ≤ 99
        · by_cases a5 : 0 ≤ m
          · have a6 : ¬ m ≤ 4 := fun a6 => hn ⟨a1, a2, a3, a4, a5, a6⟩
            go_enter Tryz.func28, Tryz.ntmps28
            go_wp2_with fail; refine (must_f _).mono ?_; rintro e w' ⟨rfl, rfl⟩; go_wp2_with fail
            exact ⟨rfl, rfl, rfl⟩
          · go_enter Tryz.func28, Tryz.ntmps28
            go_wp2_with fail; refine (must_f _).mono ?_; rintro e w' ⟨rfl, rfl⟩; go_wp2_with fail
            exact ⟨rfl, rfl, rfl⟩
        · go_enter Tryz.func28, Tryz.ntmps28
          go_wp2_with fail; refine (must_f _).mono ?_; rintro e w' ⟨rfl, rfl⟩; go_wp2_with fail
          exact ⟨rfl, rfl, rfl⟩
      · go_enter Tryz.func28, Tryz.ntmps28
        go_wp2_with fail; refine (must_f _).mono ?_; rintro e w' ⟨rfl, rfl⟩; go_wp2_with fail
        exact ⟨rfl, rfl, rfl⟩
    · go_enter Tryz.func28, Tryz.ntmps28
      go_wp2_with fail; refine (must_f _).mono ?_; rintro e w' ⟨rfl, rfl⟩; go_wp2_with fail
      exact ⟨rfl, rfl, rfl⟩
  · go_enter Tryz.func28, Tryz.ntmps28
    go_wp2_with fail; refine (must_f _).mono ?_; rintro e w' ⟨rfl, rfl⟩; go_wp2_with fail
    exact ⟨rfl, rfl, rfl⟩

set_option maxHeartbeats 1000000 in
set_option maxRecDepth 100000 in
theorem told1_both (b : Nat) (e r m : Int) (w : World) (h0 : w.cell? ⟨b, 0, none⟩ = some (.int .i64 e)) (h1 : w.cell? ⟨b, 1, none⟩ = some (.int .i64 r)) (h2 : w.cell? ⟨b, 2, none⟩ = some (.int .i64 m)) (hn : fitsT e r m) (hb : ¬ (e = 0 ∨ r = 0 ∧ m = 0)) :
    Calls Tryz.prog 28 #[.pointer (some ⟨b, 0, none⟩)] w fun e w' => e = .panicked thrown ∧ w = w' := by
  obtain ⟨a1, a2, a3, a4, a5, a6⟩ := hn
  have e0 : (e == 0) = false := by simp; intro h; exact hb (.inl h)
  by_cases hr : r = 0
  · have r0 : (r == 0) = true := by simp [hr]
    have m0 : (m == 0) = false := by simp; intro h; exact hb (.inr ⟨hr, h⟩)
    clear hr
    go_enter Tryz.func28, Tryz.ntmps28
    go_wp2_with fail
    refine (must_t _).mono ?_; rintro e w' ⟨rfl, rfl⟩
    go_wp2_with fail
    refine (must_f _).mono ?_; rintro e w' ⟨rfl, rfl⟩
    go_wp2_with fail
    exact ⟨rfl, rfl, rfl⟩
  · have r0 : (r == 0) = false := by simp [hr]
    clear hr
    go_enter Tryz.func28, Tryz.ntmps28
    go_wp2_with fail
    refine (must_t _).mono ?_; rintro e w' ⟨rfl, rfl⟩
    go_wp2_with fail
    refine (must_f _).mono ?_; rintro e w' ⟨rfl, rfl⟩
    go_wp2_with fail
    exact ⟨rfl, rfl, rfl⟩

def marksC : Array Value := #[.string ⟨#[]⟩, .string ⟨#[104, 101, 108, 100]⟩, .string ⟨#[115, 105, 100, 101]⟩, .string ⟨#[109, 97, 105, 110]⟩, .string ⟨#[98, 97, 100]⟩]

set_option maxHeartbeats 1000000 in
theorem marks_any (w : World) : Calls Tryz.prog 30 #[] w fun e w' => e = .returned (.slice (some ⟨w.heap.size, 0, none⟩) 5 5) ∧ w' = w.alloc (.cells marksC 9) := by
  go_enter Tryz.func30, Tryz.ntmps30
  go_wp2_with fail
  go_ret
  exact ⟨rfl, rfl⟩


def mk (m : Int) : List UInt8 := if m = 1 then [104, 101, 108, 100] else if m = 2 then [115, 105, 100, 101] else if m = 3 then [109, 97, 105, 110] else [98, 97, 100]
theorem mk_at (m : Int) (h1 : 1 ≤ m) (h4 : m ≤ 4) : marksC[m.toNat]? = some (.string ⟨(mk m).toArray⟩) := by
  have : m = 1 ∨ m = 2 ∨ m = 3 ∨ m = 4 := by omega
  rcases this with rfl | rfl | rfl | rfl <;> rfl
theorem mk_len (m : Int) : (mk m).length ≤ 4 := by unfold mk; split <;> (try split) <;> (try split) <;> simp
theorem mk_size (m : Int) : (⟨(mk m).toArray⟩ : ByteArray).size ≤ 4 := mk_len m

end Go.Proofs.YtogmajeaaabjlaaGreatDoor
