/- The contract of answer.text: the digits of a number of 64 bits; it reads the table of powers of ten. -/
import Derived.Test.YtogmajeaaabjlaaGreatDoorShelf
import Derived.WalkKit
import Derived.WalkSpells
import Derived.WalkSmall
import Derived.Sort.Grow
namespace Go.Proofs.YtogmajeaaabjlaaGreatDoor
open Go.RowKit

/-- What the start-up code has laid, as far as the proofs ask for it. -/
structure Laid (w : World) : Prop where
  tab : Lib.TabIs Tryz.prog w "internal/strconv.uint64pow10" .u64 Lib.pow10Tab
  max : ∃ m : Int, w.cell? ⟨5, 0, none⟩ = some (.int .i64 m)
  syn : ∃ v, w.cell? ⟨3, 0, none⟩ = some v ∧ (v = .nilIface ∨ ∃ t p, v = .iface t p)
  rng : ∃ v, w.cell? ⟨4, 0, none⟩ = some v ∧ (v = .nilIface ∨ ∃ t p, v = .iface t p)
  size : 11 ≤ w.heap.size

theorem Laid.below {B : Nat} {w w' : World} (h : Laid w) (hb : Below B w w') (hB : 11 ≤ B) : Laid w' where
  tab := var?_below hb (g := 2) (by kernel_rfl) (by omega) h.tab
  max := by obtain ⟨m, hm⟩ := h.max; exact ⟨m, by rw [hb.cell (by simp; omega)]; exact hm⟩
  syn := by obtain ⟨m, hm, r⟩ := h.syn; exact ⟨m, by rw [hb.cell (by simp; omega)]; exact hm, r⟩
  rng := by obtain ⟨m, hm, r⟩ := h.rng; exact ⟨m, by rw [hb.cell (by simp; omega)]; exact hm, r⟩
  size := by have := hb.size; have := h.size; omega

theorem below_grow (w : World) (k : Nat) (os : Array Obj) : Below w.heap.size w (Sort.grow (w.drewN k) os) := by
  refine ⟨rfl, rfl, rfl, ?_, fun i hi => ?_⟩
  · simp [Sort.grow, World.drewN]
  · show (w.heap ++ os)[i]? = w.heap[i]?
    rw [Array.getElem?_append_left hi]

set_option maxHeartbeats 400000 in
theorem text_any (n : Int) (h0 : -9223372036854775808 ≤ n) (h1 : n ≤ 9223372036854775807) (w : World) (hL : Laid w) :
    Calls Tryz.prog 20 #[.int .i64 n] w fun e w' => e = .returned (.string ⟨(Lib.itoa n).toArray⟩) ∧ Below w.heap.size w w' := by
  go_enter Tryz.func20, Tryz.ntmps20
  go_wp2_with fail
  refine (Tryz.strconv_FormatInt_10 n h0 h1 w hL.tab).mono ?_
  rintro e w1 ⟨rfl, k, os, rfl⟩
  go_wp2_with fail
  go_ret
  exact ⟨rfl, below_grow _ _ _⟩
end Go.Proofs.YtogmajeaaabjlaaGreatDoor
