/- What lay in a world has not turned. No program in sight. -/
import Derived.Below
import Derived.WalkSmall
namespace Go.Proofs.YtogmajeaaabjlaaGreatDoor
open Go Go.RowKit
/-- Nothing that lay in a has turned. -/
def Since (a w : World) : Prop := Below a.heap.size a w
theorem Since.refl (a : World) : Since a a := Below.refl _ _
theorem Since.drew {a w : World} (h : Since a w) : Since a w.drew := Below.drew h
theorem Since.alloc {a w : World} (h : Since a w) (o : Obj) : Since a (w.alloc o) := Below.alloc h (Below.size h) o
theorem Since.call {a w w' : World} (h : Since a w) (hb : Below w.heap.size w w') : Since a w' := Below.trans h (hb.mono (Below.size h))
theorem Since.cell {a w : World} (h : Since a w) {b o : Nat} (hb : b < a.heap.size) : w.cell? ⟨b, o, none⟩ = a.cell? ⟨b, o, none⟩ := Below.cell h hb
theorem Since.set {a w : World} (h : Since a w) {b : Nat} (hb : a.heap.size ≤ b) (o : Nat) (u : Value) : Since a (w.setCell ⟨b, o, none⟩ u) := Below.setCell h (p := ⟨b, o, none⟩) hb u
theorem Since.size {a w : World} (h : Since a w) : a.heap.size ≤ w.heap.size := Below.size h
theorem bcell {W w1 : World} (hb : Below W.heap.size W w1) : (∀ b o, b < W.heap.size → w1.cell? ⟨b, o, none⟩ = W.cell? ⟨b, o, none⟩) ∧ (∀ b o, b < W.heap.size → w1.frozen? ⟨b, o, none⟩ = W.frozen? ⟨b, o, none⟩) :=
  ⟨fun b o h => hb.cell (p := ⟨b, o, none⟩) h, fun b o h => hb.frozen (p := ⟨b, o, none⟩) h⟩
theorem Since.frozen {a w : World} (h : Since a w) {b o : Nat} (hb : b < a.heap.size) : w.frozen? ⟨b, o, none⟩ = a.frozen? ⟨b, o, none⟩ := Below.frozen h hb

end Go.Proofs.YtogmajeaaabjlaaGreatDoor
