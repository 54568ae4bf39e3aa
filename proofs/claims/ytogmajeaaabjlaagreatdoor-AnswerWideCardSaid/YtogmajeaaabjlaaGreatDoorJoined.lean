/- The row's closed facts, joined. (Printed by gen_facts.py.) -/
import Derived.Test.YtogmajeaaabjlaaGreatDoorFacts
import Derived.Test.YtogmajeaaabjlaaGreatDoorReachB
namespace Go.Proofs.YtogmajeaaabjlaaGreatDoor
open Go
theorem and_mk {a b : Bool} (ha : a = true) (hb : b = true) : (a && b) = true := by rw [ha, hb]; rfl
theorem laid_out : laidOutB Tryz.prog = true := and_mk (and_mk lo1 lo2) lo3
theorem jf_inPlace : (Rows.answerWideRow.inPlace == Tryz.prog.inPlace 3) = true := by rw [inPlace_is]; exact beq_self_eq_true _
theorem jf_unf : (Rows.answerWideRow.unfollowed == Tryz.prog.unfollowed 3) = true := by rw [unfollowed_is]; rfl
theorem jf_rec : (Rows.answerWideRow.recurses == Tryz.prog.recurses 3) = true := by rw [recurses_is]; rfl
theorem jf_named : (Rows.answerWideRow.named == Tryz.prog.varsNamed 3) = true := by rw [named_is]; exact beq_self_eq_true _
theorem joined : joinedFacts Tryz.prog 3 Tryz.f3 Rows.answerWideSpec Rows.answerWideRow = true := by
  unfold joinedFacts
  exact and_mk (and_mk (and_mk (and_mk (and_mk (and_mk (and_mk (and_mk (and_mk (and_mk (and_mk (and_mk (and_mk (and_mk (and_mk (and_mk (and_mk (and_mk (and_mk (and_mk (and_mk (and_mk (and_mk (and_mk (and_mk (and_mk (and_mk (and_mk (and_mk (and_mk (and_mk (jf0) laid_out) jf2) jf3) jf4) jf5) jf6) jf7) jf8) jf_inPlace) jf_unf) jf_rec) jf_named) jf13) jf14) jf15) jf16) jf17) jf18) jf19) jf20) jf21) jf22) jf23) jf24) jf25) jf26) jf27) (by kernel_rfl)) jf29) jf30) jf31
end Go.Proofs.YtogmajeaaabjlaaGreatDoor
