/- 'moidorelaw28.AnswerWide': the world in which the row's claim holds something: the witness. -/
import Derived.Test.YtogmajeaaabjlaaGreatDoorRowL
namespace Go.Proofs.YtogmajeaaabjlaaGreatDoor
open Go Go.RowKit Go.Lib Go.ChangeShapes Go.WideShapes Go.ChangeAt

variable (os : Os)
def wArgs : Array Value := #[.agg #[.int .i64 0, .int .u64 0], .int .i64 0]
theorem wit_shaped : ((World.laidAll Tryz.prog os LD).forCall (fun _ _ => 0) ⟨#[], wArgs, []⟩).Shaped Tryz.prog := World.shaped_of_ZipB (by kernel_rfl) (by kernel_rfl)
theorem wit_ok : Input.okWideB Tryz.prog ((World.laidAll Tryz.prog os LD).forCall (fun _ _ => 0) ⟨#[], wArgs, []⟩) 3 ⟨#[], wArgs, []⟩ = true := by kernel_rfl
theorem wit_pre {H : Type} (enc : TypeId × Value → H) : Rows.answerWideSpec.preB enc Tryz.prog Tryz.f3 [] false ((World.laidAll Tryz.prog os LD).forCall (fun _ _ => 0) ⟨#[], wArgs, []⟩).memory wArgs 8 = true := by kernel_rfl
theorem wit_size {H : Type} (enc : TypeId × Value → H) : Rows.answerWideSpec.sizedB enc Tryz.prog Tryz.f3 false ((World.laidAll Tryz.prog os LD).forCall (fun _ _ => 0) ⟨#[], wArgs, []⟩).memory wArgs 8 = true := by kernel_rfl
theorem wit_laid : laidMet Tryz.prog LD ((World.laidAll Tryz.prog os LD).forCall (fun _ _ => 0) ⟨#[], wArgs, []⟩).memory := laidMet_laidAll _ (by kernel_rfl) (by kernel_rfl)
end Go.Proofs.YtogmajeaaabjlaaGreatDoor
