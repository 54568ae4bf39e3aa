/- 'moidorelaw28.AnswerWide' answers true for every input: the tied card. Nothing is asked of the input. What the listed package-level variables (Go's own tables and two error values) read as when the call begins is tied to the program's text. -/
import Derived.Test.YtogmajeaaabjlaaGreatDoorRow
import Derived.Test.YtogmajeaaabjlaaGreatDoorJoined
import Derived.Test.YtogmajeaaabjlaaGreatDoorTieR
import Derived.Test.YtogmajeaaabjlaaGreatDoorCards
import Derived.Test.YtogmajeaaabjlaaGreatDoorGoes
import Derived.SevenTiedAt
namespace Go.Proofs.YtogmajeaaabjlaaGreatDoor
open Go Go.RowKit

theorem named_at : Tryz.pinned.checked.prog.funcNamed Rows.answerWideRow.func = some 3 := func_named
theorem at_func : Tryz.pinned.checked.prog.funcs[3]? = some Tryz.f3 := Tryz.func3
theorem inst_fits : Tryz.f3.isInstance Tryz.pinned.checked.prog Rows.answerWideRow.origin Rows.answerWideRow.targs := of_decide_eq_true (by kernel_rfl)
theorem wrap_fits : Tryz.f3.isWrapper Tryz.pinned.checked.prog Rows.answerWideRow.wrapper Rows.answerWideRow.mainSum := by
  unfold Func.isWrapper; first | (rw [if_pos (by decide +kernel)]; kernel_rfl) | (rw [if_neg (by decide +kernel)]; exact ⟨rfl, rfl⟩)
theorem row_holds : Rows.AnswerWideSaid :=
  OpenClaim.holds_of_wide 3 Tryz.f3 rfl rfl rfl rfl rfl rfl rfl ⟨rfl, rfl, rfl, rfl, rfl⟩ rfl rfl rfl rfl rfl named_at at_func
    joined inst_fits wrap_fits
    (fun os started H enc _ => lifted os started H enc)

theorem wf_text : Rows.answerWideRow.wfByText (OpenSpec.ofChange Rows.answerWideSpec) = true := by kernel_rfl
theorem main_at : Tryz.pinned.checked.prog.mainIs = some (true, "5fd298e1c46b782b4a1761aa67fe3434920e594a8813ff5a94ea1bc16380a44b".toList) := main_is
theorem looks_at : true = Tryz.pinned.checked.prog.looks [] := looks_nil.symm

theorem card_holds : Rows.AnswerWideCardSaid :=
  Claim7.holds_tied_plain_at .later [] [.pinned, .data, .sentinel, .sentinel, .data, .data, .data] true (true, "5fd298e1c46b782b4a1761aa67fe3434920e594a8813ff5a94ea1bc16380a44b") true
    row_holds (fun _ h => by cases h) wf_text (fun _ h => by cases h) row_tie rfl ⟨rfl, rfl⟩ main_at rfl
    (fun f fn hf hfn => by
      obtain rfl : f = 3 := Option.some.inj (named_at.symm.trans hf) |>.symm
      obtain rfl : fn = Tryz.f3 := (Option.some.inj (at_func.symm.trans hfn)).symm
      exact ⟨looks_at, fun j t ht => by
        rw [Tryz.params3] at ht
        have hm : t = 24 ∨ t = 2 := by simpa using Array.mem_of_getElem? ht
        rcases hm with rfl | rfl
        · exact std_in24
        · exact std_in2⟩)
    goes_not
#print axioms card_holds
end Go.Proofs.YtogmajeaaabjlaaGreatDoor
