/- The row's closed facts and the card's, each a theorem of its own (in one they go over the memory lid). (Printed by gen_facts.py.) -/
import Derived.Test.YtogmajeaaabjlaaGreatDoorRows
import Derived.Test.YtogmajeaaabjlaaGreatDoorCards
import Derived.JoinedOf
import Derived.JoinedTies
import Derived.KernelRfl
namespace Go.Proofs.YtogmajeaaabjlaaGreatDoor
open Go
theorem jf0 : (Rows.answerWideRow.wf (OpenSpec.ofChange Rows.answerWideSpec)) = true := by kernel_rfl
theorem lo1 : ((List.range Tryz.prog.types.size).all (rowFine Tryz.prog)) = true := by kernel_rfl
theorem lo2 : (Tryz.prog.globals.all (fun g => decide (g.type < Tryz.prog.types.size))) = true := by kernel_rfl
theorem lo3 : (Tryz.prog.funcs.all (fun f => f.params.all fun t => decide (t < Tryz.prog.types.size))) = true := by kernel_rfl
theorem jf2 : (mapsRowed Tryz.prog) = true := by kernel_rfl
theorem jf3 : (Tryz.f3.params.all (Tryz.prog.readableRec ·)) = true := by kernel_rfl
theorem jf4 : (namedTie Tryz.prog Rows.answerWideRow.named Rows.answerWideSpec.vars) = true := by kernel_rfl
theorem jf5 : ((Rows.answerWideRow.stops == [])) = true := by kernel_rfl
theorem jf6 : ((Tryz.prog.stops == [])) = true := by kernel_rfl
theorem jf7 : ((Rows.answerWideRow.knobs == [])) = true := by kernel_rfl
theorem jf8 : ((Tryz.prog.stopKnobs == [])) = true := by kernel_rfl
theorem jf13 : ((Rows.answerWideRow.maps == (Tryz.f3.params.toList ++ Rows.answerWideSpec.plain.varTypes Tryz.prog).any (Tryz.prog.mapsRec ·))) = true := by kernel_rfl
theorem jf14 : ((Rows.answerWideRow.ifaces == (Tryz.f3.params.toList ++ Rows.answerWideSpec.plain.varTypes Tryz.prog).any (Tryz.prog.ifacesRec ·))) = true := by kernel_rfl
theorem jf15 : ((Rows.answerWideRow.mapsOut == Tryz.prog.mapsAmong Tryz.f3.resultTypes.toList)) = true := by kernel_rfl
theorem jf16 : ((Rows.answerWideRow.loops == (Tryz.f3.params.toList ++ Rows.answerWideSpec.plain.varTypes Tryz.prog).any (Tryz.prog.loopsFrom ·))) = true := by kernel_rfl
theorem jf17 : ((Rows.answerWideRow.wideKeys == (Tryz.f3.params.toList ++ Rows.answerWideSpec.plain.varTypes Tryz.prog ++ Tryz.f3.resultTypes.toList).any (Tryz.prog.wideKeysFrom ·))) = true := by kernel_rfl
theorem jf18 : (Rows.answerWideSpec.vars.all (Tryz.prog.varReadable ·)) = true := by kernel_rfl
theorem jf19 : (Tryz.f3.resultTypes.all (fun t => Tryz.prog.readableRec t && decide (t < Tryz.prog.types.size))) = true := by kernel_rfl
theorem jf20 : ((Rows.answerWideRow.ifacesOut == Tryz.f3.resultTypes.toList.any (Tryz.prog.ifacesRec ·))) = true := by kernel_rfl
theorem jf21 : ((Rows.answerWideRow.loopsOut == Tryz.f3.resultTypes.toList.any (Tryz.prog.loopsFrom ·))) = true := by kernel_rfl
theorem jf22 : ((Rows.answerWideRow.plainKeys == Tryz.prog.plainKeys)) = true := by kernel_rfl
theorem jf23 : (Rows.answerWideRow.shortTexts.isNone) = true := by kernel_rfl
theorem jf24 : (Tryz.prog.stopsHeard) = true := by kernel_rfl
theorem jf25 : (Tryz.prog.mayEnter) = true := by kernel_rfl
theorem jf26 : ((Rows.answerWideRow.lifted == Tryz.prog.liftsFinal)) = true := by kernel_rfl
theorem jf27 : ((Tryz.prog.make == some Rows.answerWideRow.make)) = true := by kernel_rfl
theorem jf28 : ((Rows.answerWideRow.kinds == (if Rows.answerWideRow.domain.isEmpty then [] else Tryz.f3.params.toList.map fun t => match Tryz.prog.underlying t with | some (.int k) => some k | _ => none))) = true := by kernel_rfl
theorem jf29 : ((Rows.answerWideRow.pinned == Rows.answerWideRow.pinnedBy)) = true := by kernel_rfl
theorem jf30 : ((Rows.answerWideRow.veiled == (Tryz.f3.params.toList ++ Rows.answerWideSpec.plain.varTypes Tryz.prog ++ Tryz.f3.resultTypes.toList).any (Tryz.prog.veiledRec ·))) = true := by kernel_rfl
theorem jf31 : (Rows.answerWideRow.veiledFits Tryz.prog Tryz.f3.params.toList (Tryz.f3.params.toList ++ Rows.answerWideSpec.plain.varTypes Tryz.prog ++ Tryz.f3.resultTypes.toList)) = true := by kernel_rfl
theorem own_knob : ownKnob Tryz.prog.godebug = none := by kernel_rfl
theorem no_init : Tryz.prog.inits.idxOf? 3 = none := by kernel_rfl
theorem func_named : Tryz.prog.funcNamed "moidore/moidorelaw28.AnswerWide" = some 3 := by kernel_rfl
theorem std_in24 : Tryz.prog.wantsStandIn 24 = false := by kernel_rfl
theorem std_in2 : Tryz.prog.wantsStandIn 2 = false := by kernel_rfl
theorem looks_nil : Tryz.prog.looks [] = true := by kernel_rfl
theorem main_is : Tryz.prog.mainIs = some (true, "5fd298e1c46b782b4a1761aa67fe3434920e594a8813ff5a94ea1bc16380a44b".toList) := by kernel_rfl
end Go.Proofs.YtogmajeaaabjlaaGreatDoor
