/- No function of the program starts a goroutine: in pieces, each a theorem of its own. -/
import Derived.Test.YtogmajeaaabjlaaGreatDoorRows
import Derived.KernelRfl
import GoSem.ClaimGoes
namespace Go.Proofs.YtogmajeaaabjlaaGreatDoor
open Go
theorem any_cut {α : Type} (h : α → Bool) (l : List α) (k : Nat) : l.any h = ((l.take k).any h || (l.drop k).any h) := by rw [← List.any_append, List.take_append_drop]
theorem go0 : ((Tryz.prog.funcs.toList.drop 0).take 50).any Func.goes = false := by kernel_rfl
theorem go50 : ((Tryz.prog.funcs.toList.drop 50).take 50).any Func.goes = false := by kernel_rfl
theorem go100 : ((Tryz.prog.funcs.toList.drop 100).take 50).any Func.goes = false := by kernel_rfl
theorem go150 : ((Tryz.prog.funcs.toList.drop 150).take 50).any Func.goes = false := by kernel_rfl
theorem go200 : ((Tryz.prog.funcs.toList.drop 200).take 50).any Func.goes = false := by kernel_rfl
theorem go250 : ((Tryz.prog.funcs.toList.drop 250).take 50).any Func.goes = false := by kernel_rfl
theorem go300 : ((Tryz.prog.funcs.toList.drop 300).take 50).any Func.goes = false := by kernel_rfl
theorem go350 : ((Tryz.prog.funcs.toList.drop 350).take 50).any Func.goes = false := by kernel_rfl
theorem go400 : ((Tryz.prog.funcs.toList.drop 400).take 50).any Func.goes = false := by kernel_rfl
theorem go450 : ((Tryz.prog.funcs.toList.drop 450).take 50).any Func.goes = false := by kernel_rfl
theorem go500 : ((Tryz.prog.funcs.toList.drop 500).take 50).any Func.goes = false := by kernel_rfl
theorem go550 : ((Tryz.prog.funcs.toList.drop 550).take 50).any Func.goes = false := by kernel_rfl
theorem go600 : ((Tryz.prog.funcs.toList.drop 600).take 50).any Func.goes = false := by kernel_rfl
theorem go650 : ((Tryz.prog.funcs.toList.drop 650).take 50).any Func.goes = false := by kernel_rfl
theorem go700 : ((Tryz.prog.funcs.toList.drop 700).take 50).any Func.goes = false := by kernel_rfl
theorem go750 : ((Tryz.prog.funcs.toList.drop 750).take 50).any Func.goes = false := by kernel_rfl
theorem gorest : (Tryz.prog.funcs.toList.drop 800).any Func.goes = false := by kernel_rfl
theorem go_list : (Tryz.prog.funcs.toList.drop 0).any Func.goes = false := by
  rw [any_cut Func.goes (Tryz.prog.funcs.toList.drop 0) 50, go0, Bool.false_or, List.drop_drop]
  rw [any_cut Func.goes (Tryz.prog.funcs.toList.drop 50) 50, go50, Bool.false_or, List.drop_drop]
  rw [any_cut Func.goes (Tryz.prog.funcs.toList.drop 100) 50, go100, Bool.false_or, List.drop_drop]
  rw [any_cut Func.goes (Tryz.prog.funcs.toList.drop 150) 50, go150, Bool.false_or, List.drop_drop]
  rw [any_cut Func.goes (Tryz.prog.funcs.toList.drop 200) 50, go200, Bool.false_or, List.drop_drop]
  rw [any_cut Func.goes (Tryz.prog.funcs.toList.drop 250) 50, go250, Bool.false_or, List.drop_drop]
  rw [any_cut Func.goes (Tryz.prog.funcs.toList.drop 300) 50, go300, Bool.false_or, List.drop_drop]
  rw [any_cut Func.goes (Tryz.prog.funcs.toList.drop 350) 50, go350, Bool.false_or, List.drop_drop]
  rw [any_cut Func.goes (Tryz.prog.funcs.toList.drop 400) 50, go400, Bool.false_or, List.drop_drop]
  rw [any_cut Func.goes (Tryz.prog.funcs.toList.drop 450) 50, go450, Bool.false_or, List.drop_drop]
  rw [any_cut Func.goes (Tryz.prog.funcs.toList.drop 500) 50, go500, Bool.false_or, List.drop_drop]
  rw [any_cut Func.goes (Tryz.prog.funcs.toList.drop 550) 50, go550, Bool.false_or, List.drop_drop]
  rw [any_cut Func.goes (Tryz.prog.funcs.toList.drop 600) 50, go600, Bool.false_or, List.drop_drop]
  rw [any_cut Func.goes (Tryz.prog.funcs.toList.drop 650) 50, go650, Bool.false_or, List.drop_drop]
  rw [any_cut Func.goes (Tryz.prog.funcs.toList.drop 700) 50, go700, Bool.false_or, List.drop_drop]
  rw [any_cut Func.goes (Tryz.prog.funcs.toList.drop 750) 50, go750, Bool.false_or, List.drop_drop]
  exact gorest
theorem go_each (fn : Func) (h : fn ∈ Tryz.prog.funcs.toList) : fn.goes = false := by
  have h0 : Tryz.prog.funcs.toList.any Func.goes = false := go_list
  cases hg : fn.goes with
  | false => rfl
  | true =>
    have := List.any_eq_true.2 ⟨fn, h, hg⟩
    rw [h0] at this
    cases this
theorem goes_none (f : FuncId) : Tryz.prog.goes f = false := by
  unfold Program.goes
  rw [Bool.or_eq_false_iff]
  constructor
  · rw [List.any_eq_false]
    intro g _
    cases hf : Tryz.prog.funcs[g]? with
    | none => simp
    | some fn =>
      have hm : fn ∈ Tryz.prog.funcs.toList := Array.mem_toList_iff.2 (Array.mem_of_getElem? hf)
      simp [go_each fn hm]
  · have : Tryz.prog.funcs.any Func.goes = false := by
      rw [← Array.any_toList]
      rw [List.any_eq_false]
      intro fn hfn
      simp [go_each fn hfn]
    rw [this, Bool.and_false]
theorem any_none (o : Option FuncId) : o.any Tryz.prog.goes = false := by
  cases o with
  | none => rfl
  | some f => rw [Option.any_some, goes_none]
theorem goes_from (s : String) : Tryz.prog.goesFrom s = false := by
  unfold Program.goesFrom
  exact any_none _
theorem goes_not : false = Rows.answerWideRow.goesBy Tryz.prog := by
  unfold OpenClaim.goesBy Program.goesAt
  rw [goes_from, Bool.false_or]
  rfl
end Go.Proofs.YtogmajeaaabjlaaGreatDoor
