/- The contracts of answer.must and of answer.tried at string, Ask and Told: what is thrown is caught, what is returned is handed on. -/
import Derived.Test.YtogmajeaaabjlaaGreatDoorProg
import Derived.WalkKit
import Derived.WalkSpells
import Derived.WalkLawsBesides
import Derived.Recover
import Derived.Lib.Hide
namespace Go.Proofs.YtogmajeaaabjlaaGreatDoor
open Go.RowKit

/-- what answer.must throws -/
def thrown : List PanicEntry := [{ v := .iface 93 (.agg #[]), recovered := false }]

set_option maxHeartbeats 400000 in
theorem must_t (w : World) :
    Calls Tryz.prog 18 #[.bool true] w fun e w' => e = .returned (.tuple #[]) ∧ w = w' := by
  go_enter Tryz.func18, Tryz.ntmps18
  go_wp2
  go_end0
  exact ⟨rfl, rfl⟩
set_option maxHeartbeats 400000 in
theorem must_f (w : World) :
    Calls Tryz.prog 18 #[.bool false] w fun e w' => e = .panicked thrown ∧ w = w' := by
  go_enter Tryz.func18, Tryz.ntmps18
  go_wp2
  exact ⟨rfl, rfl, rfl⟩

/-- the deferred closure of tried[string], where what it was given returned -/
theorem tried_str_idle (p q : Addr) (w : World) :
    CallsD Tryz.prog 45 #[.pointer (some p), .pointer (some q)] .returning w fun e u' w' => e = .returned (.tuple #[]) ∧ u' = .returning ∧ w' = w := by
  refine callsD_of_wpS Tryz.func45 rfl fun c₀ cs hu => ?_
  simp only [Tryz.ntmps45, List.size_toArray, List.length_cons, List.length_nil, Nat.reduceAdd, Nat.reduceSub, Array.replicate_succ,
     Array.replicate_zero, List.push_toArray, List.append_toArray, List.nil_append, List.cons_append]
  apply wpS_seq
  apply wpS_region
  simp [wpOpsS, go_sem, recoverD, hu, Exit.thenS]
  refine wpS_of_wp ?_
  go_wp2
  exact ⟨rfl, _, by rw [← hu], _, results_none rfl _ _ _, rfl, rfl, rfl⟩

set_option maxRecDepth 100000 in
/-- .. where what it was given threw that there is no such thing: the result is nothing and false -/
theorem tried_str_caught (b b' : Nat) (w : World) (x : Value) (y : Bool) (hb : b < w.heap.size) (hb' : b' < w.heap.size) (hne : ¬ b = b')
    (hc : w.cell? ⟨b, 0, none⟩ = some x) (hz : w.frozen? ⟨b, 0, none⟩ = false) (hd : w.cell? ⟨b', 0, none⟩ = some (.bool y)) (hy : w.frozen? ⟨b', 0, none⟩ = false) :
    CallsD Tryz.prog 45 #[.pointer (some ⟨b, 0, none⟩), .pointer (some ⟨b', 0, none⟩)] (.panicking thrown) w fun e u' w' => e = .returned (.tuple #[]) ∧ u' = .panicking [{ v := .iface 93 (.agg #[]), recovered := true }] ∧
      w' = (((w.setCell ⟨b, 0, none⟩ (.string ⟨#[]⟩)).setCell ⟨b', 0, none⟩ (.bool false)).alloc (.cells #[] 93)) := by
  refine callsD_of_wpS Tryz.func45 rfl fun c₀ cs hu => ?_
  simp only [Tryz.ntmps45, List.size_toArray, List.length_cons, List.length_nil, Nat.reduceAdd, Nat.reduceSub, Array.replicate_succ,
     Array.replicate_zero, List.push_toArray, List.append_toArray, List.nil_append, List.cons_append]
  apply wpS_seq
  apply wpS_region
  simp [wpOpsS, go_sem, recoverD, hu, thrown, Exit.thenS]
  refine wpS_of_wp ?_
  have Hu := Lib.hid hu; clear hu
  have hta : ∀ w : World, (Instr.typeAssert (.iface 93 (.agg #[])) 20 93 true).run Tryz.prog w = .ok (.tuple #[.agg #[], .bool true]) w := fun _ => by kernel_rfl
  go_wp2
  exact ⟨rfl, _, rfl, _, results_none rfl _ _ _, rfl, rfl, rfl⟩

theorem run_makeFunc (fn : Fn) (first cap : Array Value) (w : World) : (Instr.makeFunc fn first cap).run Tryz.prog w = .ok (.func fn first cap) w := rfl

set_option maxRecDepth 100000 in
/-- answer.tried at string: what returns is handed on with true; what throws that there is no such thing gives nothing and false. -/
theorem tried_str (f : FuncId) (cap : Array Value) (w : World) (Post : Option ByteArray → World → Prop)
    (hcf : ∀ w : World, (callFunc f cap).run Tryz.prog w = .ok (.enter f cap) w)
    (hcall : Calls Tryz.prog f cap ((w.alloc (.cells #[.string ⟨#[]⟩] 9)).alloc (.cells #[.bool false] 4)) fun e w' =>
      ((∃ s, e = .returned (.string s) ∧ Post (some s) w') ∨ (e = .panicked thrown ∧ Post none w')) ∧ Below (w.heap.size + 2) ((w.alloc (.cells #[.string ⟨#[]⟩] 9)).alloc (.cells #[.bool false] 4)) w') :
    Calls Tryz.prog 16 #[.func (.func f) #[] cap] w fun e w' =>
      ∃ r w1, Post r w1 ∧ e = .returned (.tuple #[.string (r.getD ⟨#[]⟩), .bool r.isSome]) ∧ Below w.heap.size w w' := by
  have hmf := run_makeFunc
  have HC := Lib.hid hcall; clear hcall
  have HF := Lib.hid hcf; clear hcf
  go_enter_defers Tryz.func16, Tryz.ntmps16
  go_wp2_with fail
  rw [HF.out, Oper.upon_enter]
  refine HC.out.mono ?_
  rintro e w1 ⟨hh, hb⟩
  have c0 : w1.cell? ⟨w.heap.size, 0, none⟩ = some (.string ⟨#[]⟩) := by rw [hb.cell (by simp)]; simp [go_sem]
  have z0 : w1.frozen? ⟨w.heap.size, 0, none⟩ = false := by rw [hb.frozen (by simp)]; simp [go_sem]
  have c1 : w1.cell? ⟨w.heap.size + 1, 0, none⟩ = some (.bool false) := by rw [hb.cell (by simp)]; simp [go_sem]
  have z1 : w1.frozen? ⟨w.heap.size + 1, 0, none⟩ = false := by rw [hb.frozen (by simp)]; simp [go_sem]
  have hs : w.heap.size + 1 < w1.heap.size := by have := hb.size; simp at this; omega
  have hs0 : w.heap.size < w1.heap.size := by omega
  have hB : Below w.heap.size w w1 := (((Below.refl _ _).alloc (Nat.le_refl _) _).alloc (by simp) _).trans (hb.mono (by omega))
  rcases hh with ⟨s, rfl, hp⟩ | ⟨rfl, hp⟩
  · have HP := Lib.hid hp; clear hp
    simp only []
    go_wp2_with fail
    refine leaves_cons (f := 45) (args := #[.pointer (some ⟨w.heap.size, 0, none⟩), .pointer (some ⟨w.heap.size + 1, 0, none⟩)]) (by simp) (by simp [go_sem]) ?_
    refine (tried_str_idle _ _ _).mono ?_
    rintro e u' w' ⟨rfl, rfl, rfl⟩
    refine ⟨.tuple #[.string s, .bool true], by simp [results, Tryz.results16, go_sem, c0, c1], some s, _, HP.out, rfl, ?_⟩
    exact (hB.setCell (p := ⟨w.heap.size, 0, none⟩) (Nat.le_refl _) _).setCell (p := ⟨w.heap.size + 1, 0, none⟩) (by simp) _
  · refine leaves_cons (f := 45) (args := #[.pointer (some ⟨w.heap.size, 0, none⟩), .pointer (some ⟨w.heap.size + 1, 0, none⟩)]) (by simp) (by simp [go_sem]) ?_
    refine (tried_str_caught _ _ _ _ _ hs0 hs (by omega) c0 z0 c1 z1).mono ?_
    rintro e u' w' ⟨rfl, rfl, rfl⟩
    refine ⟨.tuple #[.string ⟨#[]⟩, .bool false], by simp [results, Tryz.results16, go_sem, c0, c1, hs, hs0], none, _, hp, rfl, ?_⟩
    exact ((hB.setCell (p := ⟨w.heap.size, 0, none⟩) (Nat.le_refl _) _).setCell (p := ⟨w.heap.size + 1, 0, none⟩) (by simp) _).alloc (by simp [World.setCell]; omega) _
end Go.Proofs.YtogmajeaaabjlaaGreatDoor
