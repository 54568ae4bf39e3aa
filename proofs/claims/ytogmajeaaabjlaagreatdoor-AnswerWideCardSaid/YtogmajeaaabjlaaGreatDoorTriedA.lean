/- The contracts of answer.tried at Ask and at Told: what is thrown is caught, what is returned is handed on. -/
import Derived.Test.YtogmajeaaabjlaaGreatDoorTried
namespace Go.Proofs.YtogmajeaaabjlaaGreatDoor
open Go.RowKit

theorem tried_ask_idle (p q : Addr) (w : World) :
    CallsD Tryz.prog 48 #[.pointer (some p), .pointer (some q)] .returning w fun e u' w' => e = .returned (.tuple #[]) ∧ u' = .returning ∧ w' = w := by
  refine callsD_of_wpS Tryz.func48 rfl fun c₀ cs hu => ?_
  simp only [Tryz.ntmps48, List.size_toArray, List.length_cons, List.length_nil, Nat.reduceAdd, Nat.reduceSub, Array.replicate_succ,
     Array.replicate_zero, List.push_toArray, List.append_toArray, List.nil_append, List.cons_append]
  apply wpS_seq
  apply wpS_region
  simp [wpOpsS, go_sem, recoverD, hu, Exit.thenS]
  refine wpS_of_wp ?_
  go_wp2
  exact ⟨rfl, _, by rw [← hu], _, results_none rfl _ _ _, rfl, rfl, rfl⟩

set_option maxRecDepth 100000 in
theorem tried_ask_caught (b b' : Nat) (w : World) (x0 x1 x2 : Value) (y : Bool) (hb : b < w.heap.size) (hb' : b' < w.heap.size) (hne : ¬ b = b')
    (hc0 : w.cell? ⟨b, 0, none⟩ = some x0) (hc1 : w.cell? ⟨b, 1, none⟩ = some x1) (hc2 : w.cell? ⟨b, 2, none⟩ = some x2) (hz0 : w.frozen? ⟨b, 0, none⟩ = false) (hz1 : w.frozen? ⟨b, 1, none⟩ = false) (hz2 : w.frozen? ⟨b, 2, none⟩ = false)
    (hd : w.cell? ⟨b', 0, none⟩ = some (.bool y)) (hy : w.frozen? ⟨b', 0, none⟩ = false) :
    CallsD Tryz.prog 48 #[.pointer (some ⟨b, 0, none⟩), .pointer (some ⟨b', 0, none⟩)] (.panicking thrown) w fun e u' w' => e = .returned (.tuple #[]) ∧ u' = .panicking [{ v := .iface 93 (.agg #[]), recovered := true }] ∧
      w'.cell? ⟨b, 0, none⟩ = some (.int .i64 0) ∧ w'.cell? ⟨b, 1, none⟩ = some (.slice none 0 0) ∧ w'.cell? ⟨b, 2, none⟩ = some (.int .i64 0) ∧ w'.cell? ⟨b', 0, none⟩ = some (.bool false) ∧ (∀ B, B ≤ b → B ≤ b' → Below B w w') ∧ (∀ k, k ≠ b → k ≠ b' → k < w.heap.size → w'.heap[k]? = w.heap[k]?) := by
  refine callsD_of_wpS Tryz.func48 rfl fun c₀ cs hu => ?_
  simp only [Tryz.ntmps48, List.size_toArray, List.length_cons, List.length_nil, Nat.reduceAdd, Nat.reduceSub, Array.replicate_succ,
     Array.replicate_zero, List.push_toArray, List.append_toArray, List.nil_append, List.cons_append]
  apply wpS_seq
  apply wpS_region
  simp [wpOpsS, go_sem, recoverD, hu, thrown, Exit.thenS]
  refine wpS_of_wp ?_
  have Hu := Lib.hid hu; clear hu
  have hta : ∀ w : World, (Instr.typeAssert (.iface 93 (.agg #[])) 20 93 true).run Tryz.prog w = .ok (.tuple #[.agg #[], .bool true]) w := fun _ => by kernel_rfl
  go_wp2
  have hlt : ∀ (q : Addr) (v : Value) (W : World), (W.setCell q v).heap.size = W.heap.size := fun q v W => by simp [World.setCell]
  refine ⟨rfl, _, rfl, _, results_none rfl _ _ _, rfl, rfl, ?_, ?_, ?_, ?_, fun B h1 h2 => ?_, fun k h1 h2 h3 => ?_⟩
  · simp [go_sem, hc0, hb]
  · simp [go_sem, hc1, hb]
  · simp [go_sem, hc2, hb]
  · simp [go_sem, hd, hb']
  · exact ((((((Below.refl _ _).setCell (p := ⟨b, 0, none⟩) h1 _).setCell (p := ⟨b, 1, none⟩) h1 _).setCell (p := ⟨b, 2, none⟩) h1 _).setCell (p := ⟨b', 0, none⟩) h2 _).alloc (by simp [hlt]; omega) _).alloc (by simp [hlt]; omega) _
  · rw [Below.heap_alloc _ _ _ (by simp [hlt]; omega), Below.heap_alloc _ _ _ (by simp [hlt]; omega), Below.heap_setCell _ _ _ _ (by simpa using h2), Below.heap_setCell _ _ _ _ (by simpa using h1), Below.heap_setCell _ _ _ _ (by simpa using h1), Below.heap_setCell _ _ _ _ (by simpa using h1)]

/-- The three cells of what is handed back. -/
def agg_ask : Option (Value × Value × Value) → Value
  | some (x, y, z) => .agg #[x, y, z]
  | none => .agg #[.int .i64 0, .slice none 0 0, .int .i64 0]

set_option maxHeartbeats 1000000 in
set_option maxRecDepth 100000 in
theorem tried_ask (f : FuncId) (cap : Array Value) (w : World) (Post : Option (Value × Value × Value) → World → Prop)
    (hcf : ∀ w : World, (callFunc f cap).run Tryz.prog w = .ok (.enter f cap) w)
    (hcall : Calls Tryz.prog f cap ((w.alloc (.cells #[.int .i64 0, .slice none 0 0, .int .i64 0] 34)).alloc (.cells #[.bool false] 4)) fun e w' =>
      ((∃ k0 a0 n0 c0' y0, e = .returned (.agg #[.int .i64 k0, .slice a0 n0 c0', .int .i64 y0]) ∧ Post (some (.int .i64 k0, .slice a0 n0 c0', .int .i64 y0)) w') ∨ (e = .panicked thrown ∧ Post none w')) ∧ Below (w.heap.size + 2) ((w.alloc (.cells #[.int .i64 0, .slice none 0 0, .int .i64 0] 34)).alloc (.cells #[.bool false] 4)) w') :
    Calls Tryz.prog 23 #[.func (.func f) #[] cap] w fun e w' =>
      ∃ r w1, Post r w1 ∧ e = .returned (.tuple #[agg_ask r, .bool r.isSome]) ∧ Below w.heap.size w w' ∧ Below (w.heap.size + 2) ((w.alloc (.cells #[.int .i64 0, .slice none 0 0, .int .i64 0] 34)).alloc (.cells #[.bool false] 4)) w1 ∧ w1.heap.size ≤ w'.heap.size ∧ ∀ k, w.heap.size + 2 ≤ k → k < w1.heap.size → w'.heap[k]? = w1.heap[k]? := by
  have hmf := run_makeFunc
  have HC := Lib.hid hcall; clear hcall
  have HF := Lib.hid hcf; clear hcf
  go_enter_defers Tryz.func23, Tryz.ntmps23
  go_wp2_with fail
  rw [HF.out, Oper.upon_enter]
  refine HC.out.mono ?_
  rintro e w1 ⟨hh, hb⟩
  have c0 : w1.cell? ⟨w.heap.size, 0, none⟩ = some (.int .i64 0) := by rw [hb.cell (by simp)]; simp [go_sem]
  have z0 : w1.frozen? ⟨w.heap.size, 0, none⟩ = false := by rw [hb.frozen (by simp)]; simp [go_sem]
  have c1 : w1.cell? ⟨w.heap.size, 1, none⟩ = some (.slice none 0 0) := by rw [hb.cell (by simp)]; simp [go_sem]
  have z1 : w1.frozen? ⟨w.heap.size, 1, none⟩ = false := by rw [hb.frozen (by simp)]; simp [go_sem]
  have c2 : w1.cell? ⟨w.heap.size, 2, none⟩ = some (.int .i64 0) := by rw [hb.cell (by simp)]; simp [go_sem]
  have z2 : w1.frozen? ⟨w.heap.size, 2, none⟩ = false := by rw [hb.frozen (by simp)]; simp [go_sem]
  have cd : w1.cell? ⟨w.heap.size + 1, 0, none⟩ = some (.bool false) := by rw [hb.cell (by simp)]; simp [go_sem]
  have zd : w1.frozen? ⟨w.heap.size + 1, 0, none⟩ = false := by rw [hb.frozen (by simp)]; simp [go_sem]
  have hs : w.heap.size + 1 < w1.heap.size := by have := hb.size; simp at this; omega
  have hs0 : w.heap.size < w1.heap.size := by omega
  have hB : Below w.heap.size w w1 := (((Below.refl _ _).alloc (Nat.le_refl _) _).alloc (by simp) _).trans (hb.mono (by omega))
  have hlt : ∀ (q : Addr) (v : Value) (W : World), (W.setCell q v).heap.size = W.heap.size := fun q v W => by simp [World.setCell]
  have Hb := Lib.hid hb
  clear hb
  rcases hh with ⟨k0, a0, n0, c0', y0, rfl, hp⟩ | ⟨rfl, hp⟩
  · have HP := Lib.hid hp; clear hp
    simp only []
    go_wp2_with fail
    refine leaves_cons (f := 48) (args := #[.pointer (some ⟨w.heap.size, 0, none⟩), .pointer (some ⟨w.heap.size + 1, 0, none⟩)]) (by simp) (by simp [go_sem]) ?_
    refine (tried_ask_idle _ _ _).mono ?_
    rintro e u' w' ⟨rfl, rfl, rfl⟩
    refine ⟨.tuple #[.agg #[.int .i64 k0, .slice a0 n0 c0', .int .i64 y0], .bool true], by simp [results, Tryz.results23, go_sem, c0, c1, c2, cd], some (.int .i64 k0, .slice a0 n0 c0', .int .i64 y0), _, HP.out, rfl, ?_, Hb.out, ?_, fun k h1 h2 => ?_⟩
    · exact ((((hB.setCell (p := ⟨w.heap.size, 0, none⟩) (Nat.le_refl _) _).setCell (p := ⟨w.heap.size, 1, none⟩) (Nat.le_refl _) _).setCell (p := ⟨w.heap.size, 2, none⟩) (Nat.le_refl _) _).setCell (p := ⟨w.heap.size + 1, 0, none⟩) (by simp) _)
    · simp [hlt]
    · rw [Below.heap_setCell _ _ _ _ (by simp; omega), Below.heap_setCell _ _ _ _ (by simp; omega), Below.heap_setCell _ _ _ _ (by simp; omega), Below.heap_setCell _ _ _ _ (by simp; omega)]
  · refine leaves_cons (f := 48) (args := #[.pointer (some ⟨w.heap.size, 0, none⟩), .pointer (some ⟨w.heap.size + 1, 0, none⟩)]) (by simp) (by simp [go_sem]) ?_
    refine (tried_ask_caught _ _ _ _ _ _ _ hs0 hs (by omega) c0 c1 c2 z0 z1 z2 cd zd).mono ?_
    rintro e u' w' ⟨rfl, rfl, d0, d1, d2, dd, hB', hk⟩
    refine ⟨.tuple #[.agg #[.int .i64 0, .slice none 0 0, .int .i64 0], .bool false], by simp [results, Tryz.results23, go_sem, d0, d1, d2, dd], none, _, hp, rfl, hB.trans (hB' _ (Nat.le_refl _) (by omega)), Hb.out, (hB' _ (Nat.le_refl _) (by omega)).size, fun k h1 h2 => hk k (by omega) (by omega) h2⟩

end Go.Proofs.YtogmajeaaabjlaaGreatDoor
