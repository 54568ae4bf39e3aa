/- Laws for a map literal that a call makes and asks at once: a store of a new key into the block that was laid last, and a look-up in it. -/
import Derived.Test.YtogmajeaaabjlaaGreatDoorProg
import Derived.WalkKit
import Derived.MapKept
namespace Go.Proofs.YtogmajeaaabjlaaGreatDoor
open Go.RowKit

theorem heap_last (w : World) (o : Obj) : (w.alloc o).heap[w.heap.size]? = some o := by
  show (w.heap.push o)[w.heap.size]? = _
  simp

/-- A new key is stored into the map in the last block. -/
theorem run_insert_last {P : Program} {mt kt et : TypeId} {d : TypeDesc} (hm : P.underlying mt = some (.map kt et)) (hk : P.underlying kt = some d) (w : World) (es : Array MapEntry) (c : Nat) (key val : Value) (n : Nat) (hn : n = w.heap.size)
    (hkey : MapKept.IsKey d key) (hf : Instr.findNow d key es.toList 0 = some none) :
    (Instr.mapUpdate mt (.map (some n)) key val).run P (w.alloc (.map es c)) = .ok () (w.alloc (.map (es.push ⟨key, val, c⟩) (c + 1))) := by
  subst hn
  have hset : ({ w.alloc (.map es c) with heap := (w.alloc (.map es c)).heap.setIfInBounds w.heap.size (.map (es.push ⟨key, val, c⟩) (c + 1)) } : World) = w.alloc (.map (es.push ⟨key, val, c⟩) (c + 1)) := by
    show ({ w with heap := (w.heap.push _).setIfInBounds w.heap.size _ } : World) = { w with heap := w.heap.push _ }
    congr 1
    apply Array.ext_getElem?
    intro i
    simp only [Array.getElem?_setIfInBounds, Array.getElem?_push, Array.size_push]
    split
    · rename_i h; subst h; simp
    · rename_i h; rw [if_neg (fun e => h e.symm), if_neg (fun e => h e.symm)]
  simp [Instr.mapUpdate, Instr.findKey, run_underlying hm, run_underlying hk, MapKept.run_getObj_map (heap_last w _), MapKept.run_checkKey hk hkey, hf, MapKept.run_setObj_map _ (heap_last w _)]
  exact hset

/-- A look-up, with ok, in the map in the last block. -/
theorem run_lookup_last {P : Program} {mt kt et : TypeId} {d : TypeDesc} (hm : P.underlying mt = some (.map kt et)) (hk : P.underlying kt = some d) (w : World) (es : Array MapEntry) (c : Nat) (key : Value) (n : Nat) (hn : n = w.heap.size)
    (hkey : MapKept.IsKey d key) (i : Nat) (v : Value) (hf : Instr.findNow d key es.toList 0 = some (some (i, v))) :
    (Instr.lookup mt (.map (some n)) key true).run P (w.alloc (.map es c)) = .ok (.tuple #[v, .bool true]) (w.alloc (.map es c)) := by
  subst hn
  simp [Instr.lookup, Instr.findKey, run_underlying hm, run_underlying hk, MapKept.run_getObj_map (heap_last w _), MapKept.run_checkKey hk hkey, hf]

theorem run_lookup_none {P : Program} {mt kt et : TypeId} {d : TypeDesc} (hm : P.underlying mt = some (.map kt et)) (hk : P.underlying kt = some d) (w : World) (es : Array MapEntry) (c : Nat) (key : Value) (n : Nat) (hn : n = w.heap.size)
    (hkey : MapKept.IsKey d key) (z : Value) (hz : ∀ w : World, (zeroValue et).run P w = .ok z w) (hf : Instr.findNow d key es.toList 0 = some none) :
    (Instr.lookup mt (.map (some n)) key true).run P (w.alloc (.map es c)) = .ok (.tuple #[z, .bool false]) (w.alloc (.map es c)) := by
  subst hn
  simp [Instr.lookup, Instr.findKey, run_underlying hm, run_underlying hk, MapKept.run_getObj_map (heap_last w _), MapKept.run_checkKey hk hkey, hf, hz]
end Go.Proofs.YtogmajeaaabjlaaGreatDoor
