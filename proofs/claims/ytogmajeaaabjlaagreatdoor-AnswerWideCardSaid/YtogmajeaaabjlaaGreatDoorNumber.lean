/- The contract of answer.number: the number of a word, or that it is none. -/
import Derived.Test.YtogmajeaaabjlaaGreatDoorFmtU
import Derived.Test.YtogmajeaaabjlaaGreatDoorUnhexS
import Derived.Test.YtogmajeaaabjlaaGreatDoorTried
namespace Go.Proofs.YtogmajeaaabjlaaGreatDoor
open Go.RowKit

/-- The number of a word. -/
def numS (l : List UInt8) : Option Nat :=
  match puS 10 9223372036854775807 l with
  | .val n => if Lib.decDigits n = l then some n else none
  | _ => none

set_option maxHeartbeats 1000000 in
set_option maxRecDepth 100000 in
theorem number_any (s : ByteArray) (w : World) (hL : Laid w) (hs : s.size ≤ 4294967296) :
    Calls Tryz.prog 27 #[.string s] w fun e w' =>
      ((∃ n : Nat, e = .returned (.int .i64 n) ∧ numS s.data.toList = some n ∧ n ≤ 9223372036854775807) ∨ (e = .panicked thrown ∧ numS s.data.toList = none)) ∧ Below w.heap.size w w' := by
  have hp := pu10_any s w hL hs
  have hnum : ∀ r, puS 10 9223372036854775807 s.data.toList = r → numS s.data.toList = match r with | .val n => if Lib.decDigits n = s.data.toList then some n else none | _ => none := by rintro r rfl; rfl
  have hle : ∀ n, puS 10 9223372036854775807 s.data.toList = .val n → n ≤ 9223372036854775807 := fun n h => puS_le h
  generalize puS 10 9223372036854775807 s.data.toList = r at *
  have hnum := hnum r rfl
  have Hp := Lib.hid hp
  clear hp
  cases r with
  | val n =>
    have hn := hle n rfl
    clear hle
    simp only [] at hnum
    have hsame := same_text (Lib.decDigits n) s s.data.toList rfl
    by_cases he : Lib.decDigits n = s.data.toList
    · rw [if_pos he] at hnum
      rw [decide_eq_true he] at hsame
      have Hn := Lib.hid hnum
      clear hnum he
      go_enter Tryz.func27, Tryz.ntmps27
      go_wp2_with fail
      refine Hp.out.mono ?_
      rintro e w1 ⟨rfl, hB⟩
      simp only []
      go_wp2_with fail
      refine (fmtU_any n (by omega) w1 (hL.below hB hL.size)).mono ?_
      rintro e w2 ⟨rfl, hB2⟩
      go_wp2_with fail
      refine (must_t _).mono ?_; rintro e w' ⟨rfl, rfl⟩
      go_wp2_with fail
      go_ret
      exact ⟨.inl ⟨n, rfl, Hn.out, hn⟩, hB.trans (hB2.mono hB.size)⟩
    · rw [if_neg he] at hnum
      rw [decide_eq_false he] at hsame
      have Hn := Lib.hid hnum
      clear hnum he
      go_enter Tryz.func27, Tryz.ntmps27
      go_wp2_with fail
      refine Hp.out.mono ?_
      rintro e w1 ⟨rfl, hB⟩
      simp only []
      go_wp2_with fail
      refine (fmtU_any n (by omega) w1 (hL.below hB hL.size)).mono ?_
      rintro e w2 ⟨rfl, hB2⟩
      go_wp2_with fail
      refine (must_f _).mono ?_; rintro e w' ⟨rfl, rfl⟩
      go_wp2_with fail
      exact ⟨rfl, .inr ⟨rfl, Hn.out⟩, hB.trans (hB2.mono hB.size)⟩
  | syn =>
    have Hn := Lib.hid hnum
    clear hnum hle
    go_enter Tryz.func27, Tryz.ntmps27
    go_wp2_with fail
    refine Hp.out.mono ?_
    rintro e w1 ⟨⟨p, rfl⟩, hB⟩
    go_wp2_with fail
    refine (must_f _).mono ?_; rintro e w' ⟨rfl, rfl⟩
    go_wp2_with fail
    exact ⟨rfl, .inr ⟨rfl, Hn.out⟩, hB⟩
  | rng =>
    have Hn := Lib.hid hnum
    clear hnum hle
    go_enter Tryz.func27, Tryz.ntmps27
    go_wp2_with fail
    refine Hp.out.mono ?_
    rintro e w1 ⟨⟨p, rfl⟩, hB⟩
    go_wp2_with fail
    refine (must_f _).mono ?_; rintro e w' ⟨rfl, rfl⟩
    go_wp2_with fail
    exact ⟨rfl, .inr ⟨rfl, Hn.out⟩, hB⟩
end Go.Proofs.YtogmajeaaabjlaaGreatDoor
