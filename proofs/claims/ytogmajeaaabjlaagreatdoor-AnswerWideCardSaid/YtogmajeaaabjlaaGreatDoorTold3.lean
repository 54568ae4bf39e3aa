/- The contract of answer.Told, whole. -/
import Derived.Test.YtogmajeaaabjlaaGreatDoorTold2
namespace Go.Proofs.YtogmajeaaabjlaaGreatDoor
open Go.RowKit

/-- The words of what is told. -/
def toldW (q r m : Int) : List ByteArray :=
  (if q ≠ 0 then [⟨#[101, 114, 114, 111, 114]⟩, ⟨(Lib.itoa q).toArray⟩] else if r ≠ 0 then [⟨#[114, 101, 102, 117, 115, 101, 100]⟩, ⟨(Lib.itoa r).toArray⟩] else [⟨#[111, 107]⟩]) ++
  (if m ≠ 0 then [⟨(mk m).toArray⟩] else [])
instance (q r m : Int) : Decidable (fitsT q r m) := by unfold fitsT; infer_instance
/-- The line of what is told. -/
def toldS (q r m : Int) : Option (List UInt8) := if fitsT q r m ∧ (q = 0 ∨ r = 0 ∧ m = 0) then some (joinW [] (toldW q r m)) else none

theorem told1_any (b : Nat) (q r m : Int) (w : World) (hL : Laid w) (h0 : w.cell? ⟨b, 0, none⟩ = some (.int .i64 q)) (h1 : w.cell? ⟨b, 1, none⟩ = some (.int .i64 r)) (h2 : w.cell? ⟨b, 2, none⟩ = some (.int .i64 m)) (hb : b < w.heap.size) :
    Calls Tryz.prog 28 #[.pointer (some ⟨b, 0, none⟩)] w fun e w' =>
      ((∃ s, e = .returned (.string s) ∧ some s = (toldS q r m).map fun l => ⟨l.toArray⟩) ∨ (e = .panicked thrown ∧ (none : Option ByteArray) = (toldS q r m).map fun l => ⟨l.toArray⟩)) ∧ Below w.heap.size w w' := by
  by_cases hf : fitsT q r m
  · by_cases hs : q = 0 ∨ r = 0 ∧ m = 0
    · have hT : toldS q r m = some (joinW [] (toldW q r m)) := by unfold toldS; rw [if_pos ⟨hf, hs⟩]
      rw [hT]
      have hfin : ∀ W : List ByteArray, toldW q r m = W → ∀ (e : Ending) (w' : World), (e = .returned (.string ⟨(joinW [] W).toArray⟩) ∧ Below w.heap.size w w') →
          ((∃ s, e = .returned (.string s) ∧ some s = (some (joinW [] (toldW q r m))).map fun l => ⟨l.toArray⟩) ∨ (e = .panicked thrown ∧ (none : Option ByteArray) = (some (joinW [] (toldW q r m))).map fun l => ⟨l.toArray⟩)) ∧ Below w.heap.size w w' := by
        rintro W rfl e w' ⟨rfl, hB⟩
        exact ⟨.inl ⟨_, rfl, rfl⟩, hB⟩
      obtain ⟨a1, a2, a3, a4, a5, a6⟩ := hf
      by_cases hq : q = 0
      · subst hq
        by_cases hr : r = 0
        · subst hr
          by_cases hm : m = 0
          · subst hm
            exact (told1_ok b w hL h0 h1 h2 hb).mono (hfin _ (by simp [toldW]))
          · exact (told1_ok_m b m w hL h0 h1 h2 hb (by omega) a6).mono (hfin _ (by simp [toldW, hm]))
        · by_cases hm : m = 0
          · subst hm
            exact (told1_re b r w hL h0 h1 h2 hb (by omega) a4).mono (hfin _ (by simp [toldW, hr]))
          · exact (told1_re_m b r m w hL h0 h1 h2 hb (by omega) a6 (by omega) a4).mono (hfin _ (by simp [toldW, hr, hm]))
      · obtain ⟨rfl, rfl⟩ := hs.resolve_left hq
        exact (told1_er b q w hL h0 h1 h2 hb (by omega) a2).mono (hfin _ (by simp [toldW, hq]))
    · have hT : toldS q r m = none := by unfold toldS; rw [if_neg (fun h => hs h.2)]
      rw [hT]
      refine (told1_both b q r m w h0 h1 h2 hf hs).mono ?_
      rintro e w' ⟨rfl, rfl⟩
      exact ⟨.inr ⟨rfl, rfl⟩, Below.refl _ _⟩
  · have hT : toldS q r m = none := by unfold toldS; rw [if_neg (fun h => hf h.1)]
    rw [hT]
    refine (told1_out b q r m w h0 h1 h2 hf).mono ?_
    rintro e w' ⟨rfl, rfl⟩
    exact ⟨.inr ⟨rfl, rfl⟩, Below.refl _ _⟩

set_option maxHeartbeats 1000000 in
set_option maxRecDepth 100000 in
/-- answer.Told -/
theorem told_any (q r m : Int) (w : World) (hL : Laid w) :
    Calls Tryz.prog 9 #[.agg #[.int .i64 q, .int .i64 r, .int .i64 m]] w fun e w' =>
      e = .returned (.tuple #[.string ⟨((toldS q r m).getD []).toArray⟩, .bool (toldS q r m).isSome]) ∧ Below w.heap.size w w' := by
  have hmf := run_makeFunc
  have hB0 : Below w.heap.size w (((w.alloc (.cells #[.int .i64 q, .int .i64 r, .int .i64 m] 43)).alloc (.cells #[.string ⟨#[]⟩] 9)).alloc (.cells #[.bool false] 4)) :=
    (((Below.refl _ _).alloc (Nat.le_refl _) _).alloc (by simp) _).alloc (by simp; omega) _
  have h1 := told1_any w.heap.size q r m _ (hL.below hB0 hL.size) (by simp [go_sem]) (by simp [go_sem]) (by simp [go_sem]) (by simp; omega)
  have ht := tried_str 28 #[.pointer (some ⟨w.heap.size, 0, none⟩)] (w.alloc (.cells #[.int .i64 q, .int .i64 r, .int .i64 m] 43)) (fun x _ => x = (toldS q r m).map fun l => ⟨l.toArray⟩) (fun _ => rfl) (by simpa using h1)
  have Ht := Lib.hid ht
  clear ht h1
  go_enter Tryz.func9, Tryz.ntmps9
  go_wp2_with fail
  refine Ht.out.mono ?_
  rintro e w' ⟨x, w1, hx, rfl, hB⟩
  have Hx := Lib.hid hx
  clear hx
  go_wp2_with fail
  go_ret2
  refine ⟨?_, ((Below.refl _ _).alloc (Nat.le_refl _) _).trans (hB.mono (by simp))⟩
  rw [Hx.out]
  cases toldS q r m <;> rfl
end Go.Proofs.YtogmajeaaabjlaaGreatDoor
