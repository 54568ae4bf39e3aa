/- The contract of answer.Ask: the ask of a line, or that there is none. -/
import Derived.Test.YtogmajeaaabjlaaGreatDoorWords
import Derived.Test.YtogmajeaaabjlaaGreatDoorUnhex
import Derived.Test.YtogmajeaaabjlaaGreatDoorNumber
import Derived.Test.YtogmajeaaabjlaaGreatDoorTriedA
namespace Go.Proofs.YtogmajeaaabjlaaGreatDoor
open Go.RowKit

theorem text_const (x : ByteArray) (l : List UInt8) : (x.toList == l) = decide (x = ⟨l.toArray⟩) := by
  rw [ByteArray.toList_eq]
  by_cases h : x = ⟨l.toArray⟩
  · simp [h]
  · rw [decide_eq_false h, beq_eq_false_iff_ne]
    intro e
    apply h
    cases x
    simp at e
    rw [← e]

/-- answer.unhex, whole -/
theorem unhex_any (s : ByteArray) (w : World) (hL : Laid w) (hs : s.size ≤ 4294967296) :
    Calls Tryz.prog 26 #[.string s] w fun e w' =>
      ((∃ v l, e = .returned v ∧ unhexS s.data.toList = some l ∧ w'.ownsRow w.heap.size 5 1 v l.length (Lib.byteCells l)) ∨ (e = .panicked thrown ∧ unhexS s.data.toList = none)) ∧ Below w.heap.size w w' := by
  by_cases h45 : s.data.toList = [45]
  · obtain rfl : s = ⟨#[45]⟩ := by have := text_const s [45]; rw [ByteArray.toList_eq, h45] at this; simpa using this.symm
    refine (unhex_dash w).mono ?_
    rintro e w' ⟨rfl, rfl⟩
    exact ⟨.inl ⟨_, [], rfl, rfl, by simp [Lib.byteCells], .inl ⟨rfl, rfl⟩⟩, Below.refl _ _⟩
  · have h45' : (s.toList == [45]) = false := by rw [ByteArray.toList_eq]; simpa using h45
    by_cases ho : s.data.toList = [] ∨ s.data.toList.length % 2 = 1
    · have hu : unhexS s.data.toList = none := by unfold unhexS; rw [if_neg h45, if_pos ho]
      refine (unhex_odd s w h45' (by simpa using ho)).mono ?_
      rintro e w' ⟨rfl, rfl⟩
      exact ⟨.inr ⟨rfl, hu⟩, Below.refl _ _⟩
    · have hu : unhexS s.data.toList = unp s.data.toList := by unfold unhexS; rw [if_neg h45, if_neg ho]
      rw [hu]
      have h2 : s.size % 2 = 0 := by
        have : ¬ s.data.toList.length % 2 = 1 := fun h => ho (.inr h)
        have e : s.data.toList.length = s.size := by simp
        omega
      exact unhex_even s w hL h45' (fun h => ho (.inl h)) h2 hs

/-- The ask of a line: its kind, its bytes, its number. -/
def askW : List ByteArray → Option (Int × List UInt8 × Int)
  | [x, y] => if x = ⟨#[98, 108, 111, 99, 107]⟩ then (unhexS y.data.toList).map fun l => (1, l, 0)
    else if x = ⟨#[116, 120]⟩ then (unhexS y.data.toList).map fun l => (2, l, 0)
    else if x = ⟨#[116, 105, 99, 107]⟩ then (numS y.data.toList).map fun n => (3, [], (n : Int))
    else none
  | _ => none
def askS (s : ByteArray) : Option (Int × List UInt8 × Int) := if 0 ≤ idxFrom ⟨#[]⟩ 0 (splitSp s) then none else askW (splitSp s)

/-- The three cells are those of an ask whose bytes the call has made. -/
def AskIs (B : Nat) (o : Option (Int × List UInt8 × Int)) (r : Option (Value × Value × Value)) (w : World) : Prop :=
  match o, r with
  | none, none => True
  | some (k, l, y), some (a, v, b) => a = .int .i64 k ∧ b = .int .i64 y ∧ w.ownsRow B 5 1 v l.length (Lib.byteCells l)
  | _, _ => False

theorem slice_of_own {w : World} {B n : Nat} {v : Value} {xs : List Value} (h : w.ownsRow B 5 1 v n xs) : ∃ a c, v = .slice a n c := by
  rcases h.2 with ⟨rfl, rfl⟩ | ⟨g, cap, cur, rfl, _⟩
  · exact ⟨_, _, rfl⟩
  · exact ⟨_, _, rfl⟩

/-- What the closure of answer.Ask comes to. -/
def AskCame (o : Option (Int × List UInt8 × Int)) (w : World) (e : Ending) (w' : World) : Prop :=
  ((∃ k0 a0 n0 c0 y0, e = .returned (.agg #[.int .i64 k0, .slice a0 n0 c0, .int .i64 y0]) ∧ AskIs w.heap.size o (some (.int .i64 k0, .slice a0 n0 c0, .int .i64 y0)) w') ∨ (e = .panicked thrown ∧ AskIs w.heap.size o none w')) ∧ Below w.heap.size w w'

set_option maxHeartbeats 1000000 in
set_option maxRecDepth 100000 in
theorem ask1_block (b : Nat) (s : ByteArray) (y : ByteArray) (w : World) (hL : Laid w) (h0 : w.cell? ⟨b, 0, none⟩ = some (.string s)) (hb : b < w.heap.size) (hs : s.size ≤ 4294967000) (hy : y.size ≤ 4294967296)
    (hw : splitSp s = [⟨#[98, 108, 111, 99, 107]⟩, y]) (hm : ⟨#[]⟩ ∉ splitSp s) :
    Calls Tryz.prog 24 #[.pointer (some ⟨b, 0, none⟩)] w (AskCame ((unhexS y.data.toList).map fun l => (1, l, 0)) w) := by
  have hwd := words_any s (w.alloc (.cells #[.int .i64 0, .slice none 0 0, .int .i64 0] 34)) (hL.below ((Below.refl _ _).alloc (Nat.le_refl _) _) hL.size) hs
  have hB0 : Below w.heap.size w (w.alloc (.cells #[.int .i64 0, .slice none 0 0, .int .i64 0] 34)) := (Below.refl _ _).alloc (Nat.le_refl _) _
  have Hwd := Lib.hid hwd
  clear hwd
  have Hw := Lib.hid hw
  have Hm := Lib.hid hm
  clear hw hm
  go_enter Tryz.func24, Tryz.ntmps24
  go_wp2_with fail
  refine Hwd.out.mono ?_
  rintro e w1 ⟨⟨v, rfl, hv, _⟩ | ⟨_, hbad⟩, hB⟩
  · rw [Hw.out] at hv
    obtain ⟨bs, off, cap, c, fz, rfl, hc, hj⟩ := hv
    have c0 : w1.cell? ⟨bs, off, none⟩ = some (.string ⟨#[98, 108, 111, 99, 107]⟩) := by have := hj 0 (by simp); rw [Lib.cell_of_heap hc]; simpa using this
    have c1 : w1.cell? ⟨bs, off + 1, none⟩ = some (.string y) := by have := hj 1 (by simp); rw [Lib.cell_of_heap hc]; simpa using this
    clear hc hj
    have hB1 : Below w.heap.size w w1 := hB0.trans (hB.mono (by simp))
    have r0 : w1.cell? ⟨w.heap.size, 0, none⟩ = some (.int .i64 0) := by rw [hB.cell (by simp)]; simp [go_sem]
    have r1 : w1.cell? ⟨w.heap.size, 1, none⟩ = some (.slice none 0 0) := by rw [hB.cell (by simp)]; simp [go_sem]
    have r2 : w1.cell? ⟨w.heap.size, 2, none⟩ = some (.int .i64 0) := by rw [hB.cell (by simp)]; simp [go_sem]
    have z0 : w1.frozen? ⟨w.heap.size, 0, none⟩ = false := by rw [hB.frozen (by simp)]; simp [go_sem]
    have z1 : w1.frozen? ⟨w.heap.size, 1, none⟩ = false := by rw [hB.frozen (by simp)]; simp [go_sem]
    have z2 : w1.frozen? ⟨w.heap.size, 2, none⟩ = false := by rw [hB.frozen (by simp)]; simp [go_sem]
    have hs1 : w.heap.size < w1.heap.size := by have := hB.size; simp at this; omega
    go_wp2_with fail
    refine (must_t _).mono ?_; rintro e w' ⟨rfl, rfl⟩
    go_wp2_with fail
    refine (unhex_any y w1 (hL.below hB1 hL.size) hy).mono ?_
    rintro e w2 ⟨⟨v, l, rfl, hu, hown⟩ | ⟨rfl, hu⟩, hB2⟩
    · obtain ⟨a0, cc, rfl⟩ := slice_of_own hown
      have Hu := Lib.hid hu
      have Hown := Lib.hid hown
      clear hu hown
      have q0 : w2.cell? ⟨w.heap.size, 0, none⟩ = some (.int .i64 0) := by rw [hB2.cell hs1]; exact r0
      have q1 : w2.cell? ⟨w.heap.size, 1, none⟩ = some (.slice none 0 0) := by rw [hB2.cell hs1]; exact r1
      have q2 : w2.cell? ⟨w.heap.size, 2, none⟩ = some (.int .i64 0) := by rw [hB2.cell hs1]; exact r2
      have y0 : w2.frozen? ⟨w.heap.size, 0, none⟩ = false := by rw [hB2.frozen hs1]; exact z0
      have y1 : w2.frozen? ⟨w.heap.size, 1, none⟩ = false := by rw [hB2.frozen hs1]; exact z1
      have y2 : w2.frozen? ⟨w.heap.size, 2, none⟩ = false := by rw [hB2.frozen hs1]; exact z2
      have hown' : ((((w2.setCell ⟨w.heap.size, 0, none⟩ (.int .i64 1)).setCell ⟨w.heap.size, 1, none⟩ (.slice a0 l.length cc)).setCell ⟨w.heap.size, 2, none⟩ (.int .i64 0))).ownsRow w.heap.size 5 1 (.slice a0 l.length cc) l.length (Lib.byteCells l) := by
        have hne : (Value.slice a0 l.length cc).ownBlock ≠ some w.heap.size := by
          rcases Hown.out.2 with ⟨h, _⟩ | ⟨g, cap, cur, h, hg, _⟩
          · rw [h]; simp [Value.ownBlock]
          · rw [h]; simp [Value.ownBlock]; omega
        have o1 := ownsRow_setCell_other (a := ⟨w.heap.size, 0, none⟩) Hown.out hne (.int .i64 1)
        have o2 := ownsRow_setCell_other (a := ⟨w.heap.size, 1, none⟩) o1 hne (.slice a0 l.length cc)
        have o3 := ownsRow_setCell_other (a := ⟨w.heap.size, 2, none⟩) o2 hne (.int .i64 0)
        obtain ⟨h1, h2⟩ := o3
        refine ⟨h1, h2.imp_right ?_⟩
        rintro ⟨g, cap, cur, h, hg, r⟩
        exact ⟨g, cap, cur, h, by omega, r⟩
      have Hown' := Lib.hid hown'
      clear hown'
      go_wp2_with fail
      refine bodyPost_ret (v := .agg #[.int .i64 1, .slice a0 l.length cc, .int .i64 0]) (by simp [results, Tryz.results24, go_sem, q0, q1, q2]) rfl ⟨.inl ⟨_, _, _, _, _, rfl, ?_⟩, ?_⟩
      · rw [Hu.out]; exact ⟨rfl, rfl, Hown'.out⟩
      · exact (((hB1.trans (hB2.mono (by omega))).setCell (p := ⟨w.heap.size, 0, none⟩) (Nat.le_refl _) _).setCell (p := ⟨w.heap.size, 1, none⟩) (Nat.le_refl _) _).setCell (p := ⟨w.heap.size, 2, none⟩) (Nat.le_refl _) _
    · have Hu := Lib.hid hu
      clear hu
      go_wp2_with fail
      exact ⟨rfl, .inr ⟨rfl, by rw [Hu.out]; trivial⟩, hB1.trans (hB2.mono (by omega))⟩
  · exact absurd hbad Hm.out

set_option maxHeartbeats 1000000 in
set_option maxRecDepth 100000 in
theorem ask1_tx (b : Nat) (s : ByteArray) (y : ByteArray) (w : World) (hL : Laid w) (h0 : w.cell? ⟨b, 0, none⟩ = some (.string s)) (hb : b < w.heap.size) (hs : s.size ≤ 4294967000) (hy : y.size ≤ 4294967296)
    (hw : splitSp s = [⟨#[116, 120]⟩, y]) (hm : ⟨#[]⟩ ∉ splitSp s) :
    Calls Tryz.prog 24 #[.pointer (some ⟨b, 0, none⟩)] w (AskCame ((unhexS y.data.toList).map fun l => (2, l, 0)) w) := by
  have hwd := words_any s (w.alloc (.cells #[.int .i64 0, .slice none 0 0, .int .i64 0] 34)) (hL.below ((Below.refl _ _).alloc (Nat.le_refl _) _) hL.size) hs
  have hB0 : Below w.heap.size w (w.alloc (.cells #[.int .i64 0, .slice none 0 0, .int .i64 0] 34)) := (Below.refl _ _).alloc (Nat.le_refl _) _
  have Hwd := Lib.hid hwd
  clear hwd
  have Hw := Lib.hid hw
  have Hm := Lib.hid hm
  clear hw hm
  go_enter Tryz.func24, Tryz.ntmps24
  go_wp2_with fail
  refine Hwd.out.mono ?_
  rintro e w1 ⟨⟨v, rfl, hv, _⟩ | ⟨_, hbad⟩, hB⟩
  · rw [Hw.out] at hv
    obtain ⟨bs, off, cap, c, fz, rfl, hc, hj⟩ := hv
    have c0 : w1.cell? ⟨bs, off, none⟩ = some (.string ⟨#[116, 120]⟩) := by have := hj 0 (by simp); rw [Lib.cell_of_heap hc]; simpa using this
    have c1 : w1.cell? ⟨bs, off + 1, none⟩ = some (.string y) := by have := hj 1 (by simp); rw [Lib.cell_of_heap hc]; simpa using this
    clear hc hj
    have hB1 : Below w.heap.size w w1 := hB0.trans (hB.mono (by simp))
    have r0 : w1.cell? ⟨w.heap.size, 0, none⟩ = some (.int .i64 0) := by rw [hB.cell (by simp)]; simp [go_sem]
    have r1 : w1.cell? ⟨w.heap.size, 1, none⟩ = some (.slice none 0 0) := by rw [hB.cell (by simp)]; simp [go_sem]
    have r2 : w1.cell? ⟨w.heap.size, 2, none⟩ = some (.int .i64 0) := by rw [hB.cell (by simp)]; simp [go_sem]
    have z0 : w1.frozen? ⟨w.heap.size, 0, none⟩ = false := by rw [hB.frozen (by simp)]; simp [go_sem]
    have z1 : w1.frozen? ⟨w.heap.size, 1, none⟩ = false := by rw [hB.frozen (by simp)]; simp [go_sem]
    have z2 : w1.frozen? ⟨w.heap.size, 2, none⟩ = false := by rw [hB.frozen (by simp)]; simp [go_sem]
    have hs1 : w.heap.size < w1.heap.size := by have := hB.size; simp at this; omega
    go_wp2_with fail
    refine (must_t _).mono ?_; rintro e w' ⟨rfl, rfl⟩
    go_wp2_with fail
    refine (unhex_any y w1 (hL.below hB1 hL.size) hy).mono ?_
    rintro e w2 ⟨⟨v, l, rfl, hu, hown⟩ | ⟨rfl, hu⟩, hB2⟩
    · obtain ⟨a0, cc, rfl⟩ := slice_of_own hown
      have Hu := Lib.hid hu
      have Hown := Lib.hid hown
      clear hu hown
      have q0 : w2.cell? ⟨w.heap.size, 0, none⟩ = some (.int .i64 0) := by rw [hB2.cell hs1]; exact r0
      have q1 : w2.cell? ⟨w.heap.size, 1, none⟩ = some (.slice none 0 0) := by rw [hB2.cell hs1]; exact r1
      have q2 : w2.cell? ⟨w.heap.size, 2, none⟩ = some (.int .i64 0) := by rw [hB2.cell hs1]; exact r2
      have y0 : w2.frozen? ⟨w.heap.size, 0, none⟩ = false := by rw [hB2.frozen hs1]; exact z0
      have y1 : w2.frozen? ⟨w.heap.size, 1, none⟩ = false := by rw [hB2.frozen hs1]; exact z1
      have y2 : w2.frozen? ⟨w.heap.size, 2, none⟩ = false := by rw [hB2.frozen hs1]; exact z2
      have hown' : ((((w2.setCell ⟨w.heap.size, 0, none⟩ (.int .i64 2)).setCell ⟨w.heap.size, 1, none⟩ (.slice a0 l.length cc)).setCell ⟨w.heap.size, 2, none⟩ (.int .i64 0))).ownsRow w.heap.size 5 1 (.slice a0 l.length cc) l.length (Lib.byteCells l) := by
        have hne : (Value.slice a0 l.length cc).ownBlock ≠ some w.heap.size := by
          rcases Hown.out.2 with ⟨h, _⟩ | ⟨g, cap, cur, h, hg, _⟩
          · rw [h]; simp [Value.ownBlock]
          · rw [h]; simp [Value.ownBlock]; omega
        have o1 := ownsRow_setCell_other (a := ⟨w.heap.size, 0, none⟩) Hown.out hne (.int .i64 2)
        have o2 := ownsRow_setCell_other (a := ⟨w.heap.size, 1, none⟩) o1 hne (.slice a0 l.length cc)
        have o3 := ownsRow_setCell_other (a := ⟨w.heap.size, 2, none⟩) o2 hne (.int .i64 0)
        obtain ⟨h1, h2⟩ := o3
        refine ⟨h1, h2.imp_right ?_⟩
        rintro ⟨g, cap, cur, h, hg, r⟩
        exact ⟨g, cap, cur, h, by omega, r⟩
      have Hown' := Lib.hid hown'
      clear hown'
      go_wp2_with fail
      refine bodyPost_ret (v := .agg #[.int .i64 2, .slice a0 l.length cc, .int .i64 0]) (by simp [results, Tryz.results24, go_sem, q0, q1, q2]) rfl ⟨.inl ⟨_, _, _, _, _, rfl, ?_⟩, ?_⟩
      · rw [Hu.out]; exact ⟨rfl, rfl, Hown'.out⟩
      · exact (((hB1.trans (hB2.mono (by omega))).setCell (p := ⟨w.heap.size, 0, none⟩) (Nat.le_refl _) _).setCell (p := ⟨w.heap.size, 1, none⟩) (Nat.le_refl _) _).setCell (p := ⟨w.heap.size, 2, none⟩) (Nat.le_refl _) _
    · have Hu := Lib.hid hu
      clear hu
      go_wp2_with fail
      exact ⟨rfl, .inr ⟨rfl, by rw [Hu.out]; trivial⟩, hB1.trans (hB2.mono (by omega))⟩
  · exact absurd hbad Hm.out

set_option maxHeartbeats 1000000 in
set_option maxRecDepth 100000 in
theorem ask1_tick (b : Nat) (s : ByteArray) (y : ByteArray) (w : World) (hL : Laid w) (h0 : w.cell? ⟨b, 0, none⟩ = some (.string s)) (hb : b < w.heap.size) (hs : s.size ≤ 4294967000) (hy : y.size ≤ 4294967296)
    (hw : splitSp s = [⟨#[116, 105, 99, 107]⟩, y]) (hm : ⟨#[]⟩ ∉ splitSp s) :
    Calls Tryz.prog 24 #[.pointer (some ⟨b, 0, none⟩)] w (AskCame ((numS y.data.toList).map fun n => (3, [], (n : Int))) w) := by
  have hwd := words_any s (w.alloc (.cells #[.int .i64 0, .slice none 0 0, .int .i64 0] 34)) (hL.below ((Below.refl _ _).alloc (Nat.le_refl _) _) hL.size) hs
  have hB0 : Below w.heap.size w (w.alloc (.cells #[.int .i64 0, .slice none 0 0, .int .i64 0] 34)) := (Below.refl _ _).alloc (Nat.le_refl _) _
  have Hwd := Lib.hid hwd
  clear hwd
  have Hw := Lib.hid hw
  have Hm := Lib.hid hm
  clear hw hm
  go_enter Tryz.func24, Tryz.ntmps24
  go_wp2_with fail
  refine Hwd.out.mono ?_
  rintro e w1 ⟨⟨v, rfl, hv, _⟩ | ⟨_, hbad⟩, hB⟩
  · rw [Hw.out] at hv
    obtain ⟨bs, off, cap, c, fz, rfl, hc, hj⟩ := hv
    have c0 : w1.cell? ⟨bs, off, none⟩ = some (.string ⟨#[116, 105, 99, 107]⟩) := by have := hj 0 (by simp); rw [Lib.cell_of_heap hc]; simpa using this
    have c1 : w1.cell? ⟨bs, off + 1, none⟩ = some (.string y) := by have := hj 1 (by simp); rw [Lib.cell_of_heap hc]; simpa using this
    clear hc hj
    have hB1 : Below w.heap.size w w1 := hB0.trans (hB.mono (by simp))
    have r0 : w1.cell? ⟨w.heap.size, 0, none⟩ = some (.int .i64 0) := by rw [hB.cell (by simp)]; simp [go_sem]
    have r1 : w1.cell? ⟨w.heap.size, 1, none⟩ = some (.slice none 0 0) := by rw [hB.cell (by simp)]; simp [go_sem]
    have r2 : w1.cell? ⟨w.heap.size, 2, none⟩ = some (.int .i64 0) := by rw [hB.cell (by simp)]; simp [go_sem]
    have z0 : w1.frozen? ⟨w.heap.size, 0, none⟩ = false := by rw [hB.frozen (by simp)]; simp [go_sem]
    have z1 : w1.frozen? ⟨w.heap.size, 1, none⟩ = false := by rw [hB.frozen (by simp)]; simp [go_sem]
    have z2 : w1.frozen? ⟨w.heap.size, 2, none⟩ = false := by rw [hB.frozen (by simp)]; simp [go_sem]
    have hs1 : w.heap.size < w1.heap.size := by have := hB.size; simp at this; omega
    go_wp2_with fail
    refine (must_t _).mono ?_; rintro e w' ⟨rfl, rfl⟩
    go_wp2_with fail
    refine (must_t _).mono ?_; rintro e w' ⟨rfl, rfl⟩
    go_wp2_with fail
    refine (number_any y w1 (hL.below hB1 hL.size) hy).mono ?_
    rintro e w2 ⟨⟨n, rfl, hu, hn⟩ | ⟨rfl, hu⟩, hB2⟩
    · have Hu := Lib.hid hu
      clear hu
      have q0 : w2.cell? ⟨w.heap.size, 0, none⟩ = some (.int .i64 0) := by rw [hB2.cell hs1]; exact r0
      have q1 : w2.cell? ⟨w.heap.size, 1, none⟩ = some (.slice none 0 0) := by rw [hB2.cell hs1]; exact r1
      have q2 : w2.cell? ⟨w.heap.size, 2, none⟩ = some (.int .i64 0) := by rw [hB2.cell hs1]; exact r2
      have y0 : w2.frozen? ⟨w.heap.size, 0, none⟩ = false := by rw [hB2.frozen hs1]; exact z0
      have y1 : w2.frozen? ⟨w.heap.size, 1, none⟩ = false := by rw [hB2.frozen hs1]; exact z1
      have y2 : w2.frozen? ⟨w.heap.size, 2, none⟩ = false := by rw [hB2.frozen hs1]; exact z2
      go_wp2_with fail
      refine bodyPost_ret (v := .agg #[.int .i64 3, .slice none 0 0, .int .i64 n]) (by simp [results, Tryz.results24, go_sem, q0, q1, q2]) rfl ⟨.inl ⟨_, _, _, _, _, rfl, ?_⟩, ?_⟩
      · rw [Hu.out]; exact ⟨rfl, rfl, by simp [Lib.byteCells], .inl ⟨rfl, rfl⟩⟩
      · exact (((hB1.trans (hB2.mono (by omega))).setCell (p := ⟨w.heap.size, 0, none⟩) (Nat.le_refl _) _).setCell (p := ⟨w.heap.size, 1, none⟩) (Nat.le_refl _) _).setCell (p := ⟨w.heap.size, 2, none⟩) (Nat.le_refl _) _
    · have Hu := Lib.hid hu
      clear hu
      go_wp2_with fail
      exact ⟨rfl, .inr ⟨rfl, by rw [Hu.out]; trivial⟩, hB1.trans (hB2.mono (by omega))⟩
  · exact absurd hbad Hm.out

set_option maxHeartbeats 1000000 in
set_option maxRecDepth 100000 in
/-- two words, the first of which is none of the three -/
theorem ask1_other (b : Nat) (s : ByteArray) (x y : ByteArray) (w : World) (hL : Laid w) (h0 : w.cell? ⟨b, 0, none⟩ = some (.string s)) (hb : b < w.heap.size) (hs : s.size ≤ 4294967000)
    (hw : splitSp s = [x, y]) (hm : ⟨#[]⟩ ∉ splitSp s) (n1 : ¬ x = ⟨#[98, 108, 111, 99, 107]⟩) (n2 : ¬ x = ⟨#[116, 120]⟩) (n3 : ¬ x = ⟨#[116, 105, 99, 107]⟩) :
    Calls Tryz.prog 24 #[.pointer (some ⟨b, 0, none⟩)] w (AskCame none w) := by
  have hwd := words_any s (w.alloc (.cells #[.int .i64 0, .slice none 0 0, .int .i64 0] 34)) (hL.below ((Below.refl _ _).alloc (Nat.le_refl _) _) hL.size) hs
  have hB0 : Below w.heap.size w (w.alloc (.cells #[.int .i64 0, .slice none 0 0, .int .i64 0] 34)) := (Below.refl _ _).alloc (Nat.le_refl _) _
  have Hwd := Lib.hid hwd
  clear hwd
  have t1 : (x.toList == [98, 108, 111, 99, 107]) = false := by rw [text_const]; exact decide_eq_false n1
  have t2 : (x.toList == [116, 120]) = false := by rw [text_const]; exact decide_eq_false n2
  have t3 : (x.toList == [116, 105, 99, 107]) = false := by rw [text_const]; exact decide_eq_false n3
  have Hw := Lib.hid hw
  have Hm := Lib.hid hm
  clear hw hm n1 n2 n3
  go_enter Tryz.func24, Tryz.ntmps24
  go_wp2_with fail
  refine Hwd.out.mono ?_
  rintro e w1 ⟨⟨v, rfl, hv, _⟩ | ⟨_, hbad⟩, hB⟩
  · rw [Hw.out] at hv
    obtain ⟨bs, off, cap, c, fz, rfl, hc, hj⟩ := hv
    have c0 : w1.cell? ⟨bs, off, none⟩ = some (.string x) := by have := hj 0 (by simp); rw [Lib.cell_of_heap hc]; simpa using this
    have c1 : w1.cell? ⟨bs, off + 1, none⟩ = some (.string y) := by have := hj 1 (by simp); rw [Lib.cell_of_heap hc]; simpa using this
    clear hc hj
    have hB1 : Below w.heap.size w w1 := hB0.trans (hB.mono (by simp))
    have r0 : w1.cell? ⟨w.heap.size, 0, none⟩ = some (.int .i64 0) := by rw [hB.cell (by simp)]; simp [go_sem]
    have r1 : w1.cell? ⟨w.heap.size, 1, none⟩ = some (.slice none 0 0) := by rw [hB.cell (by simp)]; simp [go_sem]
    have r2 : w1.cell? ⟨w.heap.size, 2, none⟩ = some (.int .i64 0) := by rw [hB.cell (by simp)]; simp [go_sem]
    have z0 : w1.frozen? ⟨w.heap.size, 0, none⟩ = false := by rw [hB.frozen (by simp)]; simp [go_sem]
    have z1 : w1.frozen? ⟨w.heap.size, 1, none⟩ = false := by rw [hB.frozen (by simp)]; simp [go_sem]
    have z2 : w1.frozen? ⟨w.heap.size, 2, none⟩ = false := by rw [hB.frozen (by simp)]; simp [go_sem]
    have hs1 : w.heap.size < w1.heap.size := by have := hB.size; simp at this; omega
    go_wp2_with fail
    refine (must_t _).mono ?_; rintro e w' ⟨rfl, rfl⟩
    go_wp2_with fail
    refine (must_f _).mono ?_; rintro e w' ⟨rfl, rfl⟩
    go_wp2_with fail
    exact ⟨rfl, .inr ⟨rfl, trivial⟩, hB1⟩
  · exact absurd hbad Hm.out

set_option maxHeartbeats 1000000 in
set_option maxRecDepth 100000 in
/-- not two words -/
theorem ask1_many (b : Nat) (s : ByteArray) (w : World) (hL : Laid w) (h0 : w.cell? ⟨b, 0, none⟩ = some (.string s)) (hb : b < w.heap.size) (hs : s.size ≤ 4294967000)
    (hw : (splitSp s).length ≠ 2) (hm : ⟨#[]⟩ ∉ splitSp s) :
    Calls Tryz.prog 24 #[.pointer (some ⟨b, 0, none⟩)] w (AskCame none w) := by
  have hwd := words_any s (w.alloc (.cells #[.int .i64 0, .slice none 0 0, .int .i64 0] 34)) (hL.below ((Below.refl _ _).alloc (Nat.le_refl _) _) hL.size) hs
  have hB0 : Below w.heap.size w (w.alloc (.cells #[.int .i64 0, .slice none 0 0, .int .i64 0] 34)) := (Below.refl _ _).alloc (Nat.le_refl _) _
  have Hwd := Lib.hid hwd
  clear hwd
  have h2 : (((splitSp s).length : Int) == 2) = false := by simp; omega
  have Hm := Lib.hid hm
  clear hw hm
  go_enter Tryz.func24, Tryz.ntmps24
  go_wp2_with fail
  refine Hwd.out.mono ?_
  rintro e w1 ⟨⟨v, rfl, hv, _⟩ | ⟨_, hbad⟩, hB⟩
  · obtain ⟨bs, off, cap, c, fz, rfl, hc, hj⟩ := hv
    clear hc hj
    have hB1 : Below w.heap.size w w1 := hB0.trans (hB.mono (by simp))
    go_wp2_with fail
    refine (must_f _).mono ?_; rintro e w' ⟨rfl, rfl⟩
    go_wp2_with fail
    exact ⟨rfl, .inr ⟨rfl, trivial⟩, hB1⟩
  · exact absurd hbad Hm.out

set_option maxHeartbeats 1000000 in
set_option maxRecDepth 100000 in
/-- an empty word -/
theorem ask1_blank (b : Nat) (s : ByteArray) (w : World) (hL : Laid w) (h0 : w.cell? ⟨b, 0, none⟩ = some (.string s)) (hb : b < w.heap.size) (hs : s.size ≤ 4294967000)
    (hm : ⟨#[]⟩ ∈ splitSp s) :
    Calls Tryz.prog 24 #[.pointer (some ⟨b, 0, none⟩)] w (AskCame none w) := by
  have hwd := words_any s (w.alloc (.cells #[.int .i64 0, .slice none 0 0, .int .i64 0] 34)) (hL.below ((Below.refl _ _).alloc (Nat.le_refl _) _) hL.size) hs
  have hB0 : Below w.heap.size w (w.alloc (.cells #[.int .i64 0, .slice none 0 0, .int .i64 0] 34)) := (Below.refl _ _).alloc (Nat.le_refl _) _
  have Hwd := Lib.hid hwd
  clear hwd
  have Hm := Lib.hid hm
  clear hm
  go_enter Tryz.func24, Tryz.ntmps24
  go_wp2_with fail
  refine Hwd.out.mono ?_
  rintro e w1 ⟨⟨v, rfl, _, hbad⟩ | ⟨rfl, _⟩, hB⟩
  · exact absurd Hm.out hbad.1
  · have hB1 : Below w.heap.size w w1 := hB0.trans (hB.mono (by simp))
    go_wp2_with fail
    exact ⟨rfl, .inr ⟨rfl, trivial⟩, hB1⟩

theorem splitB_size (sep : ByteArray) : ∀ (k : Nat) (s x : ByteArray), x ∈ Lib.splitB sep 0 k s → x.size ≤ s.size
  | 0, s, x, h => by
    simp [Lib.splitB] at h
    rw [h]
    exact Nat.le_refl _
  | k + 1, s, x, h => by
    unfold Lib.splitB at h
    split at h
    · simp at h
      rw [h]
      exact Nat.le_refl _
    · rcases List.mem_cons.1 h with h | h
      · rw [h, ByteArray.size_extract]; omega
      · have := splitB_size sep k _ x h
        rw [ByteArray.size_extract] at this
        omega
theorem splitSp_size (s x : ByteArray) (h : x ∈ splitSp s) : x.size ≤ s.size := splitB_size _ _ _ _ h

theorem ask1_any (b : Nat) (s : ByteArray) (w : World) (hL : Laid w) (h0 : w.cell? ⟨b, 0, none⟩ = some (.string s)) (hb : b < w.heap.size) (hs : s.size ≤ 4294967000) :
    Calls Tryz.prog 24 #[.pointer (some ⟨b, 0, none⟩)] w (AskCame (askS s) w) := by
  by_cases hm : ⟨#[]⟩ ∈ splitSp s
  · rw [show askS s = none by unfold askS; rw [if_pos (by rw [idxFrom_neg]; exact hm)]]
    exact ask1_blank b s w hL h0 hb hs hm
  · rw [show askS s = askW (splitSp s) by unfold askS; rw [if_neg (by rw [idxFrom_neg]; exact hm)]]
    by_cases h2 : (splitSp s).length = 2
    · obtain ⟨x, y, hw⟩ : ∃ x y, splitSp s = [x, y] := by
        match h : splitSp s, h2 with
        | [x, y], _ => exact ⟨x, y, rfl⟩
      have hy : y.size ≤ 4294967296 := by have := splitSp_size s y (by rw [hw]; simp); omega
      rw [hw] 
      simp only [askW]
      by_cases n1 : x = ⟨#[98, 108, 111, 99, 107]⟩
      · rw [if_pos n1]; subst n1; exact ask1_block b s y w hL h0 hb hs hy hw hm
      · rw [if_neg n1]
        by_cases n2 : x = ⟨#[116, 120]⟩
        · rw [if_pos n2]; subst n2; exact ask1_tx b s y w hL h0 hb hs hy hw hm
        · rw [if_neg n2]
          by_cases n3 : x = ⟨#[116, 105, 99, 107]⟩
          · rw [if_pos n3]; subst n3; exact ask1_tick b s y w hL h0 hb hs hy hw hm
          · rw [if_neg n3]; exact ask1_other b s x y w hL h0 hb hs hw hm n1 n2 n3
    · rw [show askW (splitSp s) = none by
        unfold askW
        split
        · rename_i h; rw [h] at h2; simp at h2
        · rfl]
      exact ask1_many b s w hL h0 hb hs h2 hm

/-- What answer.Ask hands back for a line: the ask and true, or nothing and false; its bytes are the call's own. -/
def AskTells (B : Nat) (o : Option (Int × List UInt8 × Int)) (e : Ending) (w : World) : Prop :=
  match o with
  | some (k, l, y) => ∃ v, e = .returned (.tuple #[.agg #[.int .i64 k, v, .int .i64 y], .bool true]) ∧ w.ownsRow B 5 1 v l.length (Lib.byteCells l)
  | none => e = .returned (.tuple #[.agg #[.int .i64 0, .slice none 0 0, .int .i64 0], .bool false])

set_option maxHeartbeats 1000000 in
set_option maxRecDepth 100000 in
/-- answer.Ask -/
theorem ask_any (s : ByteArray) (w : World) (hL : Laid w) (hs : s.size ≤ 4294967000) :
    Calls Tryz.prog 8 #[.string s] w fun e w' => AskTells w.heap.size (askS s) e w' ∧ Below w.heap.size w w' := by
  have hmf := run_makeFunc
  have hB0 : Below w.heap.size w ((((w.alloc (.cells #[.string s] 9)).alloc (.cells #[.int .i64 0, .slice none 0 0, .int .i64 0] 34)).alloc (.cells #[.int .i64 0, .slice none 0 0, .int .i64 0] 34)).alloc (.cells #[.bool false] 4)) :=
    ((((Below.refl _ _).alloc (Nat.le_refl _) _).alloc (by simp) _).alloc (by simp; omega) _).alloc (by simp; omega) _
  have h1 := ask1_any w.heap.size s _ (hL.below hB0 hL.size) (by simp [go_sem]) (by simp; omega) hs
  have ht := tried_ask 24 #[.pointer (some ⟨w.heap.size, 0, none⟩)] ((w.alloc (.cells #[.string s] 9)).alloc (.cells #[.int .i64 0, .slice none 0 0, .int .i64 0] 34)) (fun r w1 => AskIs (w.heap.size + 4) (askS s) r w1) (fun _ => rfl) (by refine h1.mono fun e w' h => ?_; simpa [AskCame] using h)
  have Ht := Lib.hid ht
  clear ht h1
  go_enter Tryz.func8, Tryz.ntmps8
  go_wp2_with fail
  refine Ht.out.mono ?_
  rintro e w' ⟨r, w1, hx, rfl, hB, hB1, hsz, hk⟩
  have hBw : Below w.heap.size w w' := (((Below.refl _ _).alloc (Nat.le_refl _) _).alloc (by simp) _).trans (hB.mono (by simp; omega))
  have r0 : w'.cell? ⟨w.heap.size + 1, 0, none⟩ = some (.int .i64 0) := by rw [hB.cell (by simp)]; simp [go_sem]
  have r1 : w'.cell? ⟨w.heap.size + 1, 1, none⟩ = some (.slice none 0 0) := by rw [hB.cell (by simp)]; simp [go_sem]
  have r2 : w'.cell? ⟨w.heap.size + 1, 2, none⟩ = some (.int .i64 0) := by rw [hB.cell (by simp)]; simp [go_sem]
  have z0 : w'.frozen? ⟨w.heap.size + 1, 0, none⟩ = false := by rw [hB.frozen (by simp)]; simp [go_sem]
  have z1 : w'.frozen? ⟨w.heap.size + 1, 1, none⟩ = false := by rw [hB.frozen (by simp)]; simp [go_sem]
  have z2 : w'.frozen? ⟨w.heap.size + 1, 2, none⟩ = false := by rw [hB.frozen (by simp)]; simp [go_sem]
  have hs1 : w.heap.size + 1 < w'.heap.size := by have := hB.size; simp at this; omega
  have HK := Lib.hid hk
  clear hk hB hB1
  generalize ho : askS s = o at hx
  have Ho := Lib.hid ho
  clear ho
  cases o with
  | none =>
    cases r with
    | some r => exact hx.elim
    | none =>
      simp only [agg_ask, Option.isSome]
      go_wp2_with fail
      refine bodyPost_ret (v := .tuple #[.agg #[.int .i64 0, .slice none 0 0, .int .i64 0], .bool false]) (by simp [results, Tryz.results8, go_sem, r0, r1, r2]) rfl ⟨by rw [Ho.out]; rfl, ?_⟩
      exact ((hBw.setCell (p := ⟨w.heap.size + 1, 0, none⟩) (by simp) _).setCell (p := ⟨w.heap.size + 1, 1, none⟩) (by simp) _).setCell (p := ⟨w.heap.size + 1, 2, none⟩) (by simp) _
  | some o =>
    obtain ⟨k, l, y⟩ := o
    cases r with
    | none => exact hx.elim
    | some r =>
      obtain ⟨a, v, b⟩ := r
      obtain ⟨rfl, rfl, hown⟩ := hx
      have hownN : ((((w'.setCell ⟨w.heap.size + 1, 0, none⟩ (.int .i64 k)).setCell ⟨w.heap.size + 1, 1, none⟩ v).setCell ⟨w.heap.size + 1, 2, none⟩ (.int .i64 y))).ownsRow w.heap.size 5 1 v l.length (Lib.byteCells l) := by
        have hne : v.ownBlock ≠ some (w.heap.size + 1) := by
          rcases hown.2 with ⟨h, _⟩ | ⟨g, cap, cur, h, hg, _⟩
          · rw [h]; simp [Value.ownBlock]
          · rw [h]; simp [Value.ownBlock]; omega
        have o0 : w'.ownsRow w.heap.size 5 1 v l.length (Lib.byteCells l) := by
          obtain ⟨h1, h2⟩ := hown
          refine ⟨h1, h2.imp_right ?_⟩
          rintro ⟨g, cap, cur, h, hg, hh, r⟩
          exact ⟨g, cap, cur, h, by omega, by rw [HK.out g (by simp; omega) (lt_of_block hh)]; exact hh, r⟩
        have o1 := ownsRow_setCell_other (a := ⟨w.heap.size + 1, 0, none⟩) o0 hne (.int .i64 k)
        have o2 := ownsRow_setCell_other (a := ⟨w.heap.size + 1, 1, none⟩) o1 hne v
        exact ownsRow_setCell_other (a := ⟨w.heap.size + 1, 2, none⟩) o2 hne (.int .i64 y)
      obtain ⟨a0, c0, rfl⟩ := slice_of_own hown
      have HN := Lib.hid hownN
      clear hownN hown
      simp only [agg_ask, Option.isSome]
      go_wp2_with fail
      refine bodyPost_ret (v := .tuple #[.agg #[.int .i64 k, .slice a0 l.length c0, .int .i64 y], .bool true]) (by simp [results, Tryz.results8, go_sem, r0, r1, r2]) rfl ⟨by rw [Ho.out]; exact ⟨_, rfl, HN.out⟩, ?_⟩
      exact ((hBw.setCell (p := ⟨w.heap.size + 1, 0, none⟩) (by simp) _).setCell (p := ⟨w.heap.size + 1, 1, none⟩) (by simp) _).setCell (p := ⟨w.heap.size + 1, 2, none⟩) (by simp) _

end Go.Proofs.YtogmajeaaabjlaaGreatDoor
