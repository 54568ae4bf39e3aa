/- The contracts of slices.Index and slices.Contains at []string, and of answer.words. -/
import Derived.Test.YtogmajeaaabjlaaGreatDoorLine
import Derived.Test.YtogmajeaaabjlaaGreatDoorTried
import Derived.Test.YtogmajeaaabjlaaGreatDoorText
import Derived.Lib.SplitLaws
namespace Go.Proofs.YtogmajeaaabjlaaGreatDoor
open Go.RowKit

/-- The place of the first one that is x, from k on; -1: there is none. -/
def idxFrom (x : ByteArray) : Nat → List ByteArray → Int
  | _, [] => -1
  | k, s :: r => if x = s then (k : Int) else idxFrom x (k + 1) r

theorem bytes_same (x s : ByteArray) : (x.toList == s.toList) = decide (x = s) := by
  rw [ByteArray.toList_eq, ByteArray.toList_eq]
  by_cases h : x = s
  · simp [h]
  · rw [decide_eq_false h, beq_eq_false_iff_ne]
    intro e
    apply h
    cases x; cases s
    simp at e
    rw [e]

set_option maxHeartbeats 1000000 in
theorem index_any (x : ByteArray) (ss : List ByteArray) (v : Value) (w : World) (hv : StrsV w v ss) (hn : ss.length ≤ 140737488355328) :
    Calls Tryz.prog 77 #[v, .string x] w fun e w' => e = .returned (.int .i64 (idxFrom x 0 ss)) ∧ w = w' := by
  obtain ⟨b, off, cap, c, fz, rfl, hc, hj⟩ := hv
  have hcell : ∀ k, k < ss.length → w.cell? ⟨b, off + k, none⟩ = some (.string (ss.getD k ⟨#[]⟩)) := fun k hk => by rw [Lib.cell_of_heap hc]; exact hj k hk
  have Hcell := Lib.hid hcell
  clear hc hj hcell
  go_enter Tryz.func77, Tryz.ntmps77
  go_wp2_with fail
  go_loop [5, 8] (fun _ i => ∃ k : Nat, k ≤ ss.length ∧ i = .int .i64 k ∧ Hid (idxFrom x 0 ss = idxFrom x k (ss.drop k))) (fun _ i => ss.length - (intOf i).toNat)
  case atStart => exact ⟨0, Nat.zero_le _, rfl, rfl⟩
  case round =>
    obtain ⟨k, hk, rfl, hh⟩ := hrel
    by_cases hlt : k < ss.length
    · have hck := Hcell.out k hlt
      have hd : idxFrom x k (ss.drop k) = if x = ss.getD k ⟨#[]⟩ then (k : Int) else idxFrom x (k + 1) (ss.drop (k + 1)) := by
        rw [List.drop_eq_getElem_cons hlt]
        simp [idxFrom, List.getD_eq_getElem?_getD, List.getElem?_eq_getElem hlt]
      generalize ss.getD k ⟨#[]⟩ = s at *
      have hs := bytes_same x s
      by_cases he : x = s
      · rw [if_pos he] at hd
        rw [decide_eq_true he] at hs
        have Hd := Lib.hid (hh.out.trans hd)
        clear hh hd he
        go_wp2_with fail
        go_ret
        exact ⟨by rw [Hd.out]; rfl, rfl⟩
      · rw [if_neg he] at hd
        rw [decide_eq_false he] at hs
        have Hd := Lib.hid (hh.out.trans hd)
        clear hh hd he
        go_wp2_with fail
        exact ⟨⟨k + 1, by omega, by go_num, Hd⟩, by simp [intOf]; omega⟩
    · obtain rfl : k = ss.length := by omega
      have Hd := Lib.hid (hh.out.trans (by rw [List.drop_length]; rfl : _ = -1))
      clear hh
      go_wp2_with fail
      go_ret
      exact ⟨by rw [Hd.out]; rfl, rfl⟩

theorem idxFrom_neg (x : ByteArray) : ∀ (ss : List ByteArray) (k : Nat), (0 ≤ idxFrom x k ss) = (x ∈ ss)
  | [], k => by simp [idxFrom]
  | s :: r, k => by
    simp only [idxFrom, List.mem_cons]
    by_cases h : x = s
    · simp [h]
    · simp only [h, if_false, false_or]; exact idxFrom_neg x r (k + 1)

set_option maxHeartbeats 1000000 in
theorem contains_any (x : ByteArray) (ss : List ByteArray) (v : Value) (w : World) (hv : StrsV w v ss) (hn : ss.length ≤ 140737488355328) :
    Calls Tryz.prog 50 #[v, .string x] w fun e w' => e = .returned (.bool (decide (0 ≤ idxFrom x 0 ss))) ∧ w = w' := by
  have hx := index_any x ss v w hv hn
  generalize idxFrom x 0 ss = i at *
  have Hx := Lib.hid hx
  obtain ⟨b, off, cap, c, fz, rfl, hc, hj⟩ := hv
  clear hc hj hx
  go_enter Tryz.func50, Tryz.ntmps50
  go_wp2_with fail
  refine Hx.out.mono ?_
  rintro e w' ⟨rfl, rfl⟩
  go_wp2_with fail
  go_ret
  exact ⟨rfl, rfl⟩

/-- The words of a line, as strings.Split parts it. -/
def splitSp (s : ByteArray) : List ByteArray := Lib.splitB ⟨#[32]⟩ 0 (Lib.countB s ⟨#[32]⟩) s

theorem splitSp_len (s : ByteArray) : (splitSp s).length = Lib.countB s ⟨#[32]⟩ + 1 := Lib.splitB_all _ (by decide) 0 _ s rfl

set_option maxHeartbeats 1000000 in
/-- answer.words: the words, or none, if one is empty -/
theorem words_any (s : ByteArray) (w : World) (hL : Laid w) (hs : s.size ≤ 4294967000) :
    Calls Tryz.prog 25 #[.string s] w fun e w' =>
      ((∃ v, e = .returned v ∧ StrsV w' v (splitSp s) ∧ ⟨#[]⟩ ∉ splitSp s ∧ ∃ p, v = .slice p (splitSp s).length (splitSp s).length) ∨ (e = .panicked thrown ∧ ⟨#[]⟩ ∈ splitSp s)) ∧ Below w.heap.size w w' := by
  obtain ⟨m, hm⟩ := hL.max
  have hlen := splitSp_len s
  have hcount : Lib.countB s ⟨#[32]⟩ ≤ s.size := Lib.countB_le ⟨#[32]⟩ (by decide) _ s (Nat.le_refl _)
  have hsp : Calls Tryz.prog 49 #[.string s, .string ⟨#[32]⟩] w fun e w' => e = .returned (.slice (some ⟨w.heap.size, 0, none⟩) (splitSp s).length (splitSp s).length) ∧ w' = w.alloc (.cells ((splitSp s).map Value.string).toArray 9) := by
    rw [hlen]
    exact Tryz.strings_Split s ⟨#[32]⟩ m w (by omega) hm (by decide)
  have hll : (splitSp s).length ≤ 4294967296 := by omega
  clear hcount hlen
  generalize splitSp s = ss at *
  have hv : StrsV (w.alloc (.cells (ss.map Value.string).toArray 9)) (.slice (some ⟨w.heap.size, 0, none⟩) ss.length ss.length) ss := strsV_new w _ _ _ rfl
  have hin := idxFrom_neg ⟨#[]⟩ ss 0
  have Hsp := Lib.hid hsp
  have Hv := Lib.hid hv
  clear hsp hv
  by_cases hmem : ⟨#[]⟩ ∈ ss
  · have hd : decide (0 ≤ idxFrom ⟨#[]⟩ 0 ss) = true := by rw [decide_eq_true_eq, hin]; exact hmem
    have hc := contains_any ⟨#[]⟩ ss _ _ Hv.out (by omega)
    rw [hd] at hc
    have Hc := Lib.hid hc
    clear hin hd hc
    go_enter Tryz.func25, Tryz.ntmps25
    go_wp2_with fail
    refine Hsp.out.mono ?_
    rintro e w1 ⟨rfl, rfl⟩
    go_wp2_with fail
    refine Hc.out.mono ?_
    rintro e w2 ⟨rfl, rfl⟩
    go_wp2_with fail
    refine (must_f _).mono ?_; rintro e w' ⟨rfl, rfl⟩
    go_wp2_with fail
    exact ⟨rfl, .inr ⟨rfl, hmem⟩, (Below.refl _ _).alloc (Nat.le_refl _) _⟩
  · have hd : decide (0 ≤ idxFrom ⟨#[]⟩ 0 ss) = false := by rw [decide_eq_false_iff_not, hin]; exact hmem
    have hc := contains_any ⟨#[]⟩ ss _ _ Hv.out (by omega)
    rw [hd] at hc
    have Hc := Lib.hid hc
    have Hm := Lib.hid hmem
    clear hin hd hc hmem
    go_enter Tryz.func25, Tryz.ntmps25
    go_wp2_with fail
    refine Hsp.out.mono ?_
    rintro e w1 ⟨rfl, rfl⟩
    go_wp2_with fail
    refine Hc.out.mono ?_
    rintro e w2 ⟨rfl, rfl⟩
    go_wp2_with fail
    refine (must_t _).mono ?_; rintro e w' ⟨rfl, rfl⟩
    go_wp2_with fail
    go_ret
    exact ⟨.inl ⟨_, rfl, Hv.out, Hm.out, _, rfl⟩, (Below.refl _ _).alloc (Nat.le_refl _) _⟩
end Go.Proofs.YtogmajeaaabjlaaGreatDoor
