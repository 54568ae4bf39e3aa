/- The contracts of answer.line's put and of answer.of: words, one behind the other, with a blank between. -/
import Derived.Test.YtogmajeaaabjlaaGreatDoorBuilder
import Derived.Lib.Hide
namespace Go.Proofs.YtogmajeaaabjlaaGreatDoor
open Go.RowKit

/-- The value v is a slice of the strings ss, which lie in a row of strings. -/
def StrsV (w : World) (v : Value) (ss : List ByteArray) : Prop :=
  ∃ b off cap c fz, v = .slice (some ⟨b, off, none⟩) ss.length cap ∧ w.heap[b]? = some (.cells c 9 fz) ∧ ∀ j, j < ss.length → c[off + j]? = some (.string (ss.getD j ⟨#[]⟩))

theorem StrsV.kept {B b : Nat} {w w' : World} {v : Value} {ss : List ByteArray} (h : StrsV w v ss) (hk : Wrote B b w w') (hb : ∃ c fz, w.heap[b]? = some (.cells c 75 fz)) : StrsV w' v ss := by
  obtain ⟨k, off, cap, c, fz, rfl, hc, hj⟩ := h
  refine ⟨k, off, cap, c, fz, rfl, ?_, hj⟩
  refine hk.others k _ hc ?_ (fun c' fz' e => by simp at e)
  rintro ⟨rfl⟩
  obtain ⟨c', fz', hb⟩ := hb
  rw [hb] at hc
  simp at hc

/-- Words, with a blank between. -/
def joinW (l : List UInt8) : List ByteArray → List UInt8
  | [] => l
  | s :: ss => joinW ((if l = [] then l else l ++ [32]) ++ s.data.toList) ss

theorem joinW_snoc (ss : List ByteArray) (l : List UInt8) (s : ByteArray) : joinW l (ss ++ [s]) = (if joinW l ss = [] then [] else joinW l ss ++ [32]) ++ s.data.toList := by
  induction ss generalizing l with
  | nil => simp [joinW]; split <;> simp_all
  | cons x r ih => simp only [joinW, List.cons_append]; exact ih _
theorem joinW_take (ss : List ByteArray) (l : List UInt8) (k : Nat) (h : k < ss.length) : joinW l (ss.take (k + 1)) = (if joinW l (ss.take k) = [] then [] else joinW l (ss.take k) ++ [32]) ++ (ss.getD k ⟨#[]⟩).data.toList := by
  rw [List.take_succ_eq_append_getElem h, joinW_snoc]
  simp [List.getD_eq_getElem?_getD, List.getElem?_eq_getElem h]
theorem joinW_mono (ss : List ByteArray) (l : List UInt8) : l.length ≤ (joinW l ss).length := by
  induction ss generalizing l with
  | nil => simp [joinW]
  | cons x r ih => 
    have := ih ((if l = [] then l else l ++ [32]) ++ x.data.toList)
    simp only [joinW]
    refine Nat.le_trans ?_ this
    split <;> simp <;> omega
theorem joinW_append (a b : List ByteArray) (l : List UInt8) : joinW l (a ++ b) = joinW (joinW l a) b := by
  induction a generalizing l with
  | nil => rfl
  | cons x r ih => simp [joinW, ih]
theorem joinW_le (ss : List ByteArray) (l : List UInt8) (k : Nat) : (joinW l (ss.take k)).length ≤ (joinW l ss).length := by
  conv => rhs; rw [← List.take_append_drop k ss, joinW_append]
  exact joinW_mono _ _

theorem LB.row {T B b : Nat} {l : List UInt8} {w : World} (h : LB T B b l w) : ∃ c fz, w.heap[b]? = some (.cells c T fz) := by
  obtain ⟨p, v, _, hb, _⟩ := h.open
  exact ⟨_, _, hb⟩

set_option maxHeartbeats 1000000 in
theorem put_any (B b : Nat) (l : List UInt8) (ss : List ByteArray) (v : Value) (w : World) (h : LB 75 B b l w) (hv : StrsV w v ss) (hBw : B ≤ w.heap.size) (hlen : (joinW l ss).length ≤ 140737488355328) (hn : ss.length ≤ 140737488355328) :
    Calls Tryz.prog 29 #[.pointer (some ⟨b, 0, none⟩), v] w fun e w' => e = .returned (.pointer (some ⟨b, 0, none⟩)) ∧ LB 75 B b (joinW l ss) w' ∧ Wrote B b w w' := by
  have HV := hv
  obtain ⟨bs, off, cap, c, fz, rfl, hc, hj⟩ := hv
  clear hc hj
  go_enter Tryz.func29, Tryz.ntmps29
  go_wp2
  go_loopw [6, 9] (fun _ i wr => ∃ k : Nat, k ≤ ss.length ∧ i = .int .i64 k ∧ LB 75 B b (joinW l (ss.take k)) wr ∧ Wrote B b w wr) (fun _ i _ => ss.length - (intOf i).toNat)
  case atStart =>
    exact ⟨0, Nat.zero_le _, rfl, h, Wrote.refl _ _ _⟩
  case round =>
    obtain ⟨k, hk, rfl, hLB, hW⟩ := hrel
    by_cases hlt : k < ss.length
    · obtain ⟨bs', off', cap', c', fz', heq, hc', hj'⟩ := HV.kept hW h.row
      obtain ⟨⟨rfl, rfl⟩, rfl⟩ : (bs = bs' ∧ off = off') ∧ cap = cap' := by simpa using heq
      have hcell : wr.cell? ⟨bs, off + k, none⟩ = some (.string (ss.getD k ⟨#[]⟩)) := by rw [Lib.cell_of_heap hc']; exact hj' k hlt
      have hsn := joinW_take ss l k hlt
      have hlk := joinW_le ss l (k + 1)
      clear hc' hj' heq
      generalize hx : ss.getD k ⟨#[]⟩ = x at *
      generalize hm : joinW l (ss.take k) = m at *
      clear hx hm
      rcases Classical.em (m = []) with hz | hz
      · subst hz
        rw [if_pos rfl] at hsn
        have Hsn := Lib.hid hsn
        have hxl : x.size ≤ (joinW l (ss.take (k + 1))).length := by rw [hsn]; simp
        clear hsn
        go_wp2_with fail
        refine (builder_len _ _ _ _ _ hLB).mono ?_
        rintro e w1 ⟨rfl, rfl⟩
        go_wp2_with fail
        refine (builder_writeString _ _ _ likeL _ _ _ hLB (by simp; omega) (Nat.le_trans hBw hW.below.size)).mono ?_
        rintro e w1 ⟨rfl, h1, hk1⟩
        go_wp2_with fail
        rw [← Hsn.out] at h1
        exact ⟨⟨k + 1, by omega, by go_num, h1.lb, hW.trans hk1⟩, by simp [intOf]; omega⟩
      · rw [if_neg hz] at hsn
        have Hsn := Lib.hid hsn
        have hxl : m.length + 1 + x.size ≤ (joinW l (ss.take (k + 1))).length := by rw [hsn]; simp; omega
        have hm0 : (0 : Int) < (m.length : Int) := by have := List.length_pos_iff.2 hz; omega
        clear hsn
        go_wp2_with fail
        refine (builder_len _ _ _ _ _ hLB).mono ?_
        rintro e w1 ⟨rfl, rfl⟩
        go_wp2_with fail
        refine (builder_writeByte _ _ _ likeL _ 32 _ hLB (by omega) (Nat.le_trans hBw hW.below.size)).mono ?_
        rintro e w1 ⟨rfl, h1, hk1⟩
        go_wp2_with fail
        refine (builder_writeString _ _ _ likeL _ _ _ h1.lb (by simp; omega) (Nat.le_trans hBw (hW.trans hk1).below.size)).mono ?_
        rintro e w2 ⟨rfl, h2, hk2⟩
        go_wp2_with fail
        rw [← Hsn.out] at h2
        exact ⟨⟨k + 1, by omega, by go_num, h2.lb, (hW.trans hk1).trans hk2⟩, by simp [intOf]; omega⟩
    · obtain rfl : k = ss.length := by omega
      rw [List.take_length] at hLB
      go_wp2_with fail
      go_ret
      exact ⟨rfl, hLB, hW⟩

set_option maxHeartbeats 1000000 in
/-- answer.of; n: the number of the line's block -/
theorem of_any (ss : List ByteArray) (v : Value) (w : World) (n : Nat) (hN : n = w.heap.size) (hv : StrsV w v ss) (hlen : (joinW [] ss).length ≤ 140737488355328) (hn : ss.length ≤ 140737488355328) :
    Calls Tryz.prog 19 #[v] w fun e w' => e = .returned (.pointer (some ⟨n, 0, none⟩)) ∧ LB 75 n n (joinW [] ss) w' ∧ Below n w w' := by
  subst hN
  have h0 : LB 75 w.heap.size w.heap.size [] (w.alloc (.cells #[.pointer none, .slice none 0 0] 75)) := by
    refine .inl ⟨Nat.le_refl _, .slice none 0 0, ?_, ?_, by simp [Value.ownBlock]⟩
    · show (w.heap.push _)[w.heap.size]? = _
      simp
    · exact ⟨by simp [Lib.byteCells], .inl ⟨rfl, by simp [Lib.byteCells]⟩⟩
  have hv' : StrsV (w.alloc (.cells #[.pointer none, .slice none 0 0] 75)) v ss := by
    obtain ⟨k, off, cap, c, fz, rfl, hc, hj⟩ := hv
    refine ⟨k, off, cap, c, fz, rfl, ?_, hj⟩
    rw [Lib.alloc_old w _ k (lt_of_block hc)]
    exact hc
  go_enter Tryz.func19, Tryz.ntmps19
  go_wp2_with fail
  refine (put_any _ _ _ _ _ _ h0 hv' (by simp) hlen hn).mono ?_
  rintro e w1 ⟨rfl, h1, hk1⟩
  go_wp2_with fail
  go_ret
  exact ⟨rfl, h1, ((Below.refl _ _).alloc (Nat.le_refl _) _).trans hk1.below⟩

theorem LB.alloc {T B b : Nat} {l : List UInt8} {w : World} (h : LB T B b l w) (o : Obj) : LB T B b l (w.alloc o) := by
  rcases h with ⟨hB, v, hbk, hown, hne⟩ | ⟨hB, v, hbk, hown, hne⟩
  · exact .inl ⟨hB, v, by rw [Lib.alloc_old w o b (lt_of_block hbk)]; exact hbk, hown.alloc _, hne⟩
  · exact .inr ⟨hB, v, by rw [Lib.alloc_old w o b (lt_of_block hbk)]; exact hbk, hown.alloc _, hne⟩

theorem strsV_new (w : World) (ss : List ByteArray) (cap n : Nat) (hn : n = w.heap.size) : StrsV (w.alloc (.cells (ss.map Value.string).toArray 9)) (.slice (some ⟨n, 0, none⟩) ss.length cap) ss := by
  subst hn
  refine ⟨_, _, _, _, (0, 0), rfl, by show (w.heap.push _)[w.heap.size]? = _; simp; rfl, fun j hj => ?_⟩
  simp [List.getD_eq_getElem?_getD, List.getElem?_eq_getElem hj]
theorem strsV_one (w : World) (s : ByteArray) (n : Nat) (hn : n = w.heap.size) : StrsV (w.alloc (.cells #[.string s] 9)) (.slice (some ⟨n, 0, none⟩) 1 1) [s] := strsV_new w [s] 1 n hn
theorem strsV_two (w : World) (s t : ByteArray) (n : Nat) (hn : n = w.heap.size) : StrsV (w.alloc (.cells #[.string s, .string t] 9)) (.slice (some ⟨n, 0, none⟩) 2 2) [s, t] := strsV_new w [s, t] 2 n hn
theorem strsV_four (w : World) (s t u v : ByteArray) (n : Nat) (hn : n = w.heap.size) : StrsV (w.alloc (.cells #[.string s, .string t, .string u, .string v] 9)) (.slice (some ⟨n, 0, none⟩) 4 4) [s, t, u, v] := strsV_new w [s, t, u, v] 4 n hn

theorem Wrote.alloc {B b : Nat} {w w' : World} (h : Wrote B b w w') (hB : B ≤ w'.heap.size) (o : Obj) : Wrote B b w (w'.alloc o) := ⟨h.below.alloc hB o, h.others.alloc o⟩

theorem LB.drew {T B b : Nat} {l : List UInt8} {w : World} (h : LB T B b l w) : LB T B b l w.drew := h
theorem StrsV.drew {w : World} {v : Value} {ss : List ByteArray} (h : StrsV w v ss) : StrsV w.drew v ss := h

theorem line_new (w : World) : LB 75 w.heap.size w.heap.size [] (w.alloc (.cells #[.pointer none, .slice none 0 0] 75)) := by
  refine .inl ⟨Nat.le_refl _, .slice none 0 0, ?_, ?_, by simp [Value.ownBlock]⟩
  · show (w.heap.push _)[w.heap.size]? = _
    simp
  · exact ⟨by simp [Lib.byteCells], .inl ⟨rfl, by simp [Lib.byteCells]⟩⟩

theorem joinW_len (ss : List ByteArray) (l : List UInt8) : (joinW l ss).length ≤ l.length + (ss.map fun s => s.size + 1).sum := by
  induction ss generalizing l with
  | nil => simp [joinW]
  | cons x r ih =>
    have := ih ((if l = [] then l else l ++ [32]) ++ x.data.toList)
    simp only [joinW, List.map_cons, List.sum_cons]
    refine Nat.le_trans this ?_
    split <;> simp <;> omega
end Go.Proofs.YtogmajeaaabjlaaGreatDoor
