/- The contract of answer.Query at the empty state and the line "clock". (Printed by gen_query.py.) -/
import Derived.Test.YtogmajeaaabjlaaGreatDoorLineA
import Derived.Test.YtogmajeaaabjlaaGreatDoorWords
import Derived.Laws.Rows
import Derived.Deep.RegionHeld3
import Derived.Deep.MidRow
import Derived.Test.YtogmajeaaabjlaaGreatDoorBag
import Derived.Test.YtogmajeaaabjlaaGreatDoorSince
namespace Go.Proofs.YtogmajeaaabjlaaGreatDoor
open Go.RowKit

set_option maxRecDepth 10000 in
/-- The cells of the empty state, and of an asker of it. -/
def st0 : Array Value := #[.int .i64 0, .int .i64 0, .int .i64 0, .int .i64 0, .int .i64 0, .int .i64 0, .int .i64 0, .int .i64 0, .int .i64 0, .int .i64 0, .int .i64 0, .int .i64 0, .int .u8 0, .int .u8 0, .int .u8 0, .int .u8 0, .int .u8 0, .int .u8 0, .int .u8 0, .int .u8 0, .int .u8 0, .int .u8 0, .int .u8 0, .int .u8 0, .int .u8 0, .int .u8 0, .int .u8 0, .int .u8 0, .int .u8 0, .int .u8 0, .int .u8 0, .int .u8 0, .int .u8 0, .int .u8 0, .int .u8 0, .int .u8 0, .int .u8 0, .int .u8 0, .int .u8 0, .int .u8 0, .int .u8 0, .int .u8 0, .int .u8 0, .int .u8 0, .slice none 0 0, .slice none 0 0, .int .u8 0, .int .u8 0, .int .u8 0, .int .u8 0, .int .u8 0, .int .u8 0, .int .u8 0, .int .u8 0, .int .u8 0, .int .u8 0, .int .u8 0, .int .u8 0, .int .u8 0, .int .u8 0, .int .u8 0, .int .u8 0, .int .u8 0, .int .u8 0, .int .u8 0, .int .u8 0, .int .u8 0, .int .u8 0, .int .u8 0, .int .u8 0, .int .u8 0, .int .u8 0, .int .u8 0, .int .u8 0, .int .u8 0, .int .u8 0, .int .u8 0, .int .u8 0, .int .i64 0, .int .i64 0, .int .u8 0, .int .u8 0, .int .u8 0, .int .u8 0, .int .u8 0, .int .u8 0, .int .u8 0, .int .u8 0, .int .u8 0, .int .u8 0, .int .u8 0, .int .u8 0, .int .u8 0, .int .u8 0, .int .u8 0, .int .u8 0, .int .u8 0, .int .u8 0, .int .u8 0, .int .u8 0, .int .u8 0, .int .u8 0, .int .u8 0, .int .u8 0, .int .u8 0, .int .u8 0, .int .u8 0, .int .u8 0, .int .u8 0, .int .u8 0, .int .u8 0, .int .u8 0, .int .u64 0, .int .u8 0, .int .u8 0, .int .u8 0, .int .u8 0, .int .u8 0, .int .u8 0, .int .u8 0, .int .u8 0, .int .u8 0, .int .u8 0, .int .u8 0, .int .u8 0, .int .u8 0, .int .u8 0, .int .u8 0, .int .u8 0, .int .u8 0, .int .u8 0, .int .u8 0, .int .u8 0, .int .u8 0, .int .u8 0, .int .u8 0, .int .u8 0, .int .u8 0, .int .u8 0, .int .u8 0, .int .u8 0, .int .u8 0, .int .u8 0, .int .u8 0, .int .u8 0, .int .u8 0, .int .u8 0, .int .u8 0, .int .u8 0, .int .u8 0, .int .u8 0, .int .u8 0, .int .u8 0, .int .u8 0, .int .u8 0, .int .u8 0, .int .u8 0, .int .u8 0, .int .u8 0, .int .u8 0, .int .u8 0, .int .u8 0, .int .u8 0, .int .u8 0, .int .u8 0, .int .u8 0, .int .u8 0, .int .u8 0, .int .u8 0, .int .u8 0, .int .u8 0, .int .u8 0, .int .u8 0, .int .u8 0, .int .u8 0, .int .u8 0, .int .u8 0, .int .i64 0, .int .i64 0, .slice none 0 0, .slice none 0 0, .int .i64 0]
def as0 (v : Value) : Array Value := st0.push v
theorem as0_words (v : Value) : (as0 v)[182]? = some v := rfl
theorem as0_clock (v : Value) : (as0 v)[181]? = some (Value.int .i64 0) := rfl
theorem as0_size (v : Value) : (Tryz.prog.info? 85).map (·.size) = some (as0 v).size := by kernel_rfl
theorem st0_size : (Tryz.prog.info? 58).map (·.size) = some st0.size := by kernel_rfl
theorem itoa_zero : Lib.itoa 0 = [48] := by unfold Lib.itoa; rw [if_neg (by omega)]; show Lib.decDigits 0 = [48]; rw [Lib.decDigits]; rfl

set_option maxHeartbeats 400000 in
theorem many_any (p : Option Addr) (c : Nat) (w : World) :
    Calls Tryz.prog 55 #[.agg (as0 (.slice p 0 c)), .int .i64 0] w fun e w' => e = .returned (.tuple #[]) ∧ Below w.heap.size w w' := by
  have h182 : (as0 (.slice p 0 c))[182]? = some (.slice p 0 c) := as0_words _
  go_enter Tryz.func55, Tryz.ntmps55
  go_wp2_with fail
  refine (must_t _).mono ?_; rintro e w' ⟨rfl, rfl⟩
  go_wp2_with fail
  go_end0
  exact ⟨rfl, (Below.refl _ _).alloc (Nat.le_refl _) _⟩

set_option maxHeartbeats 1000000 in
set_option maxRecDepth 100000 in
theorem clock_any (p : Option Addr) (c : Nat) (w : World) (hL : Laid w) :
    Calls Tryz.prog 33 #[.agg (as0 (.slice p 0 c))] w fun e w' => e = .returned (.string ⟨#[99, 108, 111, 99, 107, 32, 48]⟩) ∧ Below w.heap.size w w' := by
  have h181 : (as0 (.slice p 0 c))[181]? = some (.int .i64 0) := as0_clock _
  go_enter Tryz.func33, Tryz.ntmps33
  go_wp2_with (with_reducible refine wpList_load_row (P := Tryz.prog) rfl 85 (.tmp 1) rfl w.heap.size rfl 85 (as0 (.slice p 0 c)) (0, 0) _ (heap_last w _) Tryz.underlying85 rfl (as0_size _) ?_)
  refine (many_any p c _).mono ?_; rintro e w1 ⟨rfl, hB1⟩
  have hB1w : Below w.heap.size w w1 := ((Below.refl _ _).alloc (Nat.le_refl _) _).trans (hB1.mono (by simp))
  have k181 : w1.cell? ⟨w.heap.size, 181, none⟩ = some (.int .i64 0) := by rw [hB1.cell (by simp), cell_of_row _ _ _ _ _ _ (heap_last w _)]; exact h181
  have ht := text_any 0 (by omega) (by omega) w1 (hL.below hB1w hL.size)
  rw [itoa_zero] at ht
  have Ht := Lib.hid ht
  have HB := Lib.hid hB1w
  clear ht h181 hB1 hB1w
  go_wp2_with fail
  refine Ht.out.mono ?_
  rintro e w2 ⟨rfl, hB2⟩
  have hB2w : Below w.heap.size w w2 := HB.out.trans (hB2.mono HB.out.size)
  go_wp2_with fail
  refine (of_any [⟨#[99, 108, 111, 99, 107]⟩, ⟨#[48]⟩] _ _ (w2.heap.size + 1) (by simp) (strsV_two _ _ _ _ (by rfl)) (by decide) (by decide)).mono ?_
  rintro e w3 ⟨rfl, hLB, hB3⟩
  have hB3w : Below w.heap.size w w3 := (hB2w.alloc hB2w.size _).trans (hB3.mono (by have := hB2w.size; omega))
  go_wp2_with fail
  refine (builder_string _ _ _ _ _ hLB (by decide)).mono ?_
  rintro e w4 ⟨rfl, hW⟩
  go_wp2_with fail
  go_ret
  exact ⟨rfl, hB3w.trans (hW.below.mono (by have := hB2w.size; omega))⟩

theorem Since.cells {a : World} {b : Nat} (hb : a.heap.size ≤ b) : ∀ (vs : List Value) (o : Nat) (w : World), Since a w → Since a (w.setCells b o vs)
  | [], _, _, h => h
  | v :: r, o, w, h => by
    rw [World.setCells]
    exact Since.cells hb r (o + 1) _ (Below.setCell h (p := ⟨b, o, none⟩) hb v)
theorem lt_of_range {w : World} {b : Nat} {cs : List Value} (h : w.rangeAt b 0 cs) (hc : 0 < cs.length) : b < w.heap.size := by
  have h1 := h 0 cs[0] (by simp [hc])
  rcases Nat.lt_or_ge b w.heap.size with hb | hb
  · exact hb
  · simp [World.cell?, hb] at h1
theorem there_new (w : World) (cs : Array Value) (T n : Nat) (hn : n ≤ cs.size) : (w.alloc (.cells cs T)).there w.heap.size 0 n := fun j hj => by
  constructor
  · rw [cell_of_row _ _ _ _ _ _ (heap_last w _)]; simp; omega
  · simp [go_sem]
theorem wp_of_value {P : Program} {o : Oper} {a : Act} {w : World} {K : Act → World → Prop} {Q : Exit → Act → World → Prop} {v : Value} {w' : World}
    (h : (execOp a.eval o).run P w = .ok (.value v) w') (hk : K (a.put o.dst v) w') : Oper.wp P o a w K Q := by
  unfold Oper.wp; rw [h]; exact hk
theorem wp_of_skip {P : Program} {o : Oper} {a : Act} {w : World} {K : Act → World → Prop} {Q : Exit → Act → World → Prop} {w' : World}
    (h : (execOp a.eval o).run P w = .ok .skip w') (hk : K (a.put o.dst undef) w') : Oper.wp P o a w K Q := by
  unfold Oper.wp; rw [h]; exact hk
theorem insert_run {P : Program} {o : Oper} {a : Act} {w w' : World} {t : TypeId} {m k x : Operand} (ho : o.op = .insert t m k x) (h : (Instr.mapUpdate t (a.eval m) (a.eval k) (a.eval x)).run P w = .ok () w') : (execOp a.eval o).run P w = .ok .skip w' := by
  unfold execOp
  simp [ho, h]
theorem lookup_run {P : Program} {o : Oper} {a : Act} {w w' : World} {t : TypeId} {m k : Operand} {b : Bool} {v : Value} (ho : o.op = .lookup t m k b) (h : (Instr.lookup t (a.eval m) (a.eval k) b).run P w = .ok v w') : (execOp a.eval o).run P w = .ok (.value v) w' := by
  unfold execOp
  simp [ho, h]
theorem Since.range {a w : World} (h : Since a w) {b : Nat} (hb : b < a.heap.size) {cs : List Value} (hr : a.rangeAt b 0 cs) : w.rangeAt b 0 cs := fun j v hv => by rw [h.cell hb]; exact hr j v hv


def qJ : List Nat := [3, 6, 9, 12, 15, 18, 21, 24, 27, 30, 33]
def qKey (j : Nat) : ByteArray := if j = 3 then ⟨#[116, 105, 112]⟩ else if j = 6 then ⟨#[99, 108, 111, 99, 107]⟩ else if j = 9 then ⟨#[115, 117, 109, 115]⟩ else if j = 12 then ⟨#[97, 115, 115, 101, 116, 115]⟩ else if j = 15 then ⟨#[109, 105, 110, 116, 101, 100]⟩ else if j = 18 then ⟨#[98, 97, 108, 97, 110, 99, 101]⟩ else if j = 21 then ⟨#[117, 110, 115, 112, 101, 110, 116]⟩ else if j = 24 then ⟨#[101, 110, 116, 114, 121]⟩ else if j = 27 then ⟨#[109, 97, 114, 107]⟩ else if j = 30 then ⟨#[112, 111, 111, 108]⟩ else ⟨#[116, 101, 109, 112, 108, 97, 116, 101]⟩
def qB (i : Nat) : Bool := !([34, 38, 39, 40, 41, 42, 43].contains i)
def qL0 : Array Bool := #[true, true, true, false, true, true, false, true, true, false, true, true, false, true, true, false, true, true, false, true, true, false, true, true, false, true, true, false, true, true, false, true, true, false, false, true, true, true, false, false, false, false, false, false]
def qL1 : Array Bool := #[true, true, true, true, true, true, true, true, true, true, true, true, true, true, true, true, true, true, true, true, true, true, true, true, true, true, true, true, true, true, true, true, true, true, false, true, true, true, false, false, false, false, false, false]
theorem qKey_ne : ∀ i ∈ qJ, ∀ j ∈ qJ, i ≠ j → qKey i ≠ qKey j := by decide
theorem qL1_is (i : Nat) : qL1.getD i true = qB i := by
  by_cases h : i < 44
  · exact (show ∀ i < 44, qL1.getD i true = qB i by decide) i h
  · have h1 : qL1.getD i true = true := by
      unfold Array.getD
      rw [dif_neg (by intro h2; exact h h2)]
    rw [h1]; unfold qB; simp; omega
theorem qL0_is (i : Nat) (hi : i ∉ qJ) : qL0.getD i true = qB i := by
  by_cases h : i < 44
  · exact (show ∀ i < 44, i ∉ qJ → qL0.getD i true = qB i by decide) i h hi
  · have h1 : qL0.getD i true = true := by
      unfold Array.getD
      rw [dif_neg (by intro h2; exact h h2)]
    rw [h1]; unfold qB; simp; omega
theorem size_of {listed : Array Bool} (h : listed = qL0) : listed.size = 44 := by rw [h]; rfl
theorem agree_of {listed : Array Bool} (h : listed = qL0) : ∀ i, i ∉ qJ → listed.getD i true = qB i := by rw [h]; exact qL0_is
theorem six_of {listed : Array Bool} (h : listed = qL0) : listed.getD 6 true = false := by rw [h]; rfl
theorem count_of {listed : Array Bool} (h : listed = qL0) : (qJ.filter fun j => !listed.getD j true).length = 11 := by rw [h]; rfl
theorem all_of {listed : Array Bool} (hs : listed.size = 44) (hb : ∀ i, i ∉ qJ → listed.getD i true = qB i) (ha : ∀ j ∈ qJ, listed.getD j true = true) : listed = qL1 := by
  refine arr_ext _ _ (by rw [hs]; rfl) (fun i => ?_)
  rw [qL1_is]
  by_cases h : i ∈ qJ
  · rw [ha i h]; exact ((show ∀ i ∈ qJ, qB i = true by decide) i h).symm
  · exact hb i h
/-- What is known of the map while its stores come up in whatever order: a key that is still to come is not there; that of the clock, once it is there, has its function. -/
def QInv (w0 : World) (V : Value) (listed : Array Bool) (w : World) : Prop :=
  ∃ es c, w = w0.alloc (.map es c) ∧ (∀ j ∈ qJ, listed.getD j true = false → FN es (qKey j) = some none) ∧ (listed.getD 6 true = true → ∃ i, FN es (qKey 6) = some (some (i, V)))
theorem QInv.step {w0 : World} {V : Value} {listed : Array Bool} {es : Array MapEntry} {c : Nat} (hA : ∀ j ∈ qJ, listed.getD j true = false → FN es (qKey j) = some none) (h6 : listed.getD 6 true = true → ∃ i, FN es (qKey 6) = some (some (i, V)))
    (i : Nat) (hi : i ∈ qJ) (hif : listed.getD i true = false) (v : Value) (hv : i = 6 → v = V) : QInv w0 V (listed.setIfInBounds i true) (w0.alloc (.map (es.push ⟨.string (qKey i), v, c⟩) (c + 1))) := by
  refine ⟨_, _, rfl, fun j hj hjf => ?_, fun h => ?_⟩
  · by_cases e : j = i
    · subst e; rw [getD_set_same] at hjf; cases hjf
    · rw [getD_set_other _ _ _ e] at hjf
      exact FN_other (hA j hj hjf) (qKey_ne j hj i hi e)
  · by_cases e : i = 6
    · subst e; rw [hv rfl]; exact ⟨_, FN_new (hA 6 hi hif)⟩
    · rw [getD_set_other _ _ _ (Ne.symm e)] at h
      obtain ⟨k, hk⟩ := h6 h
      exact ⟨k, FN_kept hk⟩


set_option maxHeartbeats 2000000 in
set_option maxRecDepth 100000 in
theorem query1_clock (bq bs : Nat) (w : World) (hL : Laid w) (hq : w.cell? ⟨bq, 0, none⟩ = some (.string ⟨#[99, 108, 111, 99, 107]⟩)) (_hbq : bq < w.heap.size) (hs : w.rangeAt bs 0 st0.toList) (hbs : bs < w.heap.size) :
    Calls Tryz.prog 31 #[.pointer (some ⟨bq, 0, none⟩), .pointer (some ⟨bs, 0, none⟩)] w fun e w' => e = .returned (.string ⟨#[99, 108, 111, 99, 107, 32, 48]⟩) ∧ Below w.heap.size w w' := by
  have hsp : splitSp ⟨#[99, 108, 111, 99, 107]⟩ = [⟨#[99, 108, 111, 99, 107]⟩] := by rfl
  have hwd := words_any ⟨#[99, 108, 111, 99, 107]⟩ w hL (by decide)
  rw [hsp] at hwd
  have Hwd := Lib.hid hwd
  have Hs := Lib.hid hs
  have hu58 := Tryz.underlying58
  have hu85 := Tryz.underlying85
  clear hwd hsp hs
  go_enter Tryz.func31, Tryz.ntmps31
  go_wp2_with fail
  refine Hwd.out.mono ?_
  rintro e w1 ⟨⟨v, rfl, hv, _, pv, hpv⟩ | ⟨_, hbad⟩, hB1⟩
  · obtain ⟨bw, off, cap, c, fz, rfl, hc, hj⟩ := hv
    have hbw : bw < w1.heap.size := (Array.getElem?_eq_some_iff.1 hc).1
    obtain rfl : cap = 1 := by injection hpv
    clear hpv
    have c0 : w1.cell? ⟨bw, off, none⟩ = some (.string ⟨#[99, 108, 111, 99, 107]⟩) := by have := hj 0 (by simp); rw [Lib.cell_of_heap hc]; simpa using this
    clear hc hj
    have hr1 : w1.rangeAt bs 0 st0.toList := fun j v h => by rw [hB1.cell (by simpa using hbs)]; exact Hs.out j v h
    go_wp2_with fail
    have hbs1 : bs < w1.heap.size := Nat.lt_of_lt_of_le hbs hB1.size
    refine wp_region_held_drew (S := fun W => Since w1 W) (by kernel_rfl) (Since.refl _).drew (fun hS => ?_)
    refine wpAnyH_take (i := 0) (v := .agg st0.toList.toArray) rfl (by kernel_rfl) (by kernel_rfl) (by kernel_rfl) (fun _ _ _ h => h) (yieldsIf_load_mid (by kernel_rfl) _ _ rfl _ _ rfl st0.toList _ (fun W h => Since.range h hbs1 hr1) hu58 rfl (by simpa using st0_size)) hS ?_
    simp only [Act.put, List.setIfInBounds_toArray, List.set_cons_zero, List.set_cons_succ, List.getElem_toArray, List.getElem_cons_zero]
    refine wpAnyH_take (i := 1) (v := .slice (some ⟨bw, off, none⟩) 1 1) rfl (by kernel_rfl) (by kernel_rfl) (by kernel_rfl) (fun _ _ _ h => h) (Or.inl ⟨by kernel_rfl, ?_⟩) hS ?_
    · intro W hW; go_simp
    simp only [Act.put, List.setIfInBounds_toArray, List.set_cons_zero, List.set_cons_succ, List.getElem_toArray, List.getElem_cons_zero, List.getElem_cons_succ]
    refine wpAnyH_take (i := 2) (v := .slice (some ⟨bw, off, none⟩) 0 0) rfl (by kernel_rfl) (by kernel_rfl) (by kernel_rfl) (fun _ _ _ h => h) (Or.inl ⟨by kernel_rfl, ?_⟩) hS ?_
    · intro W hW; go_simp
    simp only [Act.put, List.setIfInBounds_toArray, List.set_cons_zero, List.set_cons_succ, List.getElem_toArray, List.getElem_cons_zero, List.getElem_cons_succ]
    refine wpAnyH_take (i := 3) (v := .agg (as0 (.slice (some ⟨bw, off, none⟩) 0 0))) rfl (by kernel_rfl) (by kernel_rfl) (by kernel_rfl) (fun _ _ _ h => h) (Or.inl ⟨by kernel_rfl, fun _ _ => by kernel_rfl⟩) hS ?_
    simp only [Act.put, List.setIfInBounds_toArray, List.set_cons_zero, List.set_cons_succ, List.getElem_toArray, List.getElem_cons_zero, List.getElem_cons_succ]
    refine wpAnyH_ready (rs := [4]) (by kernel_rfl) (by simp) ?_
    refine AllReadyH.cons rfl (fun K hK => ?_) AllReadyH.nil
    rw [if_pos (by kernel_rfl)]
    refine wp_of_value (v := .pointer (some ⟨w1.heap.size, 0, none⟩)) (w' := (w1.drew.alloc (.cells (as0 (.slice none 0 0)) 85))) (by kernel_rfl) ?_
    simp only [Act.put, List.setIfInBounds_toArray, List.set_cons_zero, List.set_cons_succ, List.getElem_toArray, List.getElem_cons_zero, List.getElem_cons_succ]
    refine hK.out _ _ (Since.alloc (Since.refl _).drew _) (fun hS => ?_)
    clear hK K
    refine wpAnyH_ready (rs := [5]) (by kernel_rfl) (by simp) ?_
    refine AllReadyH.cons rfl (fun K hK => ?_) AllReadyH.nil
    rw [if_pos (by kernel_rfl)]
    refine wp_store_mid 85 (.tmp 4) (.tmp 12) rfl w1.heap.size 0 (as0 (.slice (some ⟨bw, off, none⟩) 0 0)) rfl rfl (there_new w1.drew _ _ _ (Nat.le_refl _)) (as0_size _) (by kernel_rfl) ?_
    simp only [Act.put, List.getElem_toArray, List.getElem_cons_zero, List.getElem_cons_succ]
    refine hK.out _ _ (Since.cells (Nat.le_refl _) _ _ _ hS) (fun hS => ?_)
    clear hK K
    refine ⟨by kernel_rfl, ?_⟩
    have hS2 : Since w1 ((w1.drew.alloc (.cells (as0 (.slice none 0 0)) 85)).setCells w1.heap.size 0 (as0 (.slice (some ⟨bw, off, none⟩) 0 0)).toList) := Since.cells (Nat.le_refl _) _ _ _ (Since.alloc (Since.refl _).drew _)
    have hr2 : ((w1.drew.alloc (.cells (as0 (.slice none 0 0)) 85)).setCells w1.heap.size 0 (as0 (.slice (some ⟨bw, off, none⟩) 0 0)).toList).rangeAt w1.heap.size 0 (as0 (.slice (some ⟨bw, off, none⟩) 0 0)).toList := World.rangeAt_setCells_same _ _ _ _ (there_new w1.drew _ _ _ (Nat.le_refl _))
    have hz2 : w1.heap.size < ((w1.drew.alloc (.cells (as0 (.slice none 0 0)) 85)).setCells w1.heap.size 0 (as0 (.slice (some ⟨bw, off, none⟩) 0 0)).toList).heap.size := lt_of_range hr2 (by simp [as0, st0])
    go_wp2_with fail
    generalize ((w1.drew.alloc (.cells (as0 (.slice none 0 0)) 85)).setCells w1.heap.size 0 (as0 (.slice (some ⟨bw, off, none⟩) 0 0)).toList) = w2 at hS2 hr2 hz2 ⊢
    have c2 : w2.cell? ⟨bw, off, none⟩ = some (.string ⟨#[99, 108, 111, 99, 107]⟩) := by rw [hS2.cell hbw]; exact c0
    have hbw2 : bw < w2.heap.size := Nat.lt_trans hbw hz2
    have hBw : Below w.heap.size w w2 := hB1.trans (Below.mono hS2 hB1.size)
    have hmf := run_makeFunc
    generalize w1.heap.size = b2 at hr2 hz2 ⊢
    clear hr1 hbs1 hS2 c0 hbw hB1
    refine wp_region_held_drew (S := fun W => Since w2 W) (by kernel_rfl) (Since.refl _).drew (fun hS => ?_)
    refine wpAnyH_take (i := 1) (v := .agg (as0 (.slice (some ⟨bw, off, none⟩) 0 0))) rfl (by kernel_rfl) (by kernel_rfl) (by kernel_rfl) (fun _ _ _ h => h) (yieldsIf_load_mid (by kernel_rfl) _ _ rfl _ _ rfl (as0 (.slice (some ⟨bw, off, none⟩) 0 0)).toList _ (fun W h => Since.range h hz2 hr2) hu85 rfl (by simpa using as0_size _)) hS ?_
    simp only [Act.put, List.setIfInBounds_toArray, List.set_cons_zero, List.set_cons_succ, List.getElem_toArray, List.getElem_cons_zero, List.getElem_cons_succ]
    refine wpAnyH_take (i := 2) (v := .func (.func 32) #[.agg (as0 (.slice (some ⟨bw, off, none⟩) 0 0))] #[]) rfl (by kernel_rfl) (by kernel_rfl) (by kernel_rfl) (fun _ _ _ h => h) (Or.inl ⟨by kernel_rfl, fun _ _ => by kernel_rfl⟩) hS ?_
    simp only [Act.put, List.setIfInBounds_toArray, List.set_cons_zero, List.set_cons_succ, List.getElem_toArray, List.getElem_cons_zero, List.getElem_cons_succ]
    refine wpAnyH_take (i := 4) (v := .agg (as0 (.slice (some ⟨bw, off, none⟩) 0 0))) rfl (by kernel_rfl) (by kernel_rfl) (by kernel_rfl) (fun _ _ _ h => h) (yieldsIf_load_mid (by kernel_rfl) _ _ rfl _ _ rfl (as0 (.slice (some ⟨bw, off, none⟩) 0 0)).toList _ (fun W h => Since.range h hz2 hr2) hu85 rfl (by simpa using as0_size _)) hS ?_
    simp only [Act.put, List.setIfInBounds_toArray, List.set_cons_zero, List.set_cons_succ, List.getElem_toArray, List.getElem_cons_zero, List.getElem_cons_succ]
    refine wpAnyH_take (i := 5) (v := .func (.func 33) #[.agg (as0 (.slice (some ⟨bw, off, none⟩) 0 0))] #[]) rfl (by kernel_rfl) (by kernel_rfl) (by kernel_rfl) (fun _ _ _ h => h) (Or.inl ⟨by kernel_rfl, fun _ _ => by kernel_rfl⟩) hS ?_
    simp only [Act.put, List.setIfInBounds_toArray, List.set_cons_zero, List.set_cons_succ, List.getElem_toArray, List.getElem_cons_zero, List.getElem_cons_succ]
    refine wpAnyH_take (i := 7) (v := .agg (as0 (.slice (some ⟨bw, off, none⟩) 0 0))) rfl (by kernel_rfl) (by kernel_rfl) (by kernel_rfl) (fun _ _ _ h => h) (yieldsIf_load_mid (by kernel_rfl) _ _ rfl _ _ rfl (as0 (.slice (some ⟨bw, off, none⟩) 0 0)).toList _ (fun W h => Since.range h hz2 hr2) hu85 rfl (by simpa using as0_size _)) hS ?_
    simp only [Act.put, List.setIfInBounds_toArray, List.set_cons_zero, List.set_cons_succ, List.getElem_toArray, List.getElem_cons_zero, List.getElem_cons_succ]
    refine wpAnyH_take (i := 8) (v := .func (.func 34) #[.agg (as0 (.slice (some ⟨bw, off, none⟩) 0 0))] #[]) rfl (by kernel_rfl) (by kernel_rfl) (by kernel_rfl) (fun _ _ _ h => h) (Or.inl ⟨by kernel_rfl, fun _ _ => by kernel_rfl⟩) hS ?_
    simp only [Act.put, List.setIfInBounds_toArray, List.set_cons_zero, List.set_cons_succ, List.getElem_toArray, List.getElem_cons_zero, List.getElem_cons_succ]
    refine wpAnyH_take (i := 10) (v := .agg (as0 (.slice (some ⟨bw, off, none⟩) 0 0))) rfl (by kernel_rfl) (by kernel_rfl) (by kernel_rfl) (fun _ _ _ h => h) (yieldsIf_load_mid (by kernel_rfl) _ _ rfl _ _ rfl (as0 (.slice (some ⟨bw, off, none⟩) 0 0)).toList _ (fun W h => Since.range h hz2 hr2) hu85 rfl (by simpa using as0_size _)) hS ?_
    simp only [Act.put, List.setIfInBounds_toArray, List.set_cons_zero, List.set_cons_succ, List.getElem_toArray, List.getElem_cons_zero, List.getElem_cons_succ]
    refine wpAnyH_take (i := 11) (v := .func (.func 35) #[.agg (as0 (.slice (some ⟨bw, off, none⟩) 0 0))] #[]) rfl (by kernel_rfl) (by kernel_rfl) (by kernel_rfl) (fun _ _ _ h => h) (Or.inl ⟨by kernel_rfl, fun _ _ => by kernel_rfl⟩) hS ?_
    simp only [Act.put, List.setIfInBounds_toArray, List.set_cons_zero, List.set_cons_succ, List.getElem_toArray, List.getElem_cons_zero, List.getElem_cons_succ]
    refine wpAnyH_take (i := 13) (v := .agg (as0 (.slice (some ⟨bw, off, none⟩) 0 0))) rfl (by kernel_rfl) (by kernel_rfl) (by kernel_rfl) (fun _ _ _ h => h) (yieldsIf_load_mid (by kernel_rfl) _ _ rfl _ _ rfl (as0 (.slice (some ⟨bw, off, none⟩) 0 0)).toList _ (fun W h => Since.range h hz2 hr2) hu85 rfl (by simpa using as0_size _)) hS ?_
    simp only [Act.put, List.setIfInBounds_toArray, List.set_cons_zero, List.set_cons_succ, List.getElem_toArray, List.getElem_cons_zero, List.getElem_cons_succ]
    refine wpAnyH_take (i := 14) (v := .func (.func 36) #[.agg (as0 (.slice (some ⟨bw, off, none⟩) 0 0))] #[]) rfl (by kernel_rfl) (by kernel_rfl) (by kernel_rfl) (fun _ _ _ h => h) (Or.inl ⟨by kernel_rfl, fun _ _ => by kernel_rfl⟩) hS ?_
    simp only [Act.put, List.setIfInBounds_toArray, List.set_cons_zero, List.set_cons_succ, List.getElem_toArray, List.getElem_cons_zero, List.getElem_cons_succ]
    refine wpAnyH_take (i := 16) (v := .agg (as0 (.slice (some ⟨bw, off, none⟩) 0 0))) rfl (by kernel_rfl) (by kernel_rfl) (by kernel_rfl) (fun _ _ _ h => h) (yieldsIf_load_mid (by kernel_rfl) _ _ rfl _ _ rfl (as0 (.slice (some ⟨bw, off, none⟩) 0 0)).toList _ (fun W h => Since.range h hz2 hr2) hu85 rfl (by simpa using as0_size _)) hS ?_
    simp only [Act.put, List.setIfInBounds_toArray, List.set_cons_zero, List.set_cons_succ, List.getElem_toArray, List.getElem_cons_zero, List.getElem_cons_succ]
    refine wpAnyH_take (i := 17) (v := .func (.func 37) #[.agg (as0 (.slice (some ⟨bw, off, none⟩) 0 0))] #[]) rfl (by kernel_rfl) (by kernel_rfl) (by kernel_rfl) (fun _ _ _ h => h) (Or.inl ⟨by kernel_rfl, fun _ _ => by kernel_rfl⟩) hS ?_
    simp only [Act.put, List.setIfInBounds_toArray, List.set_cons_zero, List.set_cons_succ, List.getElem_toArray, List.getElem_cons_zero, List.getElem_cons_succ]
    refine wpAnyH_take (i := 19) (v := .agg (as0 (.slice (some ⟨bw, off, none⟩) 0 0))) rfl (by kernel_rfl) (by kernel_rfl) (by kernel_rfl) (fun _ _ _ h => h) (yieldsIf_load_mid (by kernel_rfl) _ _ rfl _ _ rfl (as0 (.slice (some ⟨bw, off, none⟩) 0 0)).toList _ (fun W h => Since.range h hz2 hr2) hu85 rfl (by simpa using as0_size _)) hS ?_
    simp only [Act.put, List.setIfInBounds_toArray, List.set_cons_zero, List.set_cons_succ, List.getElem_toArray, List.getElem_cons_zero, List.getElem_cons_succ]
    refine wpAnyH_take (i := 20) (v := .func (.func 38) #[.agg (as0 (.slice (some ⟨bw, off, none⟩) 0 0))] #[]) rfl (by kernel_rfl) (by kernel_rfl) (by kernel_rfl) (fun _ _ _ h => h) (Or.inl ⟨by kernel_rfl, fun _ _ => by kernel_rfl⟩) hS ?_
    simp only [Act.put, List.setIfInBounds_toArray, List.set_cons_zero, List.set_cons_succ, List.getElem_toArray, List.getElem_cons_zero, List.getElem_cons_succ]
    refine wpAnyH_take (i := 22) (v := .agg (as0 (.slice (some ⟨bw, off, none⟩) 0 0))) rfl (by kernel_rfl) (by kernel_rfl) (by kernel_rfl) (fun _ _ _ h => h) (yieldsIf_load_mid (by kernel_rfl) _ _ rfl _ _ rfl (as0 (.slice (some ⟨bw, off, none⟩) 0 0)).toList _ (fun W h => Since.range h hz2 hr2) hu85 rfl (by simpa using as0_size _)) hS ?_
    simp only [Act.put, List.setIfInBounds_toArray, List.set_cons_zero, List.set_cons_succ, List.getElem_toArray, List.getElem_cons_zero, List.getElem_cons_succ]
    refine wpAnyH_take (i := 23) (v := .func (.func 39) #[.agg (as0 (.slice (some ⟨bw, off, none⟩) 0 0))] #[]) rfl (by kernel_rfl) (by kernel_rfl) (by kernel_rfl) (fun _ _ _ h => h) (Or.inl ⟨by kernel_rfl, fun _ _ => by kernel_rfl⟩) hS ?_
    simp only [Act.put, List.setIfInBounds_toArray, List.set_cons_zero, List.set_cons_succ, List.getElem_toArray, List.getElem_cons_zero, List.getElem_cons_succ]
    refine wpAnyH_take (i := 25) (v := .agg (as0 (.slice (some ⟨bw, off, none⟩) 0 0))) rfl (by kernel_rfl) (by kernel_rfl) (by kernel_rfl) (fun _ _ _ h => h) (yieldsIf_load_mid (by kernel_rfl) _ _ rfl _ _ rfl (as0 (.slice (some ⟨bw, off, none⟩) 0 0)).toList _ (fun W h => Since.range h hz2 hr2) hu85 rfl (by simpa using as0_size _)) hS ?_
    simp only [Act.put, List.setIfInBounds_toArray, List.set_cons_zero, List.set_cons_succ, List.getElem_toArray, List.getElem_cons_zero, List.getElem_cons_succ]
    refine wpAnyH_take (i := 26) (v := .func (.func 40) #[.agg (as0 (.slice (some ⟨bw, off, none⟩) 0 0))] #[]) rfl (by kernel_rfl) (by kernel_rfl) (by kernel_rfl) (fun _ _ _ h => h) (Or.inl ⟨by kernel_rfl, fun _ _ => by kernel_rfl⟩) hS ?_
    simp only [Act.put, List.setIfInBounds_toArray, List.set_cons_zero, List.set_cons_succ, List.getElem_toArray, List.getElem_cons_zero, List.getElem_cons_succ]
    refine wpAnyH_take (i := 28) (v := .agg (as0 (.slice (some ⟨bw, off, none⟩) 0 0))) rfl (by kernel_rfl) (by kernel_rfl) (by kernel_rfl) (fun _ _ _ h => h) (yieldsIf_load_mid (by kernel_rfl) _ _ rfl _ _ rfl (as0 (.slice (some ⟨bw, off, none⟩) 0 0)).toList _ (fun W h => Since.range h hz2 hr2) hu85 rfl (by simpa using as0_size _)) hS ?_
    simp only [Act.put, List.setIfInBounds_toArray, List.set_cons_zero, List.set_cons_succ, List.getElem_toArray, List.getElem_cons_zero, List.getElem_cons_succ]
    refine wpAnyH_take (i := 29) (v := .func (.func 41) #[.agg (as0 (.slice (some ⟨bw, off, none⟩) 0 0))] #[]) rfl (by kernel_rfl) (by kernel_rfl) (by kernel_rfl) (fun _ _ _ h => h) (Or.inl ⟨by kernel_rfl, fun _ _ => by kernel_rfl⟩) hS ?_
    simp only [Act.put, List.setIfInBounds_toArray, List.set_cons_zero, List.set_cons_succ, List.getElem_toArray, List.getElem_cons_zero, List.getElem_cons_succ]
    refine wpAnyH_take (i := 31) (v := .agg (as0 (.slice (some ⟨bw, off, none⟩) 0 0))) rfl (by kernel_rfl) (by kernel_rfl) (by kernel_rfl) (fun _ _ _ h => h) (yieldsIf_load_mid (by kernel_rfl) _ _ rfl _ _ rfl (as0 (.slice (some ⟨bw, off, none⟩) 0 0)).toList _ (fun W h => Since.range h hz2 hr2) hu85 rfl (by simpa using as0_size _)) hS ?_
    simp only [Act.put, List.setIfInBounds_toArray, List.set_cons_zero, List.set_cons_succ, List.getElem_toArray, List.getElem_cons_zero, List.getElem_cons_succ]
    refine wpAnyH_take (i := 32) (v := .func (.func 42) #[.agg (as0 (.slice (some ⟨bw, off, none⟩) 0 0))] #[]) rfl (by kernel_rfl) (by kernel_rfl) (by kernel_rfl) (fun _ _ _ h => h) (Or.inl ⟨by kernel_rfl, fun _ _ => by kernel_rfl⟩) hS ?_
    simp only [Act.put, List.setIfInBounds_toArray, List.set_cons_zero, List.set_cons_succ, List.getElem_toArray, List.getElem_cons_zero, List.getElem_cons_succ]
    refine wpAnyH_take (i := 35) (v := .slice (some ⟨bw, off, none⟩) 1 1) rfl (by kernel_rfl) (by kernel_rfl) (by kernel_rfl) (fun _ _ _ h => h) (Or.inl ⟨by kernel_rfl, ?_⟩) hS ?_
    · intro W hW; go_simp
    simp only [Act.put, List.setIfInBounds_toArray, List.set_cons_zero, List.set_cons_succ, List.getElem_toArray, List.getElem_cons_zero, List.getElem_cons_succ]
    refine wpAnyH_take (i := 36) (v := .pointer (some ⟨bw, off, none⟩)) rfl (by kernel_rfl) (by kernel_rfl) (by kernel_rfl) (fun _ _ _ h => h) (Or.inl ⟨by kernel_rfl, ?_⟩) hS ?_
    · intro W hW; go_simp
    simp only [Act.put, List.setIfInBounds_toArray, List.set_cons_zero, List.set_cons_succ, List.getElem_toArray, List.getElem_cons_zero, List.getElem_cons_succ]
    have c3 : ∀ W, Since w2 W → W.cell? ⟨bw, off, none⟩ = some (.string ⟨#[99, 108, 111, 99, 107]⟩) := fun W h => by rw [h.cell hbw2]; exact c2
    refine wpAnyH_take (i := 37) (v := .string ⟨#[99, 108, 111, 99, 107]⟩) rfl (by kernel_rfl) (by kernel_rfl) (by kernel_rfl) (fun _ _ _ h => h) (Or.inl ⟨by kernel_rfl, ?_⟩) hS ?_
    · intro W hW; go_simp
    simp only [Act.put, List.setIfInBounds_toArray, List.set_cons_zero, List.set_cons_succ, List.getElem_toArray, List.getElem_cons_zero, List.getElem_cons_succ]
    refine wpAnyH_ready (rs := [0]) (by kernel_rfl) (by simp) ?_
    refine AllReadyH.cons rfl (fun K hK => ?_) AllReadyH.nil
    rw [if_pos (by kernel_rfl)]
    refine wp_of_value (v := .map (some w2.heap.size)) (w' := w2.drew.alloc (.map #[] 0)) (by kernel_rfl) ?_
    simp only [Act.put, List.setIfInBounds_toArray, List.set_cons_zero, List.set_cons_succ, List.getElem_toArray, List.getElem_cons_zero]
    refine hK.out _ _ (Since.alloc (Since.refl _).drew _) (fun hS => ?_)
    clear hK K
    refine bag_any qJ (by decide) qB 44 7 (QInv w2.drew (.func (.func 33) #[.agg (as0 (.slice (some ⟨bw, off, none⟩) 0 0))] #[])) _ ?hJ ?hne ?step ?fin 11 _ _ (size_of (by kernel_rfl)) (agree_of (by kernel_rfl)) (count_of (by kernel_rfl)) ?hi
    case hi => exact ⟨#[], 0, rfl, fun _ _ _ => rfl, fun h => absurd (h.symm.trans (six_of (by kernel_rfl))) (by decide)⟩
    case hJ =>
      intro listed hs hb hex i hir
      obtain ⟨j, hj, hjf⟩ := hex
      have h1 := (mem_ready.1 hir).1
      have h34 : listed.getD 34 true = false := hb 34 (by decide)
      have h38 : listed.getD 38 true = false := hb 38 (by decide)
      have h39 : listed.getD 39 true = false := hb 39 (by decide)
      have h40 : listed.getD 40 true = false := hb 40 (by decide)
      have h41 : listed.getD 41 true = false := hb 41 (by decide)
      refine Classical.byContradiction fun hiJ => ?_
      have h2 : qB i = false := (hb i hiJ).symm.trans h1
      have h3 : ([34, 38, 39, 40, 41, 42, 43] : List Nat).contains i = true := by
        unfold qB at h2
        revert h2
        cases ([34, 38, 39, 40, 41, 42, 43] : List Nat).contains i <;> simp
      simp at h3
      rcases h3 with rfl | rfl | rfl | rfl | rfl | rfl | rfl
      · simp only [qJ, List.mem_cons, List.not_mem_nil, or_false] at hj
        rcases hj with rfl | rfl | rfl | rfl | rfl | rfl | rfl | rfl | rfl | rfl | rfl <;> exact ready_needs hir (by kernel_rfl) hjf
      · exact ready_needs hir (by kernel_rfl) h34
      · exact ready_needs hir (by kernel_rfl) h38
      · exact ready_needs hir (by kernel_rfl) h39
      · exact ready_needs hir (by kernel_rfl) h39
      · exact ready_needs hir (by kernel_rfl) h40
      · exact ready_needs hir (by kernel_rfl) h41
    case hne =>
      intro listed hs hb j hj hjf
      have hin : ∀ k, k < 44 → listed.getD k true = true → listed.getD k false = true := fun k hk h => by
        have hk' : k < listed.size := by omega
        simp [Array.getD, hk'] at h ⊢; exact h
      have g0 : listed.getD 0 false = true := hin 0 (by omega) (hb 0 (by decide))
      simp only [qJ, List.mem_cons, List.not_mem_nil, or_false] at hj
      rcases hj with rfl | rfl | rfl | rfl | rfl | rfl | rfl | rfl | rfl | rfl | rfl
      · exact ready_is hjf [0, 2] (by kernel_rfl) (by simp only [List.mem_cons, List.not_mem_nil, or_false]; rintro k (rfl | rfl); (· exact g0); (· exact hin 2 (by omega) (hb 2 (by decide))))
      · exact ready_is hjf [0, 5] (by kernel_rfl) (by simp only [List.mem_cons, List.not_mem_nil, or_false]; rintro k (rfl | rfl); (· exact g0); (· exact hin 5 (by omega) (hb 5 (by decide))))
      · exact ready_is hjf [0, 8] (by kernel_rfl) (by simp only [List.mem_cons, List.not_mem_nil, or_false]; rintro k (rfl | rfl); (· exact g0); (· exact hin 8 (by omega) (hb 8 (by decide))))
      · exact ready_is hjf [0, 11] (by kernel_rfl) (by simp only [List.mem_cons, List.not_mem_nil, or_false]; rintro k (rfl | rfl); (· exact g0); (· exact hin 11 (by omega) (hb 11 (by decide))))
      · exact ready_is hjf [0, 14] (by kernel_rfl) (by simp only [List.mem_cons, List.not_mem_nil, or_false]; rintro k (rfl | rfl); (· exact g0); (· exact hin 14 (by omega) (hb 14 (by decide))))
      · exact ready_is hjf [0, 17] (by kernel_rfl) (by simp only [List.mem_cons, List.not_mem_nil, or_false]; rintro k (rfl | rfl); (· exact g0); (· exact hin 17 (by omega) (hb 17 (by decide))))
      · exact ready_is hjf [0, 20] (by kernel_rfl) (by simp only [List.mem_cons, List.not_mem_nil, or_false]; rintro k (rfl | rfl); (· exact g0); (· exact hin 20 (by omega) (hb 20 (by decide))))
      · exact ready_is hjf [0, 23] (by kernel_rfl) (by simp only [List.mem_cons, List.not_mem_nil, or_false]; rintro k (rfl | rfl); (· exact g0); (· exact hin 23 (by omega) (hb 23 (by decide))))
      · exact ready_is hjf [0, 26] (by kernel_rfl) (by simp only [List.mem_cons, List.not_mem_nil, or_false]; rintro k (rfl | rfl); (· exact g0); (· exact hin 26 (by omega) (hb 26 (by decide))))
      · exact ready_is hjf [0, 29] (by kernel_rfl) (by simp only [List.mem_cons, List.not_mem_nil, or_false]; rintro k (rfl | rfl); (· exact g0); (· exact hin 29 (by omega) (hb 29 (by decide))))
      · exact ready_is hjf [0, 32] (by kernel_rfl) (by simp only [List.mem_cons, List.not_mem_nil, or_false]; rintro k (rfl | rfl); (· exact g0); (· exact hin 32 (by omega) (hb 32 (by decide))))
    case step =>
      intro listed W i hi hif hI
      obtain ⟨es, c, rfl, hA, hB6⟩ := hI
      have hrest := QInv.step (w0 := w2.drew) (c := c) hA hB6 i hi hif
      have hfn := hA i hi hif
      simp only [qJ, List.mem_cons, List.not_mem_nil, or_false] at hi
      rcases hi with rfl | rfl | rfl | rfl | rfl | rfl | rfl | rfl | rfl | rfl | rfl
      · have hrun := run_insert_last (P := Tryz.prog) Tryz.underlying87 Tryz.underlying9 w2.drew es c (.string (qKey 3)) (.func (.func 32) #[.agg (as0 (.slice (some ⟨bw, off, none⟩) 0 0))] #[]) w2.drew.heap.size rfl trivial hfn
        refine wpOp_of rfl (by kernel_rfl) ?_
        refine wp_of_skip (w' := w2.drew.alloc (.map (es.push ⟨.string (qKey 3), .func (.func 32) #[.agg (as0 (.slice (some ⟨bw, off, none⟩) 0 0))] #[], c⟩) (c + 1))) (insert_run rfl hrun) ⟨rfl, Since.alloc (Since.refl _).drew _, hrest (.func (.func 32) #[.agg (as0 (.slice (some ⟨bw, off, none⟩) 0 0))] #[]) (fun h => absurd h (by decide))⟩
      · have hrun := run_insert_last (P := Tryz.prog) Tryz.underlying87 Tryz.underlying9 w2.drew es c (.string (qKey 6)) (.func (.func 33) #[.agg (as0 (.slice (some ⟨bw, off, none⟩) 0 0))] #[]) w2.drew.heap.size rfl trivial hfn
        refine wpOp_of rfl (by kernel_rfl) ?_
        refine wp_of_skip (w' := w2.drew.alloc (.map (es.push ⟨.string (qKey 6), .func (.func 33) #[.agg (as0 (.slice (some ⟨bw, off, none⟩) 0 0))] #[], c⟩) (c + 1))) (insert_run rfl hrun) ⟨rfl, Since.alloc (Since.refl _).drew _, hrest (.func (.func 33) #[.agg (as0 (.slice (some ⟨bw, off, none⟩) 0 0))] #[]) (fun _ => rfl)⟩
      · have hrun := run_insert_last (P := Tryz.prog) Tryz.underlying87 Tryz.underlying9 w2.drew es c (.string (qKey 9)) (.func (.func 34) #[.agg (as0 (.slice (some ⟨bw, off, none⟩) 0 0))] #[]) w2.drew.heap.size rfl trivial hfn
        refine wpOp_of rfl (by kernel_rfl) ?_
        refine wp_of_skip (w' := w2.drew.alloc (.map (es.push ⟨.string (qKey 9), .func (.func 34) #[.agg (as0 (.slice (some ⟨bw, off, none⟩) 0 0))] #[], c⟩) (c + 1))) (insert_run rfl hrun) ⟨rfl, Since.alloc (Since.refl _).drew _, hrest (.func (.func 34) #[.agg (as0 (.slice (some ⟨bw, off, none⟩) 0 0))] #[]) (fun h => absurd h (by decide))⟩
      · have hrun := run_insert_last (P := Tryz.prog) Tryz.underlying87 Tryz.underlying9 w2.drew es c (.string (qKey 12)) (.func (.func 35) #[.agg (as0 (.slice (some ⟨bw, off, none⟩) 0 0))] #[]) w2.drew.heap.size rfl trivial hfn
        refine wpOp_of rfl (by kernel_rfl) ?_
        refine wp_of_skip (w' := w2.drew.alloc (.map (es.push ⟨.string (qKey 12), .func (.func 35) #[.agg (as0 (.slice (some ⟨bw, off, none⟩) 0 0))] #[], c⟩) (c + 1))) (insert_run rfl hrun) ⟨rfl, Since.alloc (Since.refl _).drew _, hrest (.func (.func 35) #[.agg (as0 (.slice (some ⟨bw, off, none⟩) 0 0))] #[]) (fun h => absurd h (by decide))⟩
      · have hrun := run_insert_last (P := Tryz.prog) Tryz.underlying87 Tryz.underlying9 w2.drew es c (.string (qKey 15)) (.func (.func 36) #[.agg (as0 (.slice (some ⟨bw, off, none⟩) 0 0))] #[]) w2.drew.heap.size rfl trivial hfn
        refine wpOp_of rfl (by kernel_rfl) ?_
        refine wp_of_skip (w' := w2.drew.alloc (.map (es.push ⟨.string (qKey 15), .func (.func 36) #[.agg (as0 (.slice (some ⟨bw, off, none⟩) 0 0))] #[], c⟩) (c + 1))) (insert_run rfl hrun) ⟨rfl, Since.alloc (Since.refl _).drew _, hrest (.func (.func 36) #[.agg (as0 (.slice (some ⟨bw, off, none⟩) 0 0))] #[]) (fun h => absurd h (by decide))⟩
      · have hrun := run_insert_last (P := Tryz.prog) Tryz.underlying87 Tryz.underlying9 w2.drew es c (.string (qKey 18)) (.func (.func 37) #[.agg (as0 (.slice (some ⟨bw, off, none⟩) 0 0))] #[]) w2.drew.heap.size rfl trivial hfn
        refine wpOp_of rfl (by kernel_rfl) ?_
        refine wp_of_skip (w' := w2.drew.alloc (.map (es.push ⟨.string (qKey 18), .func (.func 37) #[.agg (as0 (.slice (some ⟨bw, off, none⟩) 0 0))] #[], c⟩) (c + 1))) (insert_run rfl hrun) ⟨rfl, Since.alloc (Since.refl _).drew _, hrest (.func (.func 37) #[.agg (as0 (.slice (some ⟨bw, off, none⟩) 0 0))] #[]) (fun h => absurd h (by decide))⟩
      · have hrun := run_insert_last (P := Tryz.prog) Tryz.underlying87 Tryz.underlying9 w2.drew es c (.string (qKey 21)) (.func (.func 38) #[.agg (as0 (.slice (some ⟨bw, off, none⟩) 0 0))] #[]) w2.drew.heap.size rfl trivial hfn
        refine wpOp_of rfl (by kernel_rfl) ?_
        refine wp_of_skip (w' := w2.drew.alloc (.map (es.push ⟨.string (qKey 21), .func (.func 38) #[.agg (as0 (.slice (some ⟨bw, off, none⟩) 0 0))] #[], c⟩) (c + 1))) (insert_run rfl hrun) ⟨rfl, Since.alloc (Since.refl _).drew _, hrest (.func (.func 38) #[.agg (as0 (.slice (some ⟨bw, off, none⟩) 0 0))] #[]) (fun h => absurd h (by decide))⟩
      · have hrun := run_insert_last (P := Tryz.prog) Tryz.underlying87 Tryz.underlying9 w2.drew es c (.string (qKey 24)) (.func (.func 39) #[.agg (as0 (.slice (some ⟨bw, off, none⟩) 0 0))] #[]) w2.drew.heap.size rfl trivial hfn
        refine wpOp_of rfl (by kernel_rfl) ?_
        refine wp_of_skip (w' := w2.drew.alloc (.map (es.push ⟨.string (qKey 24), .func (.func 39) #[.agg (as0 (.slice (some ⟨bw, off, none⟩) 0 0))] #[], c⟩) (c + 1))) (insert_run rfl hrun) ⟨rfl, Since.alloc (Since.refl _).drew _, hrest (.func (.func 39) #[.agg (as0 (.slice (some ⟨bw, off, none⟩) 0 0))] #[]) (fun h => absurd h (by decide))⟩
      · have hrun := run_insert_last (P := Tryz.prog) Tryz.underlying87 Tryz.underlying9 w2.drew es c (.string (qKey 27)) (.func (.func 40) #[.agg (as0 (.slice (some ⟨bw, off, none⟩) 0 0))] #[]) w2.drew.heap.size rfl trivial hfn
        refine wpOp_of rfl (by kernel_rfl) ?_
        refine wp_of_skip (w' := w2.drew.alloc (.map (es.push ⟨.string (qKey 27), .func (.func 40) #[.agg (as0 (.slice (some ⟨bw, off, none⟩) 0 0))] #[], c⟩) (c + 1))) (insert_run rfl hrun) ⟨rfl, Since.alloc (Since.refl _).drew _, hrest (.func (.func 40) #[.agg (as0 (.slice (some ⟨bw, off, none⟩) 0 0))] #[]) (fun h => absurd h (by decide))⟩
      · have hrun := run_insert_last (P := Tryz.prog) Tryz.underlying87 Tryz.underlying9 w2.drew es c (.string (qKey 30)) (.func (.func 41) #[.agg (as0 (.slice (some ⟨bw, off, none⟩) 0 0))] #[]) w2.drew.heap.size rfl trivial hfn
        refine wpOp_of rfl (by kernel_rfl) ?_
        refine wp_of_skip (w' := w2.drew.alloc (.map (es.push ⟨.string (qKey 30), .func (.func 41) #[.agg (as0 (.slice (some ⟨bw, off, none⟩) 0 0))] #[], c⟩) (c + 1))) (insert_run rfl hrun) ⟨rfl, Since.alloc (Since.refl _).drew _, hrest (.func (.func 41) #[.agg (as0 (.slice (some ⟨bw, off, none⟩) 0 0))] #[]) (fun h => absurd h (by decide))⟩
      · have hrun := run_insert_last (P := Tryz.prog) Tryz.underlying87 Tryz.underlying9 w2.drew es c (.string (qKey 33)) (.func (.func 42) #[.agg (as0 (.slice (some ⟨bw, off, none⟩) 0 0))] #[]) w2.drew.heap.size rfl trivial hfn
        refine wpOp_of rfl (by kernel_rfl) ?_
        refine wp_of_skip (w' := w2.drew.alloc (.map (es.push ⟨.string (qKey 33), .func (.func 42) #[.agg (as0 (.slice (some ⟨bw, off, none⟩) 0 0))] #[], c⟩) (c + 1))) (insert_run rfl hrun) ⟨rfl, Since.alloc (Since.refl _).drew _, hrest (.func (.func 42) #[.agg (as0 (.slice (some ⟨bw, off, none⟩) 0 0))] #[]) (fun h => absurd h (by decide))⟩
    case fin =>
      intro listed W hs hb hall hI
      obtain ⟨es, c, rfl, _, h6⟩ := hI
      obtain ⟨i6, hi6⟩ := h6 (hall 6 (by decide))
      obtain rfl := all_of hs hb hall
      have hlook := run_lookup_last (P := Tryz.prog) Tryz.underlying87 Tryz.underlying9 w2.drew es c (.string (qKey 6)) w2.drew.heap.size rfl trivial i6 _ hi6
      have hSe : Since w2 (w2.drew.alloc (.map es c)) := Since.alloc (Since.refl _).drew _
      have hBe : Below w.heap.size w (w2.drew.alloc (.map es c)) := hBw.drew.alloc hBw.size _
      refine wpAnyH_take (i := 34) (v := .map (some w2.drew.heap.size)) rfl (by kernel_rfl) (by kernel_rfl) (by kernel_rfl) (fun _ _ _ h => h) (Or.inl ⟨by kernel_rfl, fun _ _ => by kernel_rfl⟩) hSe ?_
      simp only [Act.put, List.setIfInBounds_toArray, List.set_cons_zero, List.set_cons_succ, List.getElem_toArray, List.getElem_cons_zero, List.getElem_cons_succ]
      refine wpAnyH_ready (rs := [38]) (by kernel_rfl) (by simp) ?_
      refine AllReadyH.cons rfl (fun K hK => ?_) AllReadyH.nil
      rw [if_pos (by kernel_rfl)]
      refine wp_of_value (lookup_run rfl hlook) ?_
      simp only [Act.put, List.setIfInBounds_toArray, List.set_cons_zero, List.set_cons_succ, List.getElem_toArray, List.getElem_cons_zero, List.getElem_cons_succ]
      refine hK.out _ _ hSe (fun hS => ?_)
      clear hK K
      refine wpAnyH_take (i := 39) (v := .tuple #[.func (.func 33) #[.agg (as0 (.slice (some ⟨bw, off, none⟩) 0 0))] #[], .bool true]) rfl (by kernel_rfl) (by kernel_rfl) (by kernel_rfl) (fun _ _ _ h => h) (Or.inl ⟨by kernel_rfl, fun _ _ => by kernel_rfl⟩) hSe ?_
      simp only [Act.put, List.setIfInBounds_toArray, List.set_cons_zero, List.set_cons_succ, List.getElem_toArray, List.getElem_cons_zero, List.getElem_cons_succ]
      refine wpAnyH_take (i := 40) (v := .func (.func 33) #[.agg (as0 (.slice (some ⟨bw, off, none⟩) 0 0))] #[]) rfl (by kernel_rfl) (by kernel_rfl) (by kernel_rfl) (fun _ _ _ h => h) (Or.inl ⟨by kernel_rfl, fun _ _ => by kernel_rfl⟩) hSe ?_
      simp only [Act.put, List.setIfInBounds_toArray, List.set_cons_zero, List.set_cons_succ, List.getElem_toArray, List.getElem_cons_zero, List.getElem_cons_succ]
      refine wpAnyH_take (i := 41) (v := .bool true) rfl (by kernel_rfl) (by kernel_rfl) (by kernel_rfl) (fun _ _ _ h => h) (Or.inl ⟨by kernel_rfl, fun _ _ => by kernel_rfl⟩) hSe ?_
      simp only [Act.put, List.setIfInBounds_toArray, List.set_cons_zero, List.set_cons_succ, List.getElem_toArray, List.getElem_cons_zero, List.getElem_cons_succ]
      refine wpAnyH_take (i := 42) (v := .func (.func 33) #[.agg (as0 (.slice (some ⟨bw, off, none⟩) 0 0))] #[]) rfl (by kernel_rfl) (by kernel_rfl) (by kernel_rfl) (fun _ _ _ h => h) (Or.inl ⟨by kernel_rfl, fun _ _ => by kernel_rfl⟩) hSe ?_
      simp only [Act.put, List.setIfInBounds_toArray, List.set_cons_zero, List.set_cons_succ, List.getElem_toArray, List.getElem_cons_zero, List.getElem_cons_succ]
      refine wpAnyH_take (i := 43) (v := .bool true) rfl (by kernel_rfl) (by kernel_rfl) (by kernel_rfl) (fun _ _ _ h => h) (Or.inl ⟨by kernel_rfl, fun _ _ => by kernel_rfl⟩) hSe ?_
      simp only [Act.put, List.setIfInBounds_toArray, List.set_cons_zero, List.set_cons_succ, List.getElem_toArray, List.getElem_cons_zero, List.getElem_cons_succ]
      refine ⟨by kernel_rfl, ?_⟩
      go_wp2_with fail
      refine (must_t _).mono ?_; rintro e w' ⟨rfl, rfl⟩
      go_wp2_with fail
      refine (clock_any _ _ _ (hL.below hBe hL.size)).mono ?_
      rintro e w5 ⟨rfl, hB5⟩
      go_wp2_with fail
      go_ret
      exact ⟨rfl, hBe.trans (hB5.mono hBe.size)⟩
  · simp at hbad


set_option maxHeartbeats 1000000 in
set_option maxRecDepth 100000 in
/-- answer.Query at the empty state and "clock" -/
theorem query_clock (w : World) (hL : Laid w) :
    Calls Tryz.prog 10 #[.agg st0, .string ⟨#[99, 108, 111, 99, 107]⟩] w fun e w' => e = .returned (.tuple #[.string ⟨#[99, 108, 111, 99, 107, 32, 48]⟩, .bool true]) ∧ Below w.heap.size w w' := by
  have hmf := run_makeFunc
  have hS0 : Since (w.alloc (.cells st0 58)) ((((w.alloc (.cells st0 58)).alloc (.cells #[.string ⟨#[99, 108, 111, 99, 107]⟩] 9)).alloc (.cells #[.string ⟨#[]⟩] 9)).alloc (.cells #[.bool false] 4)) := (((Since.refl _).alloc _).alloc _).alloc _
  have hB0 : Below w.heap.size w ((((w.alloc (.cells st0 58)).alloc (.cells #[.string ⟨#[99, 108, 111, 99, 107]⟩] 9)).alloc (.cells #[.string ⟨#[]⟩] 9)).alloc (.cells #[.bool false] 4)) :=
    ((Below.refl _ _).alloc (Nat.le_refl _) _).trans (Below.mono hS0 (by simp))
  have hr0 : (w.alloc (.cells st0 58)).rangeAt w.heap.size 0 st0.toList := fun j v hv => by
    rw [cell_of_row _ _ _ _ _ _ (heap_last w _)]; simpa using hv
  have h1 := query1_clock (w.heap.size + 1) w.heap.size _ (hL.below hB0 hL.size) (by simp [go_sem]) (by first | (simp; done) | (simp; omega)) (Since.range hS0 (by simp) hr0) (by first | (simp; done) | (simp; omega))
  have ht := tried_str 31 #[.pointer (some ⟨w.heap.size + 1, 0, none⟩), .pointer (some ⟨w.heap.size, 0, none⟩)] ((w.alloc (.cells st0 58)).alloc (.cells #[.string ⟨#[99, 108, 111, 99, 107]⟩] 9)) (fun x _ => x = some ⟨#[99, 108, 111, 99, 107, 32, 48]⟩) (fun _ => rfl) (by refine h1.mono fun e w' h => ?_; refine ⟨.inl ⟨_, h.1, rfl⟩, ?_⟩; simpa using h.2)
  have Ht := Lib.hid ht
  clear ht h1 hr0 hS0 hB0
  go_enter Tryz.func10, Tryz.ntmps10
  go_wp2_with fail
  refine Ht.out.mono ?_
  rintro e w' ⟨x, w1, rfl, rfl, hB⟩
  go_wp2_with fail
  go_ret2
  exact ⟨rfl, (((Below.refl _ _).alloc (Nat.le_refl _) _).alloc (by simp) _).trans (hB.mono (by first | (simp; done) | (simp; omega)))⟩
end Go.Proofs.YtogmajeaaabjlaaGreatDoor
