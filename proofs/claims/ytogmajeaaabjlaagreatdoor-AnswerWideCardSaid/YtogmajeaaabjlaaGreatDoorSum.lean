/- The contracts of moidorelaw28.sum and moidorelaw28.digits: the number of a wide number's digits. -/
import Derived.Test.YtogmajeaaabjlaaGreatDoorWideB
import Derived.Test.YtogmajeaaabjlaaGreatDoorWv
import Derived.Test.YtogmajeaaabjlaaGreatDoorSince
import Derived.Test.YtogmajeaaabjlaaGreatDoorShelf
import Derived.WalkKit
import Derived.WalkSpells
import Derived.WalkLawsBesides
import Derived.Lib.Hide
import Derived.Deep.QuietTactic
import Derived.BigQuiet
import Derived.Deep.LoopGhost
import Derived.BigRegion
import Derived.Deep.RegionWith
import Derived.Deep.RegionHeld3
import Derived.Deep.CutRange
namespace Go.Proofs.YtogmajeaaabjlaaGreatDoor
open Go.RowKit

theorem sum_int (ah al bh bl : Int) (w : World) :
    Calls Tryz.prog 12 #[.agg #[.int .i64 ah, .int .u64 al], .agg #[.int .i64 bh, .int .u64 bl]] w fun e w' => e = .returned (.agg #[.int .i64 (sumH ah al bh bl), .int .u64 (sumL al bl)]) ∧ Below w.heap.size w w' := by
  have e2 : sumL al bl = IntKind.u64.wrap (al + bl) := rfl
  by_cases h : IntKind.u64.wrap (al + bl) < al
  · have e : sumH ah al bh bl = RowKit.wrap64 (RowKit.wrap64 (ah + bh) + 1) := by unfold sumH sumL; rw [if_pos h]; simp only [IntKind.wrap_i64, RowKit.wrap64]
    rw [e, e2]
    clear e e2
    go_enter Tryz.func12, Tryz.ntmps12
    go_wp2_with fail
    exact bodyPost_ret (v := .agg #[.int .i64 (RowKit.wrap64 (RowKit.wrap64 (ah + bh) + 1)), .int .u64 (IntKind.u64.wrap (al + bl))]) (by simp [results, Tryz.results12, go_sem]) rfl
      ⟨rfl, (((Below.refl _ _).alloc (Nat.le_refl _) _).alloc (by simp) _).alloc (by simp; omega) _⟩
  · have e : sumH ah al bh bl = RowKit.wrap64 (ah + bh) := by unfold sumH sumL; rw [if_neg h]; simp only [IntKind.wrap_i64, RowKit.wrap64]
    rw [e, e2]
    clear e e2
    go_enter Tryz.func12, Tryz.ntmps12
    go_wp2_with fail
    exact bodyPost_ret (v := .agg #[.int .i64 (RowKit.wrap64 (ah + bh)), .int .u64 (IntKind.u64.wrap (al + bl))]) (by simp [results, Tryz.results12, go_sem]) rfl
      ⟨rfl, (((Below.refl _ _).alloc (Nat.le_refl _) _).alloc (by simp) _).alloc (by simp; omega) _⟩

/-- The two cells of a number. -/
theorem WV_cells (v : Nat) : WV v = .agg #[.int .i64 (wh v), .int .u64 (wl v)] := rfl
theorem sum_any (a b : Nat) (w : World) :
    Calls Tryz.prog 12 #[.agg #[.int .i64 (wh a), .int .u64 (wl a)], .agg #[.int .i64 (wh b), .int .u64 (wl b)]] w fun e w' => e = .returned (.agg #[.int .i64 (wh (m128 (a + b))), .int .u64 (wl (m128 (a + b)))]) ∧ Below w.heap.size w w' := by
  have h := sum_int (wh a) (wl a) (wh b) (wl b) w
  rw [sum_low, sum_high] at h
  exact h

theorem not_empty (s : ByteArray) (h : 0 < s.size) : ¬ s.toList = [] := by
  rw [ByteArray.toList_eq]
  intro h2
  have h3 : s.data.toList.length = s.size := by simp
  rw [h2] at h3
  have h4 : s.size = 0 := h3.symm
  omega
theorem s48 (s : ByteArray) (h : 0 < s.size) (h48 : s = ⟨#[48]⟩) : ((s[0].toNat : Int) == 48) = true ∧ ((s[0].toNat : Int) != 48) = false ∧ (s.toList == [48]) = true := by
  subst h48
  refine ⟨by rfl, by rfl, ?_⟩
  rw [ByteArray.toList_eq]; rfl
theorem text_inj {s t : ByteArray} (h : s.toList = t.toList) : s = t := by
  rw [ByteArray.toList_eq, ByteArray.toList_eq] at h
  cases s; cases t
  simp at h
  rw [h]
theorem small_wh (d : Nat) (h : d < 18446744073709551616) : wh d = 0 := by unfold wh; rw [Nat.div_eq_of_lt h]; rfl
theorem small_wl (d : Nat) (h : d < 18446744073709551616) : wl d = (d : Int) := by unfold wl; rw [Nat.mod_eq_of_lt h]
theorem two_set {W : World} {b : Nat} {x y x' y' : Value} (h0 : W.cell? ⟨b, 0, none⟩ = some x) (h1 : W.cell? ⟨b, 1, none⟩ = some y) :
    ((W.setCell ⟨b, 0, none⟩ x').setCell ⟨b, 1, none⟩ y').cell? ⟨b, 0, none⟩ = some x' ∧ ((W.setCell ⟨b, 0, none⟩ x').setCell ⟨b, 1, none⟩ y').cell? ⟨b, 1, none⟩ = some y' := by
  constructor <;> simp [go_sem, h0, h1]
/-- One round's number is ten times the one before and the digit. -/
def DvAt (t : ByteArray) (j v : Nat) : Prop := v = dv 0 (t.data.toList.take j)

/-- What the digits give. -/
def digR (s t : ByteArray) : Nat := if s = t then dv 0 t.data.toList else ng (dv 0 t.data.toList)

set_option maxHeartbeats 1000000 in
theorem digits_dec (s t : ByteArray) (w : World) (ht : (⟨(Lib.trimPrefix s.data.toList [45]).toArray⟩ : ByteArray) = t) (hd : ∀ (j : Nat) (h : j < t.size), 48 ≤ t[j].toNat ∧ t[j].toNat ≤ 57) (hn : t.size ≤ 4294967296)
    (h00 : 0 < t.size) (hcase : (s = t ∧ 0 < t.size ∧ t[0].toNat ≠ 48) ∨ (s ≠ t ∧ dv 0 t.data.toList ≤ 170141183460469231731687303715884105728 ∧ t[0].toNat ≠ 48) ∨ (s = t ∧ t = ⟨#[48]⟩)) :
    Calls Tryz.prog 5 #[.string s] w fun e w' => e = .returned (.tuple #[.agg #[.int .i64 (wh (digR s t)), .int .u64 (wl (digR s t))], .bool true]) ∧ Below w.heap.size w w' := by
  obtain ⟨R, hR⟩ : ∃ R, digR s t = R := ⟨_, rfl⟩
  rw [hR]
  have HR := Lib.hid hR
  clear hR
  have hq := Tryz.strings_TrimPrefix s ⟨#[45]⟩ ((w.alloc (.cells #[.int .i64 0, .int .u64 0] 24)).alloc (.cells #[.int .i64 0, .int .u64 0] 24))
  rw [show ((⟨#[45]⟩ : ByteArray).data.toList) = [45] from rfl, ht] at hq
  have Hq := Lib.hid hq
  have Ht := Lib.hid ht
  have Hd := Lib.hid hd
  obtain ⟨W1, hW1⟩ : ∃ W1, W1 = ((w.alloc (.cells #[.int .i64 0, .int .u64 0] 24)).alloc (.cells #[.int .i64 0, .int .u64 0] 24)) := ⟨_, rfl⟩
  have HW1 := Lib.hid hW1
  clear hq ht hd hW1
  go_enter Tryz.func5, Tryz.ntmps5
  go_wp2_with fail
  refine Hq.out.mono ?_
  rintro e w1 ⟨rfl, rfl⟩
  go_wp2_with fail
  go_loopg [6, 7, 8] t.size (fun k s6 _ _ wr => ∃ j v : Nat, s6 = .int .i64 j ∧ j + k = t.size ∧ Hid (DvAt t j v) ∧ wr.cell? ⟨w.heap.size + 1, 0, none⟩ = some (.int .i64 (wh v)) ∧ wr.cell? ⟨w.heap.size + 1, 1, none⟩ = some (.int .u64 (wl v)) ∧ wr.frozen? ⟨w.heap.size + 1, 0, none⟩ = false ∧ wr.frozen? ⟨w.heap.size + 1, 1, none⟩ = false ∧ Below (w.heap.size + 1) W1 wr)
  case atStart =>
    refine ⟨0, 0, rfl, by simp, rfl, ?_, ?_, ?_, ?_, ?_⟩
    · simp [go_sem]; rfl
    · simp [go_sem]; rfl
    · simp [go_sem]
    · simp [go_sem]
    · rw [HW1.out]; exact Below.refl _ _
  case round =>
    obtain ⟨j, v, rfl, hjk, hv, c0, c1, z0, z1, hB⟩ := hrel
    by_cases hlt : j < t.size
    · obtain ⟨hd1, hd2⟩ := Hd.out j hlt
      have hs1 : w.heap.size + 1 < wr.heap.size := by have h4 := hB.size; rw [HW1.out] at h4; simp at h4; omega
      have hx1 : 48 ≤ (t[j].toNat : Int) := by omega
      have hx2 : (t[j].toNat : Int) ≤ 57 := by omega
      have Hjk := Lib.hid hjk
      clear hjk
      go_wp2_with fail
      refine (sum_any v v _).mono ?_
      rintro e w2 ⟨rfl, hB2⟩
      obtain ⟨v2, hv2⟩ : ∃ v2, v2 = m128 (v + v) := ⟨_, rfl⟩
      rw [← hv2]
      have Hv2 := Lib.hid hv2
      clear hv2
      have a0 : w2.cell? ⟨w.heap.size + 1, 0, none⟩ = some (.int .i64 (wh v)) := by rw [hB2.cell (by simpa using hs1)]; exact c0
      have a1 : w2.cell? ⟨w.heap.size + 1, 1, none⟩ = some (.int .u64 (wl v)) := by rw [hB2.cell (by simpa using hs1)]; exact c1
      have hs2 : w.heap.size + 1 < w2.heap.size := by have := hB2.size; omega
      go_wp2_with fail
      have f0 : (w2.alloc (.cells #[.int .i64 (wh v2), .int .u64 (wl v2)] 24)).cell? ⟨w2.heap.size, 0, none⟩ = some (.int .i64 (wh v2)) := by simp [go_sem]
      have f1 : (w2.alloc (.cells #[.int .i64 (wh v2), .int .u64 (wl v2)] 24)).cell? ⟨w2.heap.size, 1, none⟩ = some (.int .u64 (wl v2)) := by simp [go_sem]
      have e0 : (w2.alloc (.cells #[.int .i64 (wh v2), .int .u64 (wl v2)] 24)).cell? ⟨w.heap.size + 1, 0, none⟩ = some (.int .i64 (wh v)) := by rw [← a0]; exact (((Below.refl _ w2).alloc (Nat.le_refl _) _).cell (by simpa using hs2))
      have e1 : (w2.alloc (.cells #[.int .i64 (wh v2), .int .u64 (wl v2)] 24)).cell? ⟨w.heap.size + 1, 1, none⟩ = some (.int .u64 (wl v)) := by rw [← a1]; exact (((Below.refl _ w2).alloc (Nat.le_refl _) _).cell (by simpa using hs2))
      have hS3 : Since wr (w2.alloc (.cells #[.int .i64 (wh v2), .int .u64 (wl v2)] 24)) := Since.alloc hB2 _
      have hz3 : w2.heap.size < (w2.alloc (.cells #[.int .i64 (wh v2), .int .u64 (wl v2)] 24)).heap.size := by simp
      have hy3 : w.heap.size + 1 < (w2.alloc (.cells #[.int .i64 (wh v2), .int .u64 (wl v2)] 24)).heap.size := by simp; omega
      generalize w2.alloc (.cells #[.int .i64 (wh v2), .int .u64 (wl v2)] 24) = w3 at f0 f1 e0 e1 hS3 hz3 hy3 ⊢
      generalize w2.heap.size = b2 at f0 f1 hz3 ⊢
      clear a0 a1 hB2 hs2 w2
      have r0 : ∀ W, Since w3 W → W.cell? ⟨b2, 0, none⟩ = some (.int .i64 (wh v2)) := fun W h => by rw [h.cell hz3]; exact f0
      have r1 : ∀ W, Since w3 W → W.cell? ⟨b2, 1, none⟩ = some (.int .u64 (wl v2)) := fun W h => by rw [h.cell hz3]; exact f1
      have r2 : ∀ W, Since w3 W → W.cell? ⟨w.heap.size + 1, 0, none⟩ = some (.int .i64 (wh v)) := fun W h => by rw [h.cell hy3]; exact e0
      have r3 : ∀ W, Since w3 W → W.cell? ⟨w.heap.size + 1, 1, none⟩ = some (.int .u64 (wl v)) := fun W h => by rw [h.cell hy3]; exact e1
      have Hv := Lib.hid hS3
      go_cut [8] from 11 to 45 (fun s8 wx => ∃ b8 : Nat, s8 = .pointer (some ⟨b8, 0, none⟩) ∧ wx.cell? ⟨b8, 0, none⟩ = some (.int .i64 (wh (m128 (m128 (v2 + v2) + v)))) ∧ wx.cell? ⟨b8, 1, none⟩ = some (.int .u64 (wl (m128 (m128 (v2 + v2) + v)))) ∧ Since w3 wx ∧ w3.heap.size ≤ b8 ∧ b8 < wx.heap.size)
      case first =>
        go_region_held3 (fun W => Since w3 W) (first | assumption | exact (Since.refl _).drew | exact Since.alloc ‹_› _ | exact Since.call ‹_› ‹_› | exact Since.alloc (Since.call (Since.call (Since.refl _).drew ‹_›) ‹_›) _ | exact Since.set (Since.set ‹_› (by first | exact Nat.le_refl _ | omega) _ _) (by first | exact Nat.le_refl _ | omega) _ _)
          (first | (go_at_call 12; refine (sum_any _ _ _).mono ?_; rintro e w4 ⟨rfl, hB4⟩; have hz4 := Since.size (Since.call ‹_› hB4); have hy4 := hB4.size; (try simp at hy4); (try have hx4 := Nat.lt_of_succ_le hy4); obtain ⟨hc4, hf4⟩ := bcell hB4))
        all_goals
          go_wp2_with fail
          go_meet
          refine ⟨_, rfl, ?_, ?_, ‹_›, ?_, ?_⟩
          · first | (simp [go_sem]; done) | (simp [*, go_sem]; done)
          · first | (simp [go_sem]; done) | (simp [*, go_sem]; done)
          · first | exact Nat.le_refl _ | omega
          · first | (simp; done) | (simp; omega)
      case rest =>
        obtain ⟨b8, rfl, g0, g1, hS5, hb8, hb8'⟩ := hcut
        clear f0 f1 hz3 r0 r1 r2 r3
        have hSr : Since wr wc := Since.call hS3 hS5
        have p0 : wc.cell? ⟨w.heap.size + 1, 0, none⟩ = some (.int .i64 (wh v)) := by rw [hSr.cell hs1]; exact c0
        have p1 : wc.cell? ⟨w.heap.size + 1, 1, none⟩ = some (.int .u64 (wl v)) := by rw [hSr.cell hs1]; exact c1
        have q0 : wc.frozen? ⟨w.heap.size + 1, 0, none⟩ = false := by rw [hSr.frozen hs1]; exact z0
        have q1 : wc.frozen? ⟨w.heap.size + 1, 1, none⟩ = false := by rw [hSr.frozen hs1]; exact z1
        have hs5 : w.heap.size + 1 < wc.heap.size := by have := hSr.size; omega
        obtain ⟨d, hd⟩ : ∃ d, d = t[j].toNat - 48 := ⟨_, rfl⟩
        have hw1 : IntKind.u8.wrap ((t[j].toNat : Int) - 48) = (d : Int) := by rw [IntWalk.u8_in _ (by omega)]; omega
        have hw2 : IntKind.u64.wrap (d : Int) = (d : Int) := w64_id _ (by omega) (by omega)
        obtain ⟨v3, hv3⟩ : ∃ v3, v3 = m128 (m128 (v2 + v2) + v) := ⟨_, rfl⟩
        rw [← hv3] at g0 g1
        have hfin : m128 (m128 (v3 + v3) + d) = m128 (10 * v + d) := by rw [hv3, Hv2.out]; exact ten_times v d
        have hdl : d < 18446744073709551616 := by omega
        have fin1 : sumH (sumH (wh v3) (wl v3) (wh v3) (wl v3)) (sumL (wl v3) (wl v3)) 0 (d : Int) = wh (m128 (10 * v + d)) := by
          have h := sum_high (m128 (v3 + v3)) d
          rw [small_wh d hdl, small_wl d hdl] at h
          rw [sum_low, sum_high, h, hfin]
        have fin2 : sumL (sumL (wl v3) (wl v3)) (d : Int) = wl (m128 (10 * v + d)) := by
          have h := sum_low (m128 (v3 + v3)) d
          rw [small_wl d hdl] at h
          rw [sum_low, h, hfin]
        have hdv : DvAt t (j + 1) (m128 (10 * v + d)) := by
          have h : v = dv 0 (t.data.toList.take j) := hv.out
          unfold DvAt
          rw [dv_take t.data.toList j (by simpa using hlt), ← h, hd]
          rfl
        have Hf1 := Lib.hid fin1; have Hf2 := Lib.hid fin2; have Hdv := Lib.hid hdv
        have hBc : Below (w.heap.size + 1) W1 wc := hB.trans (Below.mono hSr (by omega))
        clear hv3 hd e0 e1 hy3 c0 c1 z0 z1 hS3 fin1 fin2 hdv hfin hdl hSr
        go_wp2_with fail
        go_region_with (first | (go_at_call 12; refine (sum_int _ _ _ _ _).mono ?_; rintro e w6 ⟨rfl, hB6⟩; have hx6 : w.heap.size + 1 < w6.heap.size := Nat.lt_of_lt_of_le (by first | exact hs5 | assumption) hB6.size; obtain ⟨hc6, hf6⟩ := bcell hB6; have hcA := hc6 (w.heap.size + 1) 0 (by first | exact hs5 | assumption); have hcB := hc6 (w.heap.size + 1) 1 (by first | exact hs5 | assumption); have hfA := hf6 (w.heap.size + 1) 0 (by first | exact hs5 | assumption); have hfB := hf6 (w.heap.size + 1) 1 (by first | exact hs5 | assumption); clear hc6 hf6))
        all_goals
          rw [Hf1.out, Hf2.out]
          rename_i wa hBa hxa hca hcb hfa hfb
          have hF : Below (w.heap.size + 1) W1 w6 := (hBc.drew.trans (hBa.mono (Nat.le_of_lt hs5))).trans (hB6.mono (Nat.le_of_lt hxa))
          have cA : w6.cell? ⟨w.heap.size + 1, 0, none⟩ = some (.int .i64 (wh v)) := by rw [hcA, hca]; exact p0
          have cB : w6.cell? ⟨w.heap.size + 1, 1, none⟩ = some (.int .u64 (wl v)) := by rw [hcB, hcb]; exact p1
          have zA : w6.frozen? ⟨w.heap.size + 1, 0, none⟩ = false := by rw [hfA, hfa]; exact q0
          have zB : w6.frozen? ⟨w.heap.size + 1, 1, none⟩ = false := by rw [hfB, hfb]; exact q1
          obtain ⟨t0, t1⟩ := two_set (x' := .int .i64 (wh (m128 (10 * v + d)))) (y' := .int .u64 (wl (m128 (10 * v + d)))) cA cB
          have y0 : ((w6.setCell ⟨w.heap.size + 1, 0, none⟩ (.int .i64 (wh (m128 (10 * v + d))))).setCell ⟨w.heap.size + 1, 1, none⟩ (.int .u64 (wl (m128 (10 * v + d))))).frozen? ⟨w.heap.size + 1, 0, none⟩ = false := by simp [go_sem, zA]
          have y1 : ((w6.setCell ⟨w.heap.size + 1, 0, none⟩ (.int .i64 (wh (m128 (10 * v + d))))).setCell ⟨w.heap.size + 1, 1, none⟩ (.int .u64 (wl (m128 (10 * v + d))))).frozen? ⟨w.heap.size + 1, 1, none⟩ = false := by simp [go_sem, zB]
          have hG : Below (w.heap.size + 1) W1 ((w6.setCell ⟨w.heap.size + 1, 0, none⟩ (.int .i64 (wh (m128 (10 * v + d))))).setCell ⟨w.heap.size + 1, 1, none⟩ (.int .u64 (wl (m128 (10 * v + d))))) := (hF.setCell (p := ⟨w.heap.size + 1, 0, none⟩) (Nat.le_refl _) _).setCell (p := ⟨w.heap.size + 1, 1, none⟩) (Nat.le_refl _) _
          generalize (w6.setCell ⟨w.heap.size + 1, 0, none⟩ (.int .i64 (wh (m128 (10 * v + d))))).setCell ⟨w.heap.size + 1, 1, none⟩ (.int .u64 (wl (m128 (10 * v + d)))) = w7 at t0 t1 y0 y1 hG ⊢
          obtain ⟨k, hk⟩ : ∃ k, gk = k + 1 := ⟨gk - 1, by have := Hjk.out; omega⟩
          have Hk := Lib.hid hk
          clear cA cB zA zB hcA hcB hfA hfB hca hcb hfa hfb hF hBa hB6 hxa hx6 p0 p1 q0 q1 g0 g1 hw1 hw2 hk
          go_wp2_with fail
          go_roundg k
          case measure => have := Hk.out; omega
          case rel => exact ⟨j + 1, m128 (10 * v + d), by go_num, by have := Hjk.out; have := Hk.out; omega, Hdv, t0, t1, y0, y1, hG⟩
    · obtain rfl : j = t.size := by omega
      have hvv : v = dv 0 t.data.toList := by
        have h : v = dv 0 (t.data.toList.take t.size) := hv.out
        rw [h, List.take_of_length_le (by simp)]
      have hs1 : w.heap.size + 1 < wr.heap.size := by have h4 := hB.size; rw [HW1.out] at h4; simp at h4; omega
      have r0 : wr.cell? ⟨w.heap.size, 0, none⟩ = some (.int .i64 0) := by rw [hB.cell (by simp), HW1.out]; simp [go_sem]
      have r1 : wr.cell? ⟨w.heap.size, 1, none⟩ = some (.int .u64 0) := by rw [hB.cell (by simp), HW1.out]; simp [go_sem]
      have y0 : wr.frozen? ⟨w.heap.size, 0, none⟩ = false := by rw [hB.frozen (by simp), HW1.out]; simp [go_sem]
      have y1 : wr.frozen? ⟨w.heap.size, 1, none⟩ = false := by rw [hB.frozen (by simp), HW1.out]; simp [go_sem]
      have hBw : Below w.heap.size w wr := by
        have h1 : Below w.heap.size w W1 := by rw [HW1.out]; exact ((Below.refl _ _).alloc (Nat.le_refl _) _).alloc (by simp) _
        exact h1.trans (hB.mono (by omega))
      have Hvv := Lib.hid hvv
      clear hvv hjk hB HW1
      rcases hcase with ⟨rfl, h0, hz⟩ | ⟨hne, hbig, hz⟩ | ⟨rfl, h48⟩
      · have hRv : R = v := by rw [← HR.out]; unfold digR; rw [if_pos rfl, Hvv.out]
        subst hRv
        have hz1 : ((s[0].toNat : Int) == 48) = false := by rw [beq_eq_false_iff_ne]; omega
        have hz2 : ((s[0].toNat : Int) != 48) = true := by rw [bne_iff_ne]; omega
        have hne : ¬ s.toList = [] := not_empty s h00
        have he1 : s.toList.isEmpty = false := by simpa using hne
        have he2 : (s.toList == []) = false := by simpa using hne
        have h0' : (0 : Int) < (s.size : Int) := by omega
        obtain ⟨t0, t1⟩ := two_set (x' := .int .i64 (wh R)) (y' := .int .u64 (wl R)) r0 r1
        have hBz : Below w.heap.size w ((wr.setCell ⟨w.heap.size, 0, none⟩ (.int .i64 (wh R))).setCell ⟨w.heap.size, 1, none⟩ (.int .u64 (wl R))).drew := ((hBw.setCell (p := ⟨w.heap.size, 0, none⟩) (Nat.le_refl _) _).setCell (p := ⟨w.heap.size, 1, none⟩) (Nat.le_refl _) _).drew
        have T0 := Lib.hid t0; have T1 := Lib.hid t1; have HBz := Lib.hid hBz
        clear t0 t1 hBz
        go_wp2_with fail
        go_region
        go_wp2_with fail
        exact bodyPost_ret (v := .tuple #[.agg #[.int .i64 (wh R), .int .u64 (wl R)], .bool true]) (by have t0 := T0.out; have t1 := T1.out; simp [results, Tryz.results5, go_sem, t0, t1]) rfl ⟨rfl, HBz.out⟩
      · have hst : (s.toList == t.toList) = false := by rw [beq_eq_false_iff_ne]; intro h; exact hne (text_inj h)
        have hvb : v < 340282366920938463463374607431768211456 := by rw [Hvv.out]; exact dv_lt _ _ (by omega)
        have hz1 : ((t[0].toNat : Int) == 48) = false := by rw [beq_eq_false_iff_ne]; omega
        have hz2 : ((t[0].toNat : Int) != 48) = true := by rw [bne_iff_ne]; omega
        have hn0 : ¬ t.toList = [] := not_empty t h00
        have he1 : t.toList.isEmpty = false := by simpa using hn0
        have he2 : (t.toList == []) = false := by simpa using hn0
        have h0' : (0 : Int) < (t.size : Int) := by omega
        have hv127 : v ≤ 170141183460469231731687303715884105728 := by rw [Hvv.out]; exact hbig
        have nf1 : sumH (bits .xor .i64 (-1) (wh v)) (bits .xor .u64 IntKind.u64.max (wl v)) 0 1 = wh (ng v) := by
          have h := sum_high (340282366920938463463374607431768211455 - v) 1
          rw [small_wh 1 (by omega), small_wl 1 (by omega)] at h
          rw [not_high v hv127, not_low v hv127]
          exact h
        have nf2 : sumL (bits .xor .u64 IntKind.u64.max (wl v)) 1 = wl (ng v) := by
          have h := sum_low (340282366920938463463374607431768211455 - v) 1
          rw [small_wl 1 (by omega)] at h
          rw [not_low v hv127]
          exact h
        have hRv : R = ng v := by rw [← HR.out]; unfold digR; rw [if_neg hne, Hvv.out]
        rw [← hRv] at nf1 nf2
        have N1 := Lib.hid nf1; have N2 := Lib.hid nf2
        clear nf1 nf2 hRv hvb hv127 hbig hne
        go_wp2_with fail
        refine (sum_int _ _ _ _ _).mono ?_
        rintro e w6 ⟨rfl, hB6⟩
        rw [N1.out, N2.out]
        have d0 : w6.cell? ⟨w.heap.size + 1, 0, none⟩ = some (.int .i64 (wh v)) := by rw [hB6.cell (by simpa using hs1)]; exact c0
        have d1 : w6.cell? ⟨w.heap.size + 1, 1, none⟩ = some (.int .u64 (wl v)) := by rw [hB6.cell (by simpa using hs1)]; exact c1
        have x0 : w6.frozen? ⟨w.heap.size + 1, 0, none⟩ = false := by rw [hB6.frozen (by simpa using hs1)]; exact z0
        have x1 : w6.frozen? ⟨w.heap.size + 1, 1, none⟩ = false := by rw [hB6.frozen (by simpa using hs1)]; exact z1
        have k0 : w6.cell? ⟨w.heap.size, 0, none⟩ = some (.int .i64 0) := by rw [hB6.cell (by simp; omega)]; exact r0
        have k1 : w6.cell? ⟨w.heap.size, 1, none⟩ = some (.int .u64 0) := by rw [hB6.cell (by simp; omega)]; exact r1
        have l0 : w6.frozen? ⟨w.heap.size, 0, none⟩ = false := by rw [hB6.frozen (by simp; omega)]; exact y0
        have l1 : w6.frozen? ⟨w.heap.size, 1, none⟩ = false := by rw [hB6.frozen (by simp; omega)]; exact y1
        have hB7 : Below w.heap.size w w6 := hBw.trans (hB6.mono (by omega))
        clear c0 c1 z0 z1 r0 r1 y0 y1 hBw hB6
        obtain ⟨m0, m1⟩ := two_set (x' := .int .i64 (wh R)) (y' := .int .u64 (wl R)) d0 d1
        have hnb : ∀ o o', ¬ (⟨w.heap.size, o, none⟩ : Addr) = ⟨w.heap.size + 1, o', none⟩ := fun o o' h => by injection h with h; omega
        have i0 : ((w6.setCell ⟨w.heap.size + 1, 0, none⟩ (.int .i64 (wh R))).setCell ⟨w.heap.size + 1, 1, none⟩ (.int .u64 (wl R))).cell? ⟨w.heap.size, 0, none⟩ = some (.int .i64 0) := by simp [go_sem, k0]
        have i1 : ((w6.setCell ⟨w.heap.size + 1, 0, none⟩ (.int .i64 (wh R))).setCell ⟨w.heap.size + 1, 1, none⟩ (.int .u64 (wl R))).cell? ⟨w.heap.size, 1, none⟩ = some (.int .u64 0) := by simp [go_sem, k1]
        have j0 : ((w6.setCell ⟨w.heap.size + 1, 0, none⟩ (.int .i64 (wh R))).setCell ⟨w.heap.size + 1, 1, none⟩ (.int .u64 (wl R))).frozen? ⟨w.heap.size, 0, none⟩ = false := by simp [go_sem, l0]
        have j1 : ((w6.setCell ⟨w.heap.size + 1, 0, none⟩ (.int .i64 (wh R))).setCell ⟨w.heap.size + 1, 1, none⟩ (.int .u64 (wl R))).frozen? ⟨w.heap.size, 1, none⟩ = false := by simp [go_sem, l1]
        have hB8 : Below w.heap.size w ((w6.setCell ⟨w.heap.size + 1, 0, none⟩ (.int .i64 (wh R))).setCell ⟨w.heap.size + 1, 1, none⟩ (.int .u64 (wl R))) := (hB7.setCell (p := ⟨w.heap.size + 1, 0, none⟩) (Nat.le_succ _) _).setCell (p := ⟨w.heap.size + 1, 1, none⟩) (Nat.le_succ _) _
        clear hnb
        go_wp2_with fail
        generalize (w6.setCell ⟨w.heap.size + 1, 0, none⟩ (.int .i64 (wh R))).setCell ⟨w.heap.size + 1, 1, none⟩ (.int .u64 (wl R)) = w8 at m0 m1 i0 i1 j0 j1 hB8 ⊢
        clear d0 d1 x0 x1 k0 k1 l0 l1 hB7 hs1 w6
        obtain ⟨t0, t1⟩ := two_set (x' := .int .i64 (wh R)) (y' := .int .u64 (wl R)) i0 i1
        have hBz : Below w.heap.size w ((w8.setCell ⟨w.heap.size, 0, none⟩ (.int .i64 (wh R))).setCell ⟨w.heap.size, 1, none⟩ (.int .u64 (wl R))).drew := ((hB8.setCell (p := ⟨w.heap.size, 0, none⟩) (Nat.le_refl _) _).setCell (p := ⟨w.heap.size, 1, none⟩) (Nat.le_refl _) _).drew
        have T0 := Lib.hid t0; have T1 := Lib.hid t1; have HBz := Lib.hid hBz
        clear t0 t1 hBz hB8
        go_region
        go_wp2_with fail
        exact bodyPost_ret (v := .tuple #[.agg #[.int .i64 (wh R), .int .u64 (wl R)], .bool true]) (by have t0 := T0.out; have t1 := T1.out; simp [results, Tryz.results5, go_sem, t0, t1]) rfl ⟨rfl, HBz.out⟩
      · obtain ⟨hz1, hz2, hz3⟩ := s48 s h00 h48
        have hne : ¬ s.toList = [] := not_empty s h00
        have he1 : s.toList.isEmpty = false := by simpa using hne
        have he2 : (s.toList == []) = false := by simpa using hne
        have h0' : (0 : Int) < (s.size : Int) := by omega
        have hRv : R = v := by rw [← HR.out]; unfold digR; rw [if_pos rfl, Hvv.out]
        subst hRv
        obtain ⟨t0, t1⟩ := two_set (x' := .int .i64 (wh R)) (y' := .int .u64 (wl R)) r0 r1
        have hBz : Below w.heap.size w ((wr.setCell ⟨w.heap.size, 0, none⟩ (.int .i64 (wh R))).setCell ⟨w.heap.size, 1, none⟩ (.int .u64 (wl R))).drew := ((hBw.setCell (p := ⟨w.heap.size, 0, none⟩) (Nat.le_refl _) _).setCell (p := ⟨w.heap.size, 1, none⟩) (Nat.le_refl _) _).drew
        have T0 := Lib.hid t0; have T1 := Lib.hid t1; have HBz := Lib.hid hBz
        clear t0 t1 hBz h48
        go_wp2_with fail
        go_region
        go_wp2_with fail
        exact bodyPost_ret (v := .tuple #[.agg #[.int .i64 (wh R), .int .u64 (wl R)], .bool true]) (by have t0 := T0.out; have t1 := T1.out; simp [results, Tryz.results5, go_sem, t0, t1]) rfl ⟨rfl, HBz.out⟩
end Go.Proofs.YtogmajeaaabjlaaGreatDoor
