/- answer.Wide below zero. -/
import Derived.Test.YtogmajeaaabjlaaGreatDoorWideA
import Derived.Test.YtogmajeaaabjlaaGreatDoorAsk
import Derived.Lib.OwnBridge
import Derived.Lib.ItoaLen
namespace Go.Proofs.YtogmajeaaabjlaaGreatDoor
open Go.RowKit Go.Sort Go.Lib

theorem sub64_int (y b : Int) (y0 : 0 ≤ y) (y1 : y < 18446744073709551616) (b0 : 0 ≤ b) (b1 : b ≤ 1) (w : World) :
    (callFunc 13 #[.int .u64 0, .int .u64 y, .int .u64 b]).run Tryz.prog w = .ok (.value (.tuple #[.int .u64 ((18446744073709551616 - y - b) % 18446744073709551616), .int .u64 (if 0 < y + b then 1 else 0)])) w := by
  obtain ⟨y, rfl⟩ := Int.eq_ofNat_of_zero_le y0
  obtain ⟨b, rfl⟩ := Int.eq_ofNat_of_zero_le b0
  have h := sub64 0 y b (by omega) w
  have e1 : (((0 + 18446744073709551616 - y - b) % 18446744073709551616 : Nat) : Int) = (18446744073709551616 - (y : Int) - (b : Int)) % 18446744073709551616 := by omega
  have e2 : ((if 0 < y + b then 1 else 0 : Nat) : Int) = if (0 : Int) < (y : Int) + (b : Int) then 1 else 0 := by split <;> split <;> omega
  rw [e1, e2] at h
  exact h

set_option maxHeartbeats 2000000 in
set_option maxRecDepth 100000 in
theorem wide_neg (hi lo : Int) (h0 : -9223372036854775808 ≤ hi) (h1 : hi < 0) (l0 : 0 ≤ lo) (l1 : lo < 18446744073709551616) (w : World) :
    Calls Tryz.prog 6 #[.agg #[.int .i64 hi, .int .u64 lo]] w fun e w' => e = .returned (.string ⟨(wideS hi lo).toArray⟩) ∧ Below w.heap.size w w' := by
  have hn : hi < 0 := h1
  obtain ⟨hu, hhu⟩ : ∃ hu, hu = hi + 18446744073709551616 := ⟨_, rfl⟩
  have hwu : IntKind.u64.wrap hi = hu := by rw [wrap64]; omega
  obtain ⟨lm, hlm⟩ : ∃ lm, lm = (18446744073709551616 - lo) % 18446744073709551616 := ⟨_, rfl⟩
  obtain ⟨br, hbr⟩ : ∃ br : Int, br = if 0 < lo then 1 else 0 := ⟨_, rfl⟩
  obtain ⟨hm1, hhm⟩ : ∃ hm1, hm1 = (18446744073709551616 - hu - br) % 18446744073709551616 := ⟨_, rfl⟩
  have hs1 : ∀ wx, (callFunc 13 #[.int .u64 0, .int .u64 lo, .int .u64 0]).run Tryz.prog wx = .ok (.value (.tuple #[.int .u64 lm, .int .u64 br])) wx := fun wx => by
    have h := sub64_int lo 0 l0 l1 (by omega) (by omega) wx
    rw [h, hlm, hbr]; simp
  have hbr2 : 0 ≤ br ∧ br ≤ 1 := by rw [hbr]; split <;> omega
  obtain ⟨bx, hbx⟩ : ∃ bx : Int, bx = if 0 < hu + br then 1 else 0 := ⟨_, rfl⟩
  have hs2 : ∀ wx, (callFunc 13 #[.int .u64 0, .int .u64 hu, .int .u64 br]).run Tryz.prog wx = .ok (.value (.tuple #[.int .u64 hm1, .int .u64 bx])) wx := fun wx => by
    rw [sub64_int hu br (by omega) (by omega) hbr2.1 hbr2.2 wx, hhm, hbx]
  have hval : hi * 18446744073709551616 + lo = -(hm1 * 18446744073709551616 + lm) := by
    rw [hhm, hlm, hhu]
    by_cases hz : 0 < lo
    · rw [if_pos hz] at hbr; subst hbr; omega
    · rw [if_neg hz] at hbr; subst hbr; omega
  have hmb : 0 ≤ hm1 ∧ hm1 < 18446744073709551616 := by rw [hhm]; omega
  have hlb : 0 ≤ lm ∧ lm < 18446744073709551616 := by rw [hlm]; omega
  obtain ⟨hmb0, hmb1⟩ := hmb
  obtain ⟨hlb0, hlb1⟩ := hlb
  clear hhu hlm hbr hhm hbr2 hbx
  have hN : (hi * 18446744073709551616 + lo).natAbs = (hm1 * 18446744073709551616 + lm).toNat := by omega
  obtain ⟨N, hNN⟩ : ∃ N, N = (hm1 * 18446744073709551616 + lm).toNat := ⟨_, rfl⟩
  have hlow : N < 10 ^ 40 := by
    have : N < 340282366920938463463374607431768211456 := by omega
    exact Nat.lt_trans this (by decide)
  have hW : wideS hi lo = 45 :: Lib.decDigits N := by unfold wideS; rw [if_pos hn, hN, ← hNN]; rfl
  rw [hW]
  have Hlow := Lib.hid hlow
  have HNN := Lib.hid hNN
  clear hlow hNN hN hW hval
  go_enter Tryz.func6, Tryz.ntmps6
  go_wp2_with fail
  go_region
  go_wp2_with (simp only [hs1, hs2])
  obtain ⟨W1, hW1⟩ : ∃ W1, W1 = (w.alloc (.cells #[.int .i64 hi, .int .u64 lo] 24)).drew := ⟨_, rfl⟩
  have HW1 := Lib.hid hW1
  obtain ⟨i0, hi5, hz0, hz1, hz2⟩ := info_parts info5
  go_loopg [3, 4, 6, 7] 40 (fun k s3 s4 s6 _ wr => ∃ (h l : Int) (o : List UInt8), s3 = .int .u64 h ∧ s4 = .int .u64 l ∧ 0 ≤ h ∧ h < 18446744073709551616 ∧ 0 ≤ l ∧ l < 18446744073709551616 ∧ wr.ownsRow (w.heap.size + 1) 5 1 s6 o.length (Lib.byteCells o) ∧ Below (w.heap.size + 1) W1 wr ∧ o.length + k = 40 ∧ Hid ((h * 18446744073709551616 + l).toNat < 10 ^ k) ∧ Hid (WRel N (h * 18446744073709551616 + l).toNat o))
  case atStart =>
    exact ⟨hm1, lm, [], rfl, rfl, hmb0, hmb1, hlb0, hlb1, ⟨by simp [Lib.byteCells], .inl ⟨rfl, rfl⟩⟩, by rw [hW1]; exact Below.refl _ _, rfl, by rw [Hid, ← HNN.out]; exact Hlow.out, .inl ⟨rfl, HNN.out.symm⟩⟩
  case round =>
    obtain ⟨h, l, o, rfl, rfl, hh0, hh1, hl0, hl1, hown, hB, hk, hm, hrel⟩ := hrel
    obtain ⟨m, hmm⟩ : ∃ m, m = (h * 18446744073709551616 + l).toNat := ⟨_, rfl⟩
    rw [← hmm] at hm hrel
    by_cases hstop : h = 0 ∧ l = 0 ∧ o ≠ []
    · obtain ⟨rfl, rfl, hne⟩ := hstop
      have hm0 : m = 0 := by rw [hmm]; rfl
      have hdig := hrel.out.done hm0 hne
      have hlen0 : (((o.length : Nat) : Int) == 0) = false := by cases o with | nil => exact absurd rfl hne | cons _ _ => simp; omega
      have hc0 : wr.cell? ⟨w.heap.size, 0, none⟩ = some (.int .i64 hi) := by rw [hB.cell (by simp)]; rw [HW1.out]; simp [go_sem]
      have ho40 : o.length ≤ 40 := by omega
      obtain ⟨a6, c6, rfl⟩ := slice_of_own hown
      have Hdig := Lib.hid hdig
      clear hmm hm hrel hm0 hdig
      go_wp2_with (at_builtin; refine wpList_append_own _ rfl _ _ 32 rfl (w.heap.size + 1) 5 i0 (.int .u8 0) 1 1 Tryz.underlying32 hi5 hz0 hz1 hz2 rfl (by decide) _ _ _ rfl (World.ownsRow.alloc (w := wr) hown _) ⟨wr.heap.size, 0, none⟩ 1 1 [.int .u8 45] rfl rfl ?_ ?_ ?_ ?_ ?_ ?_)
      · intro j u hj
        match j, hj with
        | 0, hj => simp at hj; subst hj; exact cell_new8 wr _
      · intro u hu; simp at hu; subst hu; rfl
      · unfold maxLen; omega
      · omega
      · have h4 := hB.size; rw [HW1.out] at h4; simp at h4 ⊢; omega
      · intro v' w3 hown' hgrow _
        have hB3 : Below (w.heap.size + 1) W1 w3 := by
          have hs : w.heap.size + 1 ≤ wr.heap.size := by have h4 := hB.size; rw [HW1.out] at h4; simpa using h4
          exact (hB.alloc hs _).grown hgrow (by simp; omega) (fun k hk => (hown.lt k hk).1)
        have hownN : w3.ownsRow (w.heap.size + 1) 5 1 v' (o ++ [45]).length ((o ++ [45]).map enc8) := by simpa [Lib.byteCells, enc8] using hown'
        clear hown'
        obtain ⟨g, cap, rfl, hg1, hg2, hg3, hg4, hg5, hH⟩ := holds_of_ownsRow (enc := enc8) (zs := o ++ [45]) hownN (by rintro e; rw [e] at hownN; rcases hownN.2 with ⟨_, h⟩ | ⟨_, _, _, h, _⟩; (· simp at h); (· cases h))
        obtain ⟨o2, ho2⟩ : ∃ o2, o2 = o ++ [45] := ⟨_, rfl⟩
        have hlen2 : o2.length = o.length + 1 := by rw [ho2]; simp
        have hrev2 : o2.reverse = 45 :: Lib.decDigits N := by rw [ho2, ← Hdig.out]; simp
        rw [← ho2] at hH hg3
        have hrev := rev_arr g 0 cap o2.toArray w3 hH (by simp; omega)
        rw [List.size_toArray, hlen2] at hrev
        have HH := Lib.hid hH; have Hrev := Lib.hid hrev; have Hrev2 := Lib.hid hrev2; have Hlen2 := Lib.hid hlen2
        have hnl : (o ++ [45]).length = o.length + 1 := by simp
        rw [hnl]
        clear hH hrev hrev2 hlen2 ho2 hownN
        go_wp2_with fail
        refine Hrev.out.mono ?_
        rintro e w2 ⟨rfl, q, rfl⟩
        have hcv : (convert 32 9 (.slice (some ⟨g, 0, none⟩) (o.length + 1) cap)).run Tryz.prog (putRow enc8 (Sort.ahead w3 q) g 0 o2.toArray.reverse) = .ok (.string ⟨(45 :: Lib.decDigits N).toArray⟩) (putRow enc8 (Sort.ahead w3 q) g 0 o2.toArray.reverse) := by
          have h := run_convert_bytes_back (P := Tryz.prog) (putRow enc8 (Sort.ahead w3 q) g 0 o2.toArray.reverse) 32 9 5 ⟨g, 0, none⟩ cap o2.reverse Tryz.underlying32 Tryz.underlying5 Tryz.underlying9 (fun j hj => by
            have hh := (holds_putRow enc8 (Sort.ahead w3 q) g 0 o2.toArray o2.toArray.reverse (holds_ahead enc8 w3 q g 0 o2.toArray HH.out) (by simp)) j (by simpa using hj)
            rw [Lib.add_plain, hh.1]
            simp only [List.length_reverse] at hj
            simp [enc8, getElem!_pos, hj])
          rw [List.length_reverse, Hrev2.out, Hlen2.out] at h
          exact h
        have hBe : RowKit.Below w.heap.size w (putRow enc8 (Sort.ahead w3 q) g 0 o2.toArray.reverse) := by
          refine Lib.below_putRow ?_ (by omega)
          have h1 : RowKit.Below w.heap.size w W1 := by rw [HW1.out]; exact ((RowKit.Below.refl _ _).alloc (Nat.le_refl _) _).drew
          exact h1.trans (hB3.mono (by omega))
        rw [show o2.toArray.reverse = o2.reverse.toArray by simp] at hcv hBe
        go_wp2_with fail
        go_ret
        exact ⟨rfl, hBe⟩
    · have hgo : 0 < m ∨ o = [] := by
        by_cases ho : o = []
        · exact .inr ho
        · left
          by_cases hz : h = 0
          · have : l ≠ 0 := fun hl => hstop ⟨hz, hl, ho⟩
            omega
          · omega
      have hk1 : ∃ k', gk = k' + 1 := by
        by_cases hz : gk = 0
        · exfalso
          have h1 : m < 10 ^ gk := hm.out
          rw [hz] at h1 hk
          rcases hgo with h2 | h2
          · omega
          · subst h2; simp at hk
        · exact ⟨gk - 1, by omega⟩
      obtain ⟨k, hgk⟩ := hk1
      have hm' : (m / 10) < 10 ^ k := by have := hm.out; rw [hgk, Nat.pow_succ] at this; omega
      have hrel' := hrel.out.step hgo
      obtain ⟨l', hl'⟩ : ∃ l', l' = ((h % 10) * 18446744073709551616 + l) / 10 := ⟨_, rfl⟩
      obtain ⟨d, hd⟩ : ∃ d, d = ((h % 10) * 18446744073709551616 + l) % 10 := ⟨_, rfl⟩
      have hm10 : m / 10 = ((h / 10) * 18446744073709551616 + l').toNat := by omega
      obtain ⟨c, hc⟩ : ∃ c, c = UInt8.ofNat (48 + m % 10) := ⟨_, rfl⟩
      have hcn : (c.toNat : Int) = 48 + d := by rw [hc]; simp; omega
      rw [hm10] at hm' hrel'
      rw [← hc] at hrel'
      have hd0 : 0 ≤ d := by omega
      have hd1 : d < 10 := by omega
      have hl'0 : 0 ≤ l' := by omega
      have hl'1 : l' < 18446744073709551616 := by omega
      have hdiv := div64_ten (h % 10) l (by omega) (by omega) hl0 hl1 wr
      rw [← hl', ← hd] at hdiv
      have hg3 : 0 < h ∨ (¬ 0 < h ∧ 0 < l) ∨ (¬ 0 < h ∧ ¬ 0 < l ∧ (((o.length : Nat) : Int) == 0) = true) := by
        by_cases g : 0 < h
        · exact .inl g
        · by_cases g2 : 0 < l
          · exact .inr (.inl ⟨g, g2⟩)
          · exact .inr (.inr ⟨g, g2, by rcases hgo with h2 | h2; (· omega); (· subst h2; rfl)⟩)
      have hc1 : IntKind.u64.wrap (48 + d) = (c.toNat : Int) := by rw [hcn]; exact w64_id _ (by omega) (by omega)
      have hc2 : IntKind.u8.wrap (c.toNat : Int) = (c.toNat : Int) := IntWalk.u8_in _ (by omega)
      obtain ⟨a6, c6, rfl⟩ := slice_of_own hown
      have HDiv := Lib.hid hdiv; have Hm' := Lib.hid hm'; have Hrel := Lib.hid hrel'; have Hk := Lib.hid hk; have Hgk := Lib.hid hgk
      clear hmm hm hrel hstop hgo hl' hd hm10 hc hrel' hm' hcn hdiv hk hgk
      rcases hg3 with g | ⟨g1, g2⟩ | ⟨g1, g2, g3⟩ <;> (
        go_wp2_with fail
        refine HDiv.out.mono ?_
        rintro e w2 ⟨rfl, q, rfl⟩
        go_wp2_with (at_builtin; refine wpList_append_own _ rfl _ _ 32 rfl (w.heap.size + 1) 5 i0 (.int .u8 0) 1 1 Tryz.underlying32 hi5 hz0 hz1 hz2 rfl (by decide) _ _ _ rfl (World.ownsRow.alloc (w := wr.drewN q) hown _) ⟨wr.heap.size, 0, none⟩ 1 1 [.int .u8 c.toNat] rfl rfl ?_ ?_ ?_ ?_ ?_ ?_)
        · intro j u hj
          match j, hj with
          | 0, hj => simp at hj; subst hj; exact cell_new8 (wr.drewN q) _
        · intro u hu; simp at hu; subst hu; rfl
        · have h4 := Hk.out; have h5 := Hgk.out; unfold maxLen; first | omega | (simp at h4 ⊢; done) | (simp at h4 ⊢; omega)
        · have h4 := Hk.out; have h5 := Hgk.out; first | omega | (simp at h4 ⊢; done) | (simp at h4 ⊢; omega)
        · have h4 := hB.size; rw [HW1.out] at h4; simp at h4 ⊢; omega
        · intro v' w3 hown' hgrow _
          have hB3 : Below (w.heap.size + 1) W1 w3 := by
            have hs : w.heap.size + 1 ≤ wr.heap.size := by have h4 := hB.size; rw [HW1.out] at h4; simpa using h4
            exact ((below_drewN hB q).alloc hs _).grown hgrow (by simp; omega) (fun k hk => (hown.lt k hk).1)
          have hownN : w3.ownsRow (w.heap.size + 1) 5 1 v' (o ++ [c]).length (Lib.byteCells (o ++ [c])) := by simpa [Lib.byteCells] using hown'
          clear hown'
          go_wp2_with fail
          go_roundg k
          case measure => have := Hgk.out; omega
          case rel => exact ⟨h / 10, l', o ++ [c], rfl, rfl, by omega, by omega, hl'0, hl'1, hownN, hB3, by have := Hk.out; have := Hgk.out; simp; omega, Hm'.out, Hrel.out⟩)

/-- answer.Wide: a '-' where the number is below zero, then the digits of its size -/
theorem wide_any (hi lo : Int) (h0 : -9223372036854775808 ≤ hi) (h1 : hi < 9223372036854775808) (l0 : 0 ≤ lo) (l1 : lo < 18446744073709551616) (w : World) :
    Calls Tryz.prog 6 #[.agg #[.int .i64 hi, .int .u64 lo]] w fun e w' => e = .returned (.string ⟨(wideS hi lo).toArray⟩) ∧ Below w.heap.size w w' := by
  by_cases h : hi < 0
  · exact wide_neg hi lo h0 h l0 l1 w
  · exact wide_pos hi lo (by omega) h1 l0 l1 w
end Go.Proofs.YtogmajeaaabjlaaGreatDoor
