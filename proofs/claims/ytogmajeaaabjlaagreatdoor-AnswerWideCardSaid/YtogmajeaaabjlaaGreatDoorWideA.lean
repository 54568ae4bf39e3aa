/- answer.Wide: the digits of a wide number. -/
import Derived.Test.YtogmajeaaabjlaaGreatDoorDiv
import Derived.Test.YtogmajeaaabjlaaGreatDoorAsk
import Derived.Lib.OwnBridge
import Derived.Lib.ItoaLen
namespace Go.Proofs.YtogmajeaaabjlaaGreatDoor
open Go.RowKit Go.Sort Go.Lib

/-- what the loop of answer.Wide keeps: the digits behind, the first of them last -/
def WRel (N m : Nat) (o : List UInt8) : Prop := (o = [] ∧ m = N) ∨ (o ≠ [] ∧ ((m = 0 ∧ Lib.decDigits N = o.reverse) ∨ (0 < m ∧ Lib.decDigits N = Lib.decDigits m ++ o.reverse)))

theorem WRel.step {N m : Nat} {o : List UInt8} (h : WRel N m o) (hgo : 0 < m ∨ o = []) : WRel N (m / 10) (o ++ [UInt8.ofNat (48 + m % 10)]) := by
  have hd : ∀ t : Nat, Lib.decDigits t = if t < 10 then [UInt8.ofNat (48 + t)] else Lib.decDigits (t / 10) ++ [UInt8.ofNat (48 + t % 10)] := fun t => by rw [Lib.decDigits]; rfl
  have hall : Lib.decDigits N = Lib.decDigits m ++ o.reverse := by
    rcases h with ⟨rfl, rfl⟩ | ⟨hne, ⟨hm, _⟩ | ⟨_, he⟩⟩
    · simp
    · rcases hgo with h0 | h0
      · omega
      · exact absurd h0 hne
    · exact he
  refine .inr ⟨by simp, ?_⟩
  rw [hall, hd m]
  by_cases h10 : m < 10
  · rw [if_pos h10]
    refine .inl ⟨by omega, ?_⟩
    rw [Nat.mod_eq_of_lt h10]; simp
  · rw [if_neg h10]
    exact .inr ⟨by omega, by simp⟩

theorem WRel.done {N m : Nat} {o : List UInt8} (h : WRel N m o) (hm : m = 0) (ho : o ≠ []) : o.reverse = Lib.decDigits N := by
  rcases h with ⟨h0, _⟩ | ⟨_, ⟨_, he⟩ | ⟨h0, _⟩⟩
  · exact absurd h0 ho
  · exact he.symm
  · omega

theorem cell_new8 (w : World) (x : Value) : (w.alloc (.cells #[x] 5)).cell? ((⟨w.heap.size, 0, none⟩ : Addr).add 0) = some x := by simp [Addr.add, go_sem]
theorem below_drewN {B : Nat} {a w : World} (h : RowKit.Below B a w) (q : Nat) : RowKit.Below B a (w.drewN q) := ⟨h.os, h.tape, h.output, h.size, h.block⟩

/-- the digits of a wide number -/
def wideS (hi lo : Int) : List UInt8 := (if hi < 0 then [45] else []) ++ Lib.decDigits (hi * 18446744073709551616 + lo).natAbs

set_option maxHeartbeats 2000000 in
set_option maxRecDepth 100000 in
theorem wide_pos (hi lo : Int) (h0 : 0 ≤ hi) (h1 : hi < 9223372036854775808) (l0 : 0 ≤ lo) (l1 : lo < 18446744073709551616) (w : World) :
    Calls Tryz.prog 6 #[.agg #[.int .i64 hi, .int .u64 lo]] w fun e w' => e = .returned (.string ⟨(wideS hi lo).toArray⟩) ∧ Below w.heap.size w w' := by
  have hn : ¬ hi < 0 := by omega
  have hwu : IntKind.u64.wrap hi = hi := w64_id _ h0 (by omega)
  have hN : (hi * 18446744073709551616 + lo).natAbs = (hi * 18446744073709551616 + lo).toNat := by omega
  obtain ⟨N, hNN⟩ : ∃ N, N = (hi * 18446744073709551616 + lo).toNat := ⟨_, rfl⟩
  have hlow : N < 10 ^ 40 := by
    have : N < 340282366920938463463374607431768211456 := by omega
    exact Nat.lt_trans this (by decide)
  have hW : wideS hi lo = Lib.decDigits N := by unfold wideS; rw [if_neg hn, hN, ← hNN]; rfl
  rw [hW]
  have Hlow := Lib.hid hlow
  have HNN := Lib.hid hNN
  clear hlow hNN hN hW
  go_enter Tryz.func6, Tryz.ntmps6
  go_wp2_with fail
  go_region
  go_wp2_with fail
  obtain ⟨W1, hW1⟩ : ∃ W1, W1 = (w.alloc (.cells #[.int .i64 hi, .int .u64 lo] 24)).drew := ⟨_, rfl⟩
  have HW1 := Lib.hid hW1
  obtain ⟨i0, hi5, hz0, hz1, hz2⟩ := info_parts info5
  go_loopg [3, 4, 6, 7] 40 (fun k s3 s4 s6 _ wr => ∃ (h l : Int) (o : List UInt8), s3 = .int .u64 h ∧ s4 = .int .u64 l ∧ 0 ≤ h ∧ h < 18446744073709551616 ∧ 0 ≤ l ∧ l < 18446744073709551616 ∧ wr.ownsRow (w.heap.size + 1) 5 1 s6 o.length (Lib.byteCells o) ∧ Below (w.heap.size + 1) W1 wr ∧ o.length + k = 40 ∧ Hid ((h * 18446744073709551616 + l).toNat < 10 ^ k) ∧ Hid (WRel N (h * 18446744073709551616 + l).toNat o))
  case atStart =>
    exact ⟨hi, lo, [], rfl, rfl, h0, by omega, l0, l1, ⟨by simp [Lib.byteCells], .inl ⟨rfl, rfl⟩⟩, by rw [hW1]; exact Below.refl _ _, rfl, by rw [Hid, ← HNN.out]; exact Hlow.out, .inl ⟨rfl, HNN.out.symm⟩⟩
  case round =>
    obtain ⟨h, l, o, rfl, rfl, hh0, hh1, hl0, hl1, hown, hB, hk, hm, hrel⟩ := hrel
    obtain ⟨m, hmm⟩ : ∃ m, m = (h * 18446744073709551616 + l).toNat := ⟨_, rfl⟩
    rw [← hmm] at hm hrel
    by_cases hstop : h = 0 ∧ l = 0 ∧ o ≠ []
    · obtain ⟨rfl, rfl, hne⟩ := hstop
      have hm0 : m = 0 := by rw [hmm]; rfl
      have hdig := hrel.out.done hm0 hne
      have hlen0 : (((o.length : Nat) : Int) == 0) = false := by cases o with | nil => exact absurd rfl hne | cons _ _ => simp; omega
      have hc0 : wr.cell? ⟨w.heap.size, 0, none⟩ = some (.int .i64 hi) := by rw [hB.cell (by simp)]; rw [HW1.out]; simp [go_sem]
      have ho40 : o.length ≤ 40 := by omega
      obtain ⟨g, cap, rfl, hg1, hg2, hg3, hg4, hg5, hH⟩ := holds_of_ownsRow (enc := enc8) (zs := o) hown (by rintro e; rw [e] at hown; rcases hown.2 with ⟨_, h⟩ | ⟨_, _, _, h, _⟩; (· exact hne (List.length_eq_zero_iff.1 h)); (· cases h))
      have hrev := rev_arr g 0 cap o.toArray wr hH (by simp; omega)
      rw [List.size_toArray] at hrev
      have Hdig := Lib.hid hdig; have HH := Lib.hid hH; have Hrev := Lib.hid hrev
      clear hmm hm hrel hm0 hdig hH hrev
      go_wp2_with fail
      refine Hrev.out.mono ?_
      rintro e w2 ⟨rfl, q, rfl⟩
      have hcv : (convert 32 9 (.slice (some ⟨g, 0, none⟩) o.length cap)).run Tryz.prog (putRow enc8 (Sort.ahead wr q) g 0 o.toArray.reverse) = .ok (.string ⟨(Lib.decDigits N).toArray⟩) (putRow enc8 (Sort.ahead wr q) g 0 o.toArray.reverse) := by
        have h := run_convert_bytes_back (P := Tryz.prog) (putRow enc8 (Sort.ahead wr q) g 0 o.toArray.reverse) 32 9 5 ⟨g, 0, none⟩ cap o.reverse Tryz.underlying32 Tryz.underlying5 Tryz.underlying9 (fun j hj => by
          have hh := (holds_putRow enc8 (Sort.ahead wr q) g 0 o.toArray o.toArray.reverse (holds_ahead enc8 wr q g 0 o.toArray HH.out) (by simp)) j (by simpa using hj)
          rw [Lib.add_plain, hh.1]
          simp only [List.length_reverse] at hj
          simp [enc8, getElem!_pos, hj])
        rw [List.length_reverse, Hdig.out] at h
        exact h
      have hBe : RowKit.Below w.heap.size w (putRow enc8 (Sort.ahead wr q) g 0 o.toArray.reverse) := by
        refine Lib.below_putRow ?_ (by omega)
        have h1 : RowKit.Below w.heap.size w W1 := by rw [HW1.out]; exact ((RowKit.Below.refl _ _).alloc (Nat.le_refl _) _).drew
        exact h1.trans (hB.mono (by omega))
      rw [show o.toArray.reverse = o.reverse.toArray by simp] at hcv hBe
      go_wp2_with fail
      go_ret
      exact ⟨rfl, hBe⟩
    · have hgo : 0 < m ∨ o = [] := by
        by_cases ho : o = []
        · exact .inr ho
        · left
          by_cases hz : h = 0
          · have : l ≠ 0 := fun hl => hstop ⟨hz, hl, ho⟩
            omega
          · omega
      have hk1 : ∃ k', gk = k' + 1 := by
        by_cases hz : gk = 0
        · exfalso
          have h1 : m < 10 ^ gk := hm.out
          rw [hz] at h1 hk
          rcases hgo with h2 | h2
          · omega
          · subst h2; simp at hk
        · exact ⟨gk - 1, by omega⟩
      obtain ⟨k, hgk⟩ := hk1
      have hm' : (m / 10) < 10 ^ k := by have := hm.out; rw [hgk, Nat.pow_succ] at this; omega
      have hrel' := hrel.out.step hgo
      obtain ⟨l', hl'⟩ : ∃ l', l' = ((h % 10) * 18446744073709551616 + l) / 10 := ⟨_, rfl⟩
      obtain ⟨d, hd⟩ : ∃ d, d = ((h % 10) * 18446744073709551616 + l) % 10 := ⟨_, rfl⟩
      have hm10 : m / 10 = ((h / 10) * 18446744073709551616 + l').toNat := by omega
      obtain ⟨c, hc⟩ : ∃ c, c = UInt8.ofNat (48 + m % 10) := ⟨_, rfl⟩
      have hcn : (c.toNat : Int) = 48 + d := by rw [hc]; simp; omega
      rw [hm10] at hm' hrel'
      rw [← hc] at hrel'
      have hd0 : 0 ≤ d := by omega
      have hd1 : d < 10 := by omega
      have hl'0 : 0 ≤ l' := by omega
      have hl'1 : l' < 18446744073709551616 := by omega
      have hdiv := div64_ten (h % 10) l (by omega) (by omega) hl0 hl1 wr
      rw [← hl', ← hd] at hdiv
      have hg3 : 0 < h ∨ (¬ 0 < h ∧ 0 < l) ∨ (¬ 0 < h ∧ ¬ 0 < l ∧ (((o.length : Nat) : Int) == 0) = true) := by
        by_cases g : 0 < h
        · exact .inl g
        · by_cases g2 : 0 < l
          · exact .inr (.inl ⟨g, g2⟩)
          · exact .inr (.inr ⟨g, g2, by rcases hgo with h2 | h2; (· omega); (· subst h2; rfl)⟩)
      have hc1 : IntKind.u64.wrap (48 + d) = (c.toNat : Int) := by rw [hcn]; exact w64_id _ (by omega) (by omega)
      have hc2 : IntKind.u8.wrap (c.toNat : Int) = (c.toNat : Int) := IntWalk.u8_in _ (by omega)
      obtain ⟨a6, c6, rfl⟩ := slice_of_own hown
      have HDiv := Lib.hid hdiv; have Hm' := Lib.hid hm'; have Hrel := Lib.hid hrel'; have Hk := Lib.hid hk; have Hgk := Lib.hid hgk
      clear hmm hm hrel hstop hgo hl' hd hm10 hc hrel' hm' hcn hdiv hk hgk
      rcases hg3 with g | ⟨g1, g2⟩ | ⟨g1, g2, g3⟩ <;> (
        go_wp2_with fail
        refine HDiv.out.mono ?_
        rintro e w2 ⟨rfl, q, rfl⟩
        go_wp2_with (at_builtin; refine wpList_append_own _ rfl _ _ 32 rfl (w.heap.size + 1) 5 i0 (.int .u8 0) 1 1 Tryz.underlying32 hi5 hz0 hz1 hz2 rfl (by decide) _ _ _ rfl (World.ownsRow.alloc (w := wr.drewN q) hown _) ⟨wr.heap.size, 0, none⟩ 1 1 [.int .u8 c.toNat] rfl rfl ?_ ?_ ?_ ?_ ?_ ?_)
        · intro j u hj
          match j, hj with
          | 0, hj => simp at hj; subst hj; exact cell_new8 (wr.drewN q) _
        · intro u hu; simp at hu; subst hu; rfl
        · have h4 := Hk.out; have h5 := Hgk.out; unfold maxLen; first | omega | (simp at h4 ⊢; done) | (simp at h4 ⊢; omega)
        · have h4 := Hk.out; have h5 := Hgk.out; first | omega | (simp at h4 ⊢; done) | (simp at h4 ⊢; omega)
        · have h4 := hB.size; rw [HW1.out] at h4; simp at h4 ⊢; omega
        · intro v' w3 hown' hgrow _
          have hB3 : Below (w.heap.size + 1) W1 w3 := by
            have hs : w.heap.size + 1 ≤ wr.heap.size := by have h4 := hB.size; rw [HW1.out] at h4; simpa using h4
            exact ((below_drewN hB q).alloc hs _).grown hgrow (by simp; omega) (fun k hk => (hown.lt k hk).1)
          have hownN : w3.ownsRow (w.heap.size + 1) 5 1 v' (o ++ [c]).length (Lib.byteCells (o ++ [c])) := by simpa [Lib.byteCells] using hown'
          clear hown'
          go_wp2_with fail
          go_roundg k
          case measure => have := Hgk.out; omega
          case rel => exact ⟨h / 10, l', o ++ [c], rfl, rfl, by omega, by omega, hl'0, hl'1, hownN, hB3, by have := Hk.out; have := Hgk.out; simp; omega, Hm'.out, Hrel.out⟩)
end Go.Proofs.YtogmajeaaabjlaaGreatDoor
