/- The contract of answer.unhex: the bytes of a word, or that there are none. -/
import Derived.Test.YtogmajeaaabjlaaGreatDoorUnhexS
import Derived.Test.YtogmajeaaabjlaaGreatDoorTried
import Derived.Deep.RegionHeld3
import Derived.Deep.RegionWith
import Derived.BigRegion
namespace Go.Proofs.YtogmajeaaabjlaaGreatDoor
open Go.RowKit

set_option maxHeartbeats 1000000 in
set_option maxRecDepth 100000 in
theorem unhex_dash (w : World) :
    Calls Tryz.prog 26 #[.string ⟨#[45]⟩] w fun e w' => e = .returned (.slice none 0 0) ∧ w = w' := by
  go_enter Tryz.func26, Tryz.ntmps26
  go_wp2_with fail
  go_ret
  exact ⟨rfl, rfl⟩

set_option maxHeartbeats 1000000 in
set_option maxRecDepth 100000 in
theorem unhex_odd (s : ByteArray) (w : World) (h45 : (s.toList == [45]) = false) (h : s.data.toList = [] ∨ s.size % 2 = 1) :
    Calls Tryz.prog 26 #[.string s] w fun e w' => e = .panicked thrown ∧ w = w' := by
  by_cases he : s.data.toList = []
  · have h0 : s.toList.isEmpty = true := by rw [Lib.toList_data, he]; rfl
    clear h he
    go_enter Tryz.func26, Tryz.ntmps26
    go_wp2_with fail
    refine (must_f _).mono ?_; rintro e w' ⟨rfl, rfl⟩
    go_wp2_with fail
    exact ⟨rfl, rfl, rfl⟩
  · have h0 : s.toList.isEmpty = false := by rw [Lib.toList_data]; simpa using he
    have h1 : ((s.size : Int) % 2 == 0) = false := by simp; have : s.size % 2 = 1 := h.resolve_left he; omega
    clear h he
    go_enter Tryz.func26, Tryz.ntmps26
    go_wp2_with fail
    refine (must_f _).mono ?_; rintro e w' ⟨rfl, rfl⟩
    go_wp2_with fail
    exact ⟨rfl, rfl, rfl⟩

theorem grown_of_below {w w' : World} (h : Below w.heap.size w w') : w.grownBy w' none := ⟨h.os, h.tape, h.output, h.size, fun k hk _ => h.block k hk⟩
theorem pair_hid {bs : List UInt8} {k : Nat} (h : k + 1 < bs.length) : unp (bs.drop k) = (pairS bs[k] bs[k + 1]).bind fun c => (unp (bs.drop (k + 2))).map (c :: ·) :=
  unp_step _ _ _ _ (two_at _ _ h)

set_option maxHeartbeats 2000000 in
set_option maxRecDepth 100000 in
theorem unhex_even (s : ByteArray) (w : World) (hL : Laid w) (h45 : (s.toList == [45]) = false) (he : s.data.toList ≠ []) (h2 : s.size % 2 = 0) (hs : s.size ≤ 4294967296) :
    Calls Tryz.prog 26 #[.string s] w fun e w' =>
      ((∃ v l, e = .returned v ∧ unp s.data.toList = some l ∧ w'.ownsRow w.heap.size 5 1 v l.length (Lib.byteCells l)) ∨ (e = .panicked thrown ∧ unp s.data.toList = none)) ∧ Below w.heap.size w w' := by
  have h0 : s.toList.isEmpty = false := by rw [Lib.toList_data]; simpa using he
  have h1 : ((s.size : Int) % 2 == 0) = true := by simp; omega
  obtain ⟨i0, hi, hz0, hz1, hz2⟩ := info_parts info5
  obtain ⟨bs, hLs⟩ : ∃ bs, bs = s.data.toList := ⟨_, rfl⟩
  have hLn : bs.length = s.size := by rw [hLs, Lib.size_eq]
  have hext : ∀ k, ∀ h : k + 1 < bs.length, (s.extract k (k + 2)).data.toList = [bs[k], bs[k + 1]] := by subst hLs; exact fun k h => extract_two s k h
  rw [← hLs]
  have Hext := Lib.hid hext
  clear hLs he hext
  go_enter Tryz.func26, Tryz.ntmps26
  go_wp2_with fail
  refine (must_t _).mono ?_; rintro e w' ⟨rfl, rfl⟩
  go_wp2_with fail
  go_loopw [2, 3, 4, 5] (fun v vk _ _ wr => ∃ (j : Nat) (done : List UInt8), vk = .int .i64 ((2 * j : Nat) : Int) ∧ 2 * j ≤ s.size ∧ done.length = j ∧ wr.ownsRow w.heap.size 5 1 v done.length (Lib.byteCells done) ∧ Below w.heap.size w wr ∧ Hid (unp bs = (unp (bs.drop (2 * j))).map (done ++ ·)))
    (fun _ vk _ _ _ => s.size - (intOf vk).toNat)
  case atStart => exact ⟨0, [], rfl, by omega, rfl, ⟨by simp [Lib.byteCells], .inl ⟨rfl, rfl⟩⟩, Below.refl _ _, by simp [Hid]⟩
  case round =>
    obtain ⟨j, done, rfl, hj, rfl, hown, hB, hrest⟩ := hrel
    by_cases hlt : 2 * done.length < s.size
    · have hk1 : 2 * done.length + 1 < bs.length := by omega
      have hstep := pair_hid hk1
      have hex := Hext.out (2 * done.length) hk1
      have Hres := Lib.hid (hrest.out.trans (congrArg (Option.map (done ++ ·)) hstep))
      clear hrest hstep
      generalize bs[2 * done.length] = a at *
      generalize bs[2 * done.length + 1] = b at *
      generalize hkk : 2 * done.length = k at *
      have Hkk := Lib.hid hkk
      have Hex := Lib.hid hex
      clear hkk hex
      have hsz : (s.extract k (k + 2)).size ≤ 4294967296 := by simp; omega
      go_wp2_with fail
      refine (pu16_any _ wr (hL.below hB hL.size) hsz).mono ?_
      rintro e w1 ⟨htell, hB1⟩
      rw [Hex.out] at htell
      have hBw := hB.trans (hB1.mono hB.size)
      have hL1 := hL.below hBw hL.size
      have hown1 := hown.kept (row := none) (grown_of_below hB1) (by rcases hown.2 with ⟨rfl, _⟩ | ⟨g, cap, cur, rfl, _⟩ <;> simp [Value.ownBlock])
      cases hp : puS 16 255 [a, b] with
      | val n =>
        rw [hp] at htell
        have hn := puS_le hp
        subst htell
        obtain ⟨c, rfl⟩ : ∃ c : UInt8, n = c.toNat := ⟨UInt8.ofNat n, by simp; omega⟩
        have hpair : pairS a b = if hexD [c] = [a, b] then some c else none := by unfold pairS; rw [hp]; simp
        have hc256 : c.toNat < 256 := c.toNat_lt
        have hS : hexS [c] = hexD [c] := rfl
        have hbv : BytesV (w1.alloc (.cells #[.int .u8 c.toNat] 5)).drew.heap.size (w1.alloc (.cells #[.int .u8 c.toNat] 5)).drew (.slice (some ⟨w1.heap.size, 0, none⟩) 1 1) [c] := by
          refine ⟨_, 1, rfl, .inr ⟨w1.heap.size, 0, rfl, by simp, fun j hj => ?_⟩⟩
          obtain rfl : j = 0 := by simpa using hj
          simp [go_sem]
        have hhex := hex_any [c] _ _ hbv (by simp)
        rw [hS] at hhex
        have hsame := same_text (hexD [c]) (s.extract k (k + 2)) [a, b] Hex.out
        have Hhex := Lib.hid hhex
        have hi1 : (0 : Int) ≤ (k : Int) := by omega
        have hi2 : (k : Int) + 2 ≤ (s.size : Int) := by omega
        have hwc : IntKind.u8.wrap (c.toNat : Int) = (c.toNat : Int) := IntWalk.u8_in _ (by omega)
        have hsl : ∀ wx : World, (Instr.slice 9 (.string s) (some (.int .i64 (k : Int))) (some (.int .i64 ((k : Int) + 2))) none).run Tryz.prog wx = .ok (.string (s.extract k (k + 2))) wx := by
          intro wx
          rw [run_slice_string_if (w := wx) _ s _ _ _ _ Tryz.underlying9, if_pos (by omega), if_pos (by omega)]
          congr 3
        have hwk : IntKind.i64.wrap ((k : Int) + 2) = (k : Int) + 2 := IntWalk.i64_in _ (by omega)
        clear hp hhex hbv hS
        by_cases heq : hexD [c] = [a, b]
        · rw [if_pos heq] at hpair
          rw [decide_eq_true heq] at hsame
          have Hp := Lib.hid hpair
          clear hpair heq
          go_wp2_with fail
          go_region_held3 (fun _ => True) (exact trivial)
            (first | (go_at_call 22; refine Hhex.out.mono ?_; rintro e w2 ⟨rfl, hB2⟩) | (go_at_call 18; refine (must_t _).mono ?_; rintro e w3 ⟨rfl, rfl⟩))
          have hB2w : Below w.heap.size w w2 := ((hBw.alloc hBw.size _).drew).trans (hB2.mono (by simp; have := hBw.size; omega))
          have hownA : (w1.alloc (.cells #[.int .u8 c.toNat] 5)).drew.ownsRow w.heap.size 5 1 u2 done.length (Lib.byteCells done) := hown1.alloc _
          have hown2 : w2.ownsRow w.heap.size 5 1 u2 done.length (Lib.byteCells done) := hownA.kept (row := none) (grown_of_below hB2) (by rcases hown.2 with ⟨rfl, _⟩ | ⟨g, cap, cur, rfl, _⟩ <;> simp [Value.ownBlock])
          go_wp2_with (at_builtin; refine wpList_append_own _ rfl _ _ 32 rfl w.heap.size 5 i0 (.int .u8 0) 1 1 Tryz.underlying32 hi hz0 hz1 hz2 rfl (by decide) _ _ _ rfl (hown2.alloc _) ⟨w2.heap.size, 0, none⟩ 1 1 [.int .u8 c.toNat] rfl rfl ?c1 ?c2 ?c3 ?c4 ?c5 ?_)
          case c1 =>
            intro j u hj
            match j, hj with
            | 0, hj => simp at hj; subst hj; simp [Addr.add]
          case c2 => intro u hu; simp at hu; subst hu; rfl
          case c3 => have := Hkk.out; unfold maxLen; omega
          case c4 => have := Hkk.out; omega
          case c5 => have := hB2w.size; simp; omega
          intro v' w3 hown' hgrow _
          have hB3 : Below w.heap.size w w3 := (hB2w.alloc hB2w.size _).grown hgrow (by simp; have := hB2w.size; omega) (fun k hk => (hown2.lt k hk).1)
          have hownN : w3.ownsRow w.heap.size 5 1 v' (done ++ [c]).length (Lib.byteCells (done ++ [c])) := by simpa [Lib.byteCells] using hown'
          have HN : Hid (unp bs = (unp (bs.drop (k + 2))).map ((done ++ [c]) ++ ·)) := by
            rw [Hid, Hres.out, Hp.out]
            cases unp (bs.drop (k + 2)) <;> simp
          clear hown' hown1 hown2 hownA
          have hk2 : 2 * (done ++ [c]).length = k + 2 := by have := Hkk.out; simp; omega
          have Hk2 := Lib.hid hk2
          clear hk2
          go_wp2_with fail
          refine ⟨⟨_, done ++ [c], ?_, ?_, rfl, hownN, hB3, ?_⟩, by simp [intOf]; omega⟩
          · rw [Hk2.out]; rfl
          · rw [Hk2.out]; omega
          · rw [Hk2.out]; exact HN
        · rw [if_neg heq] at hpair
          rw [decide_eq_false heq] at hsame
          have Hno : Hid (unp bs = none) := by rw [Hid, Hres.out, hpair]; rfl
          have hB2' : ∀ w2, Below (w1.alloc (.cells #[.int .u8 c.toNat] 5)).drew.heap.size (w1.alloc (.cells #[.int .u8 c.toNat] 5)).drew w2 → Below w.heap.size w w2 := fun w2 h => ((hBw.alloc hBw.size _).drew).trans (h.mono (by simp; have := hBw.size; omega))
          have HB2 := Lib.hid hB2'
          clear hpair heq hB2' hL h45 h2 hs h0 h1 hi hz0 hz1 hz2 hLn Hext hown hB Hres Hex hsz hB1 hBw hL1 hown1 hn hj hlt hk1 Hkk
          go_wp2_with fail
          refine wp_region_held_drew (S := fun _ => True) (by kernel_rfl) trivial (fun _ => ?_)
          refine wpAnyH_take (i := 0) (v := .nilIface) rfl (by kernel_rfl) (by kernel_rfl) (by kernel_rfl) (fun _ _ _ h => h) (Or.inl ⟨by kernel_rfl, ?_⟩) trivial ?_
          · intro w _; go_simp
          simp only [Act.put, List.setIfInBounds_toArray]
          refine wpAnyH_take (i := 1) (v := .bool true) rfl (by kernel_rfl) (by kernel_rfl) (by kernel_rfl) (fun _ _ _ h => h) (Or.inl ⟨by kernel_rfl, ?_⟩) trivial ?_
          · intro w _; go_simp
          simp only [Act.put]
          refine wpAnyH_take (i := 2) (v := .bool true) rfl (by kernel_rfl) (by kernel_rfl) (by kernel_rfl) (fun _ _ _ h => h) (Or.inl ⟨by kernel_rfl, ?_⟩) trivial ?_
          · intro w _; go_simp
          simp only [Act.put]
          refine wpAnyH_take (i := 3) (v := .int .u64 c.toNat) rfl (by kernel_rfl) (by kernel_rfl) (by kernel_rfl) (fun _ _ _ h => h) (Or.inl ⟨by kernel_rfl, ?_⟩) trivial ?_
          · intro w _; go_simp
          simp only [Act.put]
          refine wpAnyH_take (i := 4) (v := .int .u8 c.toNat) rfl (by kernel_rfl) (by kernel_rfl) (by kernel_rfl) (fun _ _ _ h => h) (Or.inl ⟨by kernel_rfl, ?_⟩) trivial ?_
          · intro w _; go_simp
          simp only [Act.put]
          refine wpAnyH_take (i := 7) (v := .string s) rfl (by kernel_rfl) (by kernel_rfl) (by kernel_rfl) (fun _ _ _ h => h) (Or.inl ⟨by kernel_rfl, ?_⟩) trivial ?_
          · intro w _; go_simp
          simp only [Act.put]
          refine wpAnyH_take (i := 8) (v := .int .i64 k) rfl (by kernel_rfl) (by kernel_rfl) (by kernel_rfl) (fun _ _ _ h => h) (Or.inl ⟨by kernel_rfl, ?_⟩) trivial ?_
          · intro w _; go_simp
          simp only [Act.put]
          refine wpAnyH_take (i := 9) (v := .int .i64 k) rfl (by kernel_rfl) (by kernel_rfl) (by kernel_rfl) (fun _ _ _ h => h) (Or.inl ⟨by kernel_rfl, ?_⟩) trivial ?_
          · intro w _; go_simp
          simp only [Act.put]
          refine wpAnyH_take (i := 10) (v := .int .i64 ((k : Int) + 2)) rfl (by kernel_rfl) (by kernel_rfl) (by kernel_rfl) (fun _ _ _ h => h) (Or.inl ⟨by kernel_rfl, ?_⟩) trivial ?_
          · intro w _; go_simp
          simp only [Act.put]
          refine wpAnyH_take (i := 11) (v := .string (s.extract k (k + 2))) rfl (by kernel_rfl) (by kernel_rfl) (by kernel_rfl) (fun _ _ _ h => h) (Or.inl ⟨by kernel_rfl, ?_⟩) trivial ?_
          · intro w _; go_simp
          simp only [Act.put]
          refine wpAnyH_ready (rs := [5]) (by kernel_rfl) (by simp) ?_
          refine AllReadyH.cons rfl (fun K hK => ?_) AllReadyH.nil
          go_simp
          refine hK.out _ _ trivial (fun _ => ?_)
          clear hK K
          refine wpAnyH_ready (rs := [6]) (by kernel_rfl) (by simp) ?_
          refine AllReadyH.cons rfl (fun K hK => ?_) AllReadyH.nil
          go_simp
          refine Hhex.out.mono ?_; rintro e w2 ⟨rfl, hB2⟩
          go_wp2_with fail
          refine hK.out _ _ trivial (fun _ => ?_)
          clear hK K
          refine wpAnyH_take (i := 12) (v := .bool false) rfl (by kernel_rfl) (by kernel_rfl) (by kernel_rfl) (fun _ _ _ h => h) (Or.inl ⟨by kernel_rfl, ?_⟩) trivial ?_
          · intro w _; go_simp
          simp only [Act.put, List.setIfInBounds_toArray]
          refine wpAnyH_take (i := 13) (v := .bool false) rfl (by kernel_rfl) (by kernel_rfl) (by kernel_rfl) (fun _ _ _ h => h) (Or.inl ⟨by kernel_rfl, ?_⟩) trivial ?_
          · intro w _; go_simp
          simp only [Act.put]
          refine wpAnyH_ready (rs := [14]) (by kernel_rfl) (by simp) ?_
          refine AllReadyH.cons rfl (fun K hK => ?_) AllReadyH.nil
          go_simp
          refine (must_f _).mono ?_; rintro e w3 ⟨rfl, rfl⟩
          go_wp2_with fail
          exact ⟨rfl, .inr ⟨rfl, Hno.out⟩, HB2.out _ hB2⟩
      | syn =>
        have Hno : Hid (unp bs = none) := by rw [Hid, Hres.out, show pairS a b = none by unfold pairS; rw [hp]]; rfl
        rw [hp] at htell
        clear hp
        obtain ⟨p, rfl⟩ := htell
        go_wp2_with fail
        refine wp_region_held_drew (S := fun _ => True) (by kernel_rfl) trivial (fun _ => ?_)
        refine wpAnyH_take (i := 0) (v := .iface 222 p) rfl (by kernel_rfl) (by kernel_rfl) (by kernel_rfl) (fun _ _ _ h => h) (Or.inl ⟨by kernel_rfl, ?_⟩) trivial ?_
        · intro w _; go_simp
        simp only [Act.put, List.setIfInBounds_toArray]
        refine wpAnyH_take (i := 1) (v := .bool false) rfl (by kernel_rfl) (by kernel_rfl) (by kernel_rfl) (fun _ _ _ h => h) (Or.inl ⟨by kernel_rfl, ?_⟩) trivial ?_
        · intro w _; go_simp
        simp only [Act.put]
        refine wpAnyH_take (i := 2) (v := .bool false) rfl (by kernel_rfl) (by kernel_rfl) (by kernel_rfl) (fun _ _ _ h => h) (Or.inl ⟨by kernel_rfl, ?_⟩) trivial ?_
        · intro w _; go_simp
        simp only [Act.put]
        refine wpAnyH_take (i := 3) (v := undef) rfl (by kernel_rfl) (by kernel_rfl) (by kernel_rfl) (fun _ _ _ h => h) (Or.inr ⟨by kernel_rfl, rfl⟩) trivial ?_
        simp only [Act.put]
        refine wpAnyH_take (i := 4) (v := undef) rfl (by kernel_rfl) (by kernel_rfl) (by kernel_rfl) (fun _ _ _ h => h) (Or.inr ⟨by kernel_rfl, rfl⟩) trivial ?_
        simp only [Act.put]
        refine wpAnyH_take (i := 5) (v := undef) rfl (by kernel_rfl) (by kernel_rfl) (by kernel_rfl) (fun _ _ _ h => h) (Or.inr ⟨by kernel_rfl, rfl⟩) trivial ?_
        simp only [Act.put]
        refine wpAnyH_take (i := 6) (v := undef) rfl (by kernel_rfl) (by kernel_rfl) (by kernel_rfl) (fun _ _ _ h => h) (Or.inr ⟨by kernel_rfl, rfl⟩) trivial ?_
        simp only [Act.put]
        refine wpAnyH_take (i := 7) (v := undef) rfl (by kernel_rfl) (by kernel_rfl) (by kernel_rfl) (fun _ _ _ h => h) (Or.inr ⟨by kernel_rfl, rfl⟩) trivial ?_
        simp only [Act.put]
        refine wpAnyH_take (i := 8) (v := undef) rfl (by kernel_rfl) (by kernel_rfl) (by kernel_rfl) (fun _ _ _ h => h) (Or.inr ⟨by kernel_rfl, rfl⟩) trivial ?_
        simp only [Act.put]
        refine wpAnyH_take (i := 9) (v := undef) rfl (by kernel_rfl) (by kernel_rfl) (by kernel_rfl) (fun _ _ _ h => h) (Or.inr ⟨by kernel_rfl, rfl⟩) trivial ?_
        simp only [Act.put]
        refine wpAnyH_take (i := 10) (v := undef) rfl (by kernel_rfl) (by kernel_rfl) (by kernel_rfl) (fun _ _ _ h => h) (Or.inr ⟨by kernel_rfl, rfl⟩) trivial ?_
        simp only [Act.put]
        refine wpAnyH_take (i := 11) (v := undef) rfl (by kernel_rfl) (by kernel_rfl) (by kernel_rfl) (fun _ _ _ h => h) (Or.inr ⟨by kernel_rfl, rfl⟩) trivial ?_
        simp only [Act.put]
        refine wpAnyH_take (i := 12) (v := undef) rfl (by kernel_rfl) (by kernel_rfl) (by kernel_rfl) (fun _ _ _ h => h) (Or.inr ⟨by kernel_rfl, rfl⟩) trivial ?_
        simp only [Act.put]
        refine wpAnyH_take (i := 13) (v := .bool false) rfl (by kernel_rfl) (by kernel_rfl) (by kernel_rfl) (fun _ _ _ h => h) (Or.inl ⟨by kernel_rfl, ?_⟩) trivial ?_
        · intro w _; go_simp
        simp only [Act.put]
        refine wpAnyH_ready (rs := [14]) (by kernel_rfl) (by simp) ?_
        refine AllReadyH.cons rfl (fun K hK => ?_) AllReadyH.nil
        go_simp
        refine (must_f _).mono ?_; rintro e w3 ⟨rfl, rfl⟩
        go_wp2_with fail
        exact ⟨rfl, .inr ⟨rfl, Hno.out⟩, hBw.drew⟩
      | rng =>
        have Hno : Hid (unp bs = none) := by rw [Hid, Hres.out, show pairS a b = none by unfold pairS; rw [hp]]; rfl
        rw [hp] at htell
        clear hp
        obtain ⟨p, rfl⟩ := htell
        go_wp2_with fail
        refine wp_region_held_drew (S := fun _ => True) (by kernel_rfl) trivial (fun _ => ?_)
        refine wpAnyH_take (i := 0) (v := .iface 222 p) rfl (by kernel_rfl) (by kernel_rfl) (by kernel_rfl) (fun _ _ _ h => h) (Or.inl ⟨by kernel_rfl, ?_⟩) trivial ?_
        · intro w _; go_simp
        simp only [Act.put, List.setIfInBounds_toArray]
        refine wpAnyH_take (i := 1) (v := .bool false) rfl (by kernel_rfl) (by kernel_rfl) (by kernel_rfl) (fun _ _ _ h => h) (Or.inl ⟨by kernel_rfl, ?_⟩) trivial ?_
        · intro w _; go_simp
        simp only [Act.put]
        refine wpAnyH_take (i := 2) (v := .bool false) rfl (by kernel_rfl) (by kernel_rfl) (by kernel_rfl) (fun _ _ _ h => h) (Or.inl ⟨by kernel_rfl, ?_⟩) trivial ?_
        · intro w _; go_simp
        simp only [Act.put]
        refine wpAnyH_take (i := 3) (v := undef) rfl (by kernel_rfl) (by kernel_rfl) (by kernel_rfl) (fun _ _ _ h => h) (Or.inr ⟨by kernel_rfl, rfl⟩) trivial ?_
        simp only [Act.put]
        refine wpAnyH_take (i := 4) (v := undef) rfl (by kernel_rfl) (by kernel_rfl) (by kernel_rfl) (fun _ _ _ h => h) (Or.inr ⟨by kernel_rfl, rfl⟩) trivial ?_
        simp only [Act.put]
        refine wpAnyH_take (i := 5) (v := undef) rfl (by kernel_rfl) (by kernel_rfl) (by kernel_rfl) (fun _ _ _ h => h) (Or.inr ⟨by kernel_rfl, rfl⟩) trivial ?_
        simp only [Act.put]
        refine wpAnyH_take (i := 6) (v := undef) rfl (by kernel_rfl) (by kernel_rfl) (by kernel_rfl) (fun _ _ _ h => h) (Or.inr ⟨by kernel_rfl, rfl⟩) trivial ?_
        simp only [Act.put]
        refine wpAnyH_take (i := 7) (v := undef) rfl (by kernel_rfl) (by kernel_rfl) (by kernel_rfl) (fun _ _ _ h => h) (Or.inr ⟨by kernel_rfl, rfl⟩) trivial ?_
        simp only [Act.put]
        refine wpAnyH_take (i := 8) (v := undef) rfl (by kernel_rfl) (by kernel_rfl) (by kernel_rfl) (fun _ _ _ h => h) (Or.inr ⟨by kernel_rfl, rfl⟩) trivial ?_
        simp only [Act.put]
        refine wpAnyH_take (i := 9) (v := undef) rfl (by kernel_rfl) (by kernel_rfl) (by kernel_rfl) (fun _ _ _ h => h) (Or.inr ⟨by kernel_rfl, rfl⟩) trivial ?_
        simp only [Act.put]
        refine wpAnyH_take (i := 10) (v := undef) rfl (by kernel_rfl) (by kernel_rfl) (by kernel_rfl) (fun _ _ _ h => h) (Or.inr ⟨by kernel_rfl, rfl⟩) trivial ?_
        simp only [Act.put]
        refine wpAnyH_take (i := 11) (v := undef) rfl (by kernel_rfl) (by kernel_rfl) (by kernel_rfl) (fun _ _ _ h => h) (Or.inr ⟨by kernel_rfl, rfl⟩) trivial ?_
        simp only [Act.put]
        refine wpAnyH_take (i := 12) (v := undef) rfl (by kernel_rfl) (by kernel_rfl) (by kernel_rfl) (fun _ _ _ h => h) (Or.inr ⟨by kernel_rfl, rfl⟩) trivial ?_
        simp only [Act.put]
        refine wpAnyH_take (i := 13) (v := .bool false) rfl (by kernel_rfl) (by kernel_rfl) (by kernel_rfl) (fun _ _ _ h => h) (Or.inl ⟨by kernel_rfl, ?_⟩) trivial ?_
        · intro w _; go_simp
        simp only [Act.put]
        refine wpAnyH_ready (rs := [14]) (by kernel_rfl) (by simp) ?_
        refine AllReadyH.cons rfl (fun K hK => ?_) AllReadyH.nil
        go_simp
        refine (must_f _).mono ?_; rintro e w3 ⟨rfl, rfl⟩
        go_wp2_with fail
        exact ⟨rfl, .inr ⟨rfl, Hno.out⟩, hBw.drew⟩
    · have hz : 2 * done.length = s.size := by omega
      have Hr := Lib.hid (hrest.out.trans (by rw [List.drop_eq_nil_of_le (by omega)]; simp [unp] : _ = some done))
      clear hrest
      rw [hz]
      clear hz
      go_wp2_with fail
      go_ret
      exact ⟨.inl ⟨_, done, rfl, Hr.out, hown⟩, hB⟩
end Go.Proofs.YtogmajeaaabjlaaGreatDoor
