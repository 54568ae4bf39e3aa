/- internal/strconv.ParseUint at base 10 and 63 bits, and at base 16 and 8 bits. -/
import Derived.Test.YtogmajeaaabjlaaGreatDoorShelf
import Derived.Test.YtogmajeaaabjlaaGreatDoorPu
import Derived.WalkKit
import Derived.WalkSpells
import Derived.WalkLawsBesides
import Derived.Lib.Hide
import Derived.Lib.ConvBytes
namespace Go.Proofs.YtogmajeaaabjlaaGreatDoor
open Go.RowKit

def puV (maxV : Nat) : PU → Value
  | .val n => .tuple #[.int .u64 n, .nilIface]
  | .syn => .tuple #[.int .u64 0, .iface 219 (.int .i64 2)]
  | .rng => .tuple #[.int .u64 maxV, .iface 219 (.int .i64 1)]
theorem ret_at {x y : PU} {m : Nat} (h : x = y) {v : Value} (hv : v = puV m y) : Ending.returned v = Ending.returned (puV m x) := by rw [hv, h]

theorem not_95 (c : UInt8) (h : low c ≤ 122) : ((c.toNat : Int) == 95) = false := by
  simp only [beq_eq_false_iff_ne]
  intro e
  have : c = 95 := UInt8.toNat_inj.1 (by show c.toNat = 95; omega)
  subst this
  exact absurd h (by decide)
theorem below_bytes (w : World) (s : ByteArray) : Below w.heap.size w (Lib.bytesWorld w 5 s) :=
  ⟨rfl, rfl, rfl, by simp [Lib.bytesWorld, World.freeze, World.alloc, World.drew, -World.alloc_eq, -World.drew_eq], fun i hi => Lib.bytesWorld_at_old w 5 s i hi⟩

set_option maxHeartbeats 2000000 in
set_option maxRecDepth 100000 in
theorem pu10_int (s : ByteArray) (w : World) (h0 : s.data.toList ≠ []) (hs : s.size ≤ 4294967296) :
    Calls Tryz.prog 78 #[.string s, .int .i64 10, .int .i64 63] w fun e w' => e = .returned (puV 9223372036854775807 (pu 10 9223372036854775807 0 s.data.toList)) ∧ Below w.heap.size w w' := by
  have he : s.toList.isEmpty = false := by
    rw [← decide_eq_emptyBytes]
    exact decide_eq_false (fun h => h0 (by rw [h]; rfl))
  have hcv := Lib.run_convert_string_bytes (P := Tryz.prog) w 9 32 5 s (u := .string) Tryz.underlying9 Tryz.underlying32 Tryz.underlying5
  have hBt : ∀ j, j < s.size → (Lib.bytesWorld w 5 s).cell? ⟨w.heap.size, j, none⟩ = some (.int .u8 (s.data.toList.getD j 0).toNat) := fun j hj => Lib.bytesWorld_cell w 5 s j hj
  have hbl := below_bytes w s
  obtain ⟨W1, hW1⟩ : ∃ W1, W1 = Lib.bytesWorld w 5 s := ⟨_, rfl⟩
  rw [← hW1] at hcv hBt hbl
  clear hW1
  obtain ⟨bs, hLs⟩ : ∃ bs, bs = s.data.toList := ⟨_, rfl⟩
  have hLn : bs.length = s.size := by rw [hLs, Lib.size_eq]
  rw [← hLs] at hBt ⊢
  clear hLs h0
  go_enter Tryz.func78, Tryz.ntmps78
  go_wp2_with fail
  go_loop [12, 13, 101] (fun vu vn vi => ∃ (k acc : Nat) (a : Int), vu = .bool false ∧ vn = .int .u64 a ∧ vi = .int .i64 k ∧ k ≤ s.size ∧ Hid (a = (acc : Int) ∧ acc ≤ 9223372036854775807 ∧ pu 10 9223372036854775807 0 bs = pu 10 9223372036854775807 acc (bs.drop k)))
    (fun _ _ vi => s.size - (intOf vi).toNat)
  case atStart => exact ⟨0, 0, 0, rfl, rfl, rfl, by omega, rfl, by omega, rfl⟩
  case round =>
    obtain ⟨k, acc, a, rfl, rfl, rfl, hk, hh⟩ := hrel
    obtain ⟨ha, hacc, hdec⟩ := hh.out
    clear hh
    have a0 : 0 ≤ a := by omega
    have a1 : a ≤ 9223372036854775807 := by omega
    by_cases hkn : k < s.size
    · have hc := hBt k hkn
      have hdrop : bs.drop k = bs[k]'(by omega) :: bs.drop (k + 1) := List.drop_eq_getElem_cons (by omega)
      have hget : bs.getD k 0 = bs[k]'(by omega) := by simp [List.getD, List.getElem?_eq_getElem (show k < bs.length by omega)]
      rw [hdrop] at hdec
      rw [hget] at hc
      generalize bs[k]'(by omega) = c at hc hdec
      have hc256 : c.toNat < 256 := c.toNat_lt
      clear hBt hdrop hget hcv
      by_cases hdig : 48 ≤ c.toNat ∧ c.toNat ≤ 57
      · have hdv : dval c = c.toNat - 48 := by unfold dval; rw [if_pos hdig]
        have hlt : ¬ dval c ≥ 10 := by omega
        obtain ⟨hd0, hd1⟩ := hdig
        by_cases hov : acc * 10 + dval c > 9223372036854775807
        · have hF : pu 10 9223372036854775807 acc (c :: bs.drop (k + 1)) = .rng := by simp only [pu]; rw [if_neg hlt, if_pos hov]
          have Hd := Lib.hid (hdec.trans hF)
          have iov : 9223372036854775807 < a * 10 + ((c.toNat : Int) - 48) := by omega
          by_cases hcut : 1844674407370955162 ≤ a
          · clear hdec hF hacc ha hov hdv hlt iov
            go_wp2_with fail
            go_ret2
            exact ⟨ret_at Hd.out rfl, hbl⟩
          · have icut : a < 1844674407370955162 := by omega
            by_cases hwp : 18446744073709551616 ≤ a * 10 + ((c.toNat : Int) - 48)
            · have hwr : IntKind.u64.wrap (a * 10 + ((c.toNat : Int) - 48)) = a * 10 + ((c.toNat : Int) - 48) - 18446744073709551616 := by rw [IntKind.wrap_u64]; omega
              clear hdec hF hacc ha hov hdv hlt hcut 
              go_wp2_with fail
              go_ret2
              exact ⟨ret_at Hd.out rfl, hbl⟩
            · have hwp' : a * 10 + ((c.toNat : Int) - 48) < 18446744073709551616 := by omega
              clear hdec hF hacc ha hov hdv hlt hcut hwp 
              go_wp2_with fail
              go_ret2
              exact ⟨ret_at Hd.out rfl, hbl⟩
        · have hF : pu 10 9223372036854775807 acc (c :: bs.drop (k + 1)) = pu 10 9223372036854775807 (acc * 10 + dval c) (bs.drop (k + 1)) := by simp only [pu]; rw [if_neg hlt, if_neg hov]
          have HN : Hid (a * 10 + ((c.toNat : Int) - 48) = ((acc * 10 + dval c : Nat) : Int) ∧ acc * 10 + dval c ≤ 9223372036854775807 ∧ pu 10 9223372036854775807 0 bs = pu 10 9223372036854775807 (acc * 10 + dval c) (bs.drop (k + 1))) := Lib.hid ⟨by omega, by omega, hdec.trans hF⟩
          have icut : a < 1844674407370955162 := by omega
          have iov : a * 10 + ((c.toNat : Int) - 48) ≤ 9223372036854775807 := by omega
          clear hdec hF hacc ha hov hdv hlt 
          go_wp2_with fail
          exact ⟨⟨k + 1, acc * 10 + dval c, a * 10 + ((c.toNat : Int) - 48), rfl, (by first | rfl | (congr 1; omega)), (by first | rfl | (congr 1; omega)), by omega, HN⟩, by simp [intOf]; omega⟩
      · have hF : pu 10 9223372036854775807 acc (c :: bs.drop (k + 1)) = .syn := by
          simp only [pu]
          rw [if_pos]
          unfold dval
          rw [if_neg hdig]
          split <;> omega
        have Hd := Lib.hid (hdec.trans hF)
        have hlow := low_eq c
        have hl256 := low_lt c
        clear hdec hF hacc ha
        by_cases hlet : 97 ≤ low c ∧ low c ≤ 122
        · obtain ⟨l0, l1⟩ := hlet
          go_wp2_with (go_at_call 114; refine (Tryz.internal_strconv_lower _ _).mono ?_; rintro e w' ⟨rfl, rfl⟩; simp only [low_eq])
          all_goals
            go_ret2
            exact ⟨ret_at Hd.out rfl, hbl⟩
        · go_wp2_with (go_at_call 114; refine (Tryz.internal_strconv_lower _ _).mono ?_; rintro e w' ⟨rfl, rfl⟩; simp only [low_eq])
          all_goals
            go_ret2
            exact ⟨ret_at Hd.out rfl, hbl⟩
    · obtain rfl : k = s.size := by omega
      have hF : pu 10 9223372036854775807 acc (bs.drop s.size) = .val acc := by rw [List.drop_eq_nil_of_le (by omega)]; rfl
      subst ha
      have Hd := Lib.hid (hdec.trans hF)
      clear hdec hF hacc a0 a1 hBt hcv
      go_wp2_with fail
      go_ret2
      exact ⟨ret_at Hd.out rfl, hbl⟩

set_option maxHeartbeats 2000000 in
set_option maxRecDepth 100000 in
theorem pu16_int (s : ByteArray) (w : World) (h0 : s.data.toList ≠ []) (hs : s.size ≤ 4294967296) :
    Calls Tryz.prog 78 #[.string s, .int .i64 16, .int .i64 8] w fun e w' => e = .returned (puV 255 (pu 16 255 0 s.data.toList)) ∧ Below w.heap.size w w' := by
  have he : s.toList.isEmpty = false := by
    rw [← decide_eq_emptyBytes]
    exact decide_eq_false (fun h => h0 (by rw [h]; rfl))
  have hcv := Lib.run_convert_string_bytes (P := Tryz.prog) w 9 32 5 s (u := .string) Tryz.underlying9 Tryz.underlying32 Tryz.underlying5
  have hBt : ∀ j, j < s.size → (Lib.bytesWorld w 5 s).cell? ⟨w.heap.size, j, none⟩ = some (.int .u8 (s.data.toList.getD j 0).toNat) := fun j hj => Lib.bytesWorld_cell w 5 s j hj
  have hbl := below_bytes w s
  obtain ⟨W1, hW1⟩ : ∃ W1, W1 = Lib.bytesWorld w 5 s := ⟨_, rfl⟩
  rw [← hW1] at hcv hBt hbl
  clear hW1
  obtain ⟨bs, hLs⟩ : ∃ bs, bs = s.data.toList := ⟨_, rfl⟩
  have hLn : bs.length = s.size := by rw [hLs, Lib.size_eq]
  rw [← hLs] at hBt ⊢
  clear hLs h0
  go_enter Tryz.func78, Tryz.ntmps78
  go_wp2_with fail
  go_loop [12, 13, 101] (fun vu vn vi => ∃ (k acc : Nat) (a : Int), vu = .bool false ∧ vn = .int .u64 a ∧ vi = .int .i64 k ∧ k ≤ s.size ∧ Hid (a = (acc : Int) ∧ acc ≤ 255 ∧ pu 16 255 0 bs = pu 16 255 acc (bs.drop k)))
    (fun _ _ vi => s.size - (intOf vi).toNat)
  case atStart => exact ⟨0, 0, 0, rfl, rfl, rfl, by omega, rfl, by omega, rfl⟩
  case round =>
    obtain ⟨k, acc, a, rfl, rfl, rfl, hk, hh⟩ := hrel
    obtain ⟨ha, hacc, hdec⟩ := hh.out
    clear hh
    have a0 : 0 ≤ a := by omega
    have a1 : a ≤ 255 := by omega
    by_cases hkn : k < s.size
    · have hc := hBt k hkn
      have hdrop : bs.drop k = bs[k]'(by omega) :: bs.drop (k + 1) := List.drop_eq_getElem_cons (by omega)
      have hget : bs.getD k 0 = bs[k]'(by omega) := by simp [List.getD, List.getElem?_eq_getElem (show k < bs.length by omega)]
      rw [hdrop] at hdec
      rw [hget] at hc
      generalize bs[k]'(by omega) = c at hc hdec
      have hc256 : c.toNat < 256 := c.toNat_lt
      clear hBt hdrop hget hcv
      by_cases hdig : 48 ≤ c.toNat ∧ c.toNat ≤ 57
      · have hdv : dval c = c.toNat - 48 := by unfold dval; rw [if_pos hdig]
        have hlt : ¬ dval c ≥ 16 := by omega
        obtain ⟨hd0, hd1⟩ := hdig
        by_cases hov : acc * 16 + dval c > 255
        · have hF : pu 16 255 acc (c :: bs.drop (k + 1)) = .rng := by simp only [pu]; rw [if_neg hlt, if_pos hov]
          have Hd := Lib.hid (hdec.trans hF)
          have iov : 255 < a * 16 + ((c.toNat : Int) - 48) := by omega
          clear hdec hF hacc ha hov hdv hlt 
          go_wp2_with fail
          go_ret2
          exact ⟨ret_at Hd.out rfl, hbl⟩
        · have hF : pu 16 255 acc (c :: bs.drop (k + 1)) = pu 16 255 (acc * 16 + dval c) (bs.drop (k + 1)) := by simp only [pu]; rw [if_neg hlt, if_neg hov]
          have HN : Hid (a * 16 + ((c.toNat : Int) - 48) = ((acc * 16 + dval c : Nat) : Int) ∧ acc * 16 + dval c ≤ 255 ∧ pu 16 255 0 bs = pu 16 255 (acc * 16 + dval c) (bs.drop (k + 1))) := Lib.hid ⟨by omega, by omega, hdec.trans hF⟩
          have icut : a < 1152921504606846976 := by omega
          have iov : a * 16 + ((c.toNat : Int) - 48) ≤ 255 := by omega
          clear hdec hF hacc ha hov hdv hlt 
          go_wp2_with fail
          exact ⟨⟨k + 1, acc * 16 + dval c, a * 16 + ((c.toNat : Int) - 48), rfl, (by first | rfl | (congr 1; omega)), (by first | rfl | (congr 1; omega)), by omega, HN⟩, by simp [intOf]; omega⟩
      · have hlow := low_eq c
        have hl256 := low_lt c
        by_cases hlet : 97 ≤ low c ∧ low c ≤ 122
        · obtain ⟨l0, l1⟩ := hlet
          have h95 : ((c.toNat : Int) == 95) = false := not_95 c l1
          have hdv : dval c = low c - 87 := by unfold dval; rw [if_neg hdig, if_pos ⟨l0, l1⟩]
          by_cases hsix : low c ≤ 102
          · have hlt : ¬ dval c ≥ 16 := by omega
            by_cases hov : acc * 16 + dval c > 255
            · have hF : pu 16 255 acc (c :: bs.drop (k + 1)) = .rng := by simp only [pu]; rw [if_neg hlt, if_pos hov]
              have Hd := Lib.hid (hdec.trans hF)
              have iov : 255 < a * 16 + ((low c : Int) - 97 + 10) := by omega
              clear hdec hF hacc ha hov hdv hlt 
              go_wp2_with (go_at_call 114; refine (Tryz.internal_strconv_lower _ _).mono ?_; rintro e w' ⟨rfl, rfl⟩; simp only [low_eq])
              all_goals
                go_ret2
                exact ⟨ret_at Hd.out rfl, hbl⟩
            · have hF : pu 16 255 acc (c :: bs.drop (k + 1)) = pu 16 255 (acc * 16 + dval c) (bs.drop (k + 1)) := by simp only [pu]; rw [if_neg hlt, if_neg hov]
              have HN : Hid (a * 16 + ((low c : Int) - 97 + 10) = ((acc * 16 + dval c : Nat) : Int) ∧ acc * 16 + dval c ≤ 255 ∧ pu 16 255 0 bs = pu 16 255 (acc * 16 + dval c) (bs.drop (k + 1))) := Lib.hid ⟨by omega, by omega, hdec.trans hF⟩
              have icut : a < 1152921504606846976 := by omega
              have iov : a * 16 + ((low c : Int) - 97 + 10) ≤ 255 := by omega
              clear hdec hF hacc ha hov hdv hlt 
              go_wp2_with (go_at_call 114; refine (Tryz.internal_strconv_lower _ _).mono ?_; rintro e w' ⟨rfl, rfl⟩; simp only [low_eq])
              all_goals exact ⟨⟨k + 1, acc * 16 + dval c, a * 16 + ((low c : Int) - 97 + 10), rfl, (by first | rfl | (congr 1; omega)), (by first | rfl | (congr 1; omega)), by omega, HN⟩, by simp [intOf]; omega⟩
          · have hF : pu 16 255 acc (c :: bs.drop (k + 1)) = .syn := by
              simp only [pu]
              rw [if_pos (by omega)]
            have Hd := Lib.hid (hdec.trans hF)
            clear hdec hF hacc ha hdv
            go_wp2_with (go_at_call 114; refine (Tryz.internal_strconv_lower _ _).mono ?_; rintro e w' ⟨rfl, rfl⟩; simp only [low_eq])
            all_goals
              go_ret2
              exact ⟨ret_at Hd.out rfl, hbl⟩
        · have hF : pu 16 255 acc (c :: bs.drop (k + 1)) = .syn := by
            simp only [pu]
            rw [if_pos]
            unfold dval
            rw [if_neg hdig, if_neg hlet]
            omega
          have Hd := Lib.hid (hdec.trans hF)
          clear hdec hF hacc ha
          go_wp2_with (go_at_call 114; refine (Tryz.internal_strconv_lower _ _).mono ?_; rintro e w' ⟨rfl, rfl⟩; simp only [low_eq])
          all_goals
            go_ret2
            exact ⟨ret_at Hd.out rfl, hbl⟩
    · obtain rfl : k = s.size := by omega
      have hF : pu 16 255 acc (bs.drop s.size) = .val acc := by rw [List.drop_eq_nil_of_le (by omega)]; rfl
      subst ha
      have Hd := Lib.hid (hdec.trans hF)
      clear hdec hF hacc a0 a1 hBt hcv
      go_wp2_with fail
      go_ret2
      exact ⟨ret_at Hd.out rfl, hbl⟩

end Go.Proofs.YtogmajeaaabjlaaGreatDoor
