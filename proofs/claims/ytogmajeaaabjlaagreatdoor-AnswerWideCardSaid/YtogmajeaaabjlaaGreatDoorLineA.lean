/- The contract of answer.Line: the line of an ask, or that there is none. -/
import Derived.Test.YtogmajeaaabjlaaGreatDoorTold3
import Derived.Test.YtogmajeaaabjlaaGreatDoorHex
import Derived.Test.YtogmajeaaabjlaaGreatDoorMapLit
import Derived.Lib.ItoaLen
namespace Go.Proofs.YtogmajeaaabjlaaGreatDoor
open Go.RowKit

/-- The names of the asks' kinds, as the literal has them. -/
def kinds1 : Array MapEntry := #[⟨.int .i64 1, .string ⟨#[98, 108, 111, 99, 107]⟩, 0⟩]
def kinds2 : Array MapEntry := kinds1.push ⟨.int .i64 2, .string ⟨#[116, 120]⟩, 1⟩
def kinds3 : Array MapEntry := kinds2.push ⟨.int .i64 3, .string ⟨#[116, 105, 99, 107]⟩, 2⟩

theorem ins1 (w : World) : (Instr.mapUpdate 65 (.map (some w.heap.size)) (.int .i64 1) (.string ⟨#[98, 108, 111, 99, 107]⟩)).run Tryz.prog (w.alloc (.map #[] 0)) = .ok () (w.alloc (.map kinds1 1)) :=
  run_insert_last Tryz.underlying65 Tryz.underlying31 w _ _ _ _ _ rfl rfl rfl
theorem ins2 (w : World) : (Instr.mapUpdate 65 (.map (some w.heap.size)) (.int .i64 2) (.string ⟨#[116, 120]⟩)).run Tryz.prog (w.alloc (.map kinds1 1)) = .ok () (w.alloc (.map kinds2 2)) :=
  run_insert_last Tryz.underlying65 Tryz.underlying31 w _ _ _ _ _ rfl rfl rfl
theorem ins3 (w : World) : (Instr.mapUpdate 65 (.map (some w.heap.size)) (.int .i64 3) (.string ⟨#[116, 105, 99, 107]⟩)).run Tryz.prog (w.alloc (.map kinds2 2)) = .ok () (w.alloc (.map kinds3 3)) :=
  run_insert_last Tryz.underlying65 Tryz.underlying31 w _ _ _ _ _ rfl rfl rfl
theorem look1 (w : World) : (Instr.lookup 65 (.map (some w.heap.size)) (.int .i64 1) true).run Tryz.prog (w.alloc (.map kinds3 3)) = .ok (.tuple #[.string ⟨#[98, 108, 111, 99, 107]⟩, .bool true]) (w.alloc (.map kinds3 3)) :=
  run_lookup_last Tryz.underlying65 Tryz.underlying31 w _ _ (.int .i64 1) _ rfl rfl 0 _ rfl
theorem look2 (w : World) : (Instr.lookup 65 (.map (some w.heap.size)) (.int .i64 2) true).run Tryz.prog (w.alloc (.map kinds3 3)) = .ok (.tuple #[.string ⟨#[116, 120]⟩, .bool true]) (w.alloc (.map kinds3 3)) :=
  run_lookup_last Tryz.underlying65 Tryz.underlying31 w _ _ (.int .i64 2) _ rfl rfl 1 _ rfl
theorem look3 (w : World) : (Instr.lookup 65 (.map (some w.heap.size)) (.int .i64 3) true).run Tryz.prog (w.alloc (.map kinds3 3)) = .ok (.tuple #[.string ⟨#[116, 105, 99, 107]⟩, .bool true]) (w.alloc (.map kinds3 3)) :=
  run_lookup_last Tryz.underlying65 Tryz.underlying31 w _ _ (.int .i64 3) _ rfl rfl 2 _ rfl
theorem look0 (k : Int) (hk : k < 1 ∨ 3 < k) (w : World) : (Instr.lookup 65 (.map (some w.heap.size)) (.int .i64 k) true).run Tryz.prog (w.alloc (.map kinds3 3)) = .ok (.tuple #[.string ⟨#[]⟩, .bool false]) (w.alloc (.map kinds3 3)) := by
  refine run_lookup_none Tryz.underlying65 Tryz.underlying31 w _ _ (.int .i64 k) _ rfl rfl _ (fun _ => by kernel_rfl) ?_
  have h1 : (k == 1) = false := by simp; omega
  have h2 : (k == 2) = false := by simp; omega
  have h3 : (k == 3) = false := by simp; omega
  simp [kinds3, kinds2, kinds1, Instr.findNow, Instr.sameNow, h1, h2, h3]

set_option maxHeartbeats 400000 in
set_option maxRecDepth 100000 in
theorem line1_out (b : Nat) (k : Int) (w : World) (h0 : w.cell? ⟨b, 0, none⟩ = some (.int .i64 k)) (hb : b < w.heap.size) (hk : k < 1 ∨ 3 < k) :
    Calls Tryz.prog 17 #[.pointer (some ⟨b, 0, none⟩)] w fun e w' => e = .panicked thrown ∧ Below w.heap.size w w' := by
  have hmm := @run_makeMap Tryz.prog
  have i1 := ins1; have i2 := ins2; have i3 := ins3; have l0 := look0 k hk
  go_enter Tryz.func17, Tryz.ntmps17
  go_wp2_with fail
  refine (must_f _).mono ?_; rintro e w' ⟨rfl, rfl⟩
  go_wp2_with fail
  exact ⟨rfl, rfl, (Below.refl _ _).alloc (Nat.le_refl _) _⟩

/-- What is looked up of a kind. -/
def NameAt (k : Int) (nm : ByteArray) : Prop := ∀ w : World, (Instr.lookup 65 (.map (some w.heap.size)) (.int .i64 k) true).run Tryz.prog (w.alloc (.map kinds3 3)) = .ok (.tuple #[.string nm, .bool true]) (w.alloc (.map kinds3 3))

set_option maxHeartbeats 400000 in
set_option maxRecDepth 100000 in
/-- a tick that is none -/
theorem line1_tick_no (b : Nat) (y : Int) (n c : Nat) (a : Option Addr) (w : World) (h0 : w.cell? ⟨b, 0, none⟩ = some (.int .i64 3)) (h1 : w.cell? ⟨b, 1, none⟩ = some (.slice a n c)) (h2 : w.cell? ⟨b, 2, none⟩ = some (.int .i64 y)) (hb : b < w.heap.size) (hno : ¬ (0 ≤ y ∧ n = 0)) :
    Calls Tryz.prog 17 #[.pointer (some ⟨b, 0, none⟩)] w fun e w' => e = .panicked thrown ∧ Below w.heap.size w w' := by
  have hmm := @run_makeMap Tryz.prog
  have i1 := ins1; have i2 := ins2; have i3 := ins3; have l0 := look3
  by_cases hy : 0 ≤ y
  · have hn : ((n : Int) == 0) = false := by simp; intro h; exact hno ⟨hy, h⟩
    go_enter Tryz.func17, Tryz.ntmps17
    go_wp2_with fail
    refine (must_t _).mono ?_; rintro e w' ⟨rfl, rfl⟩
    go_wp2_with fail
    refine (must_f _).mono ?_; rintro e w' ⟨rfl, rfl⟩
    go_wp2_with fail
    exact ⟨rfl, rfl, (Below.refl _ _).alloc (Nat.le_refl _) _⟩
  · go_enter Tryz.func17, Tryz.ntmps17
    go_wp2_with fail
    refine (must_t _).mono ?_; rintro e w' ⟨rfl, rfl⟩
    go_wp2_with fail
    refine (must_f _).mono ?_; rintro e w' ⟨rfl, rfl⟩
    go_wp2_with fail
    exact ⟨rfl, rfl, (Below.refl _ _).alloc (Nat.le_refl _) _⟩

theorem itoa_len64 (n : Int) (h0 : 0 ≤ n) (h1 : n ≤ 9223372036854775807) : (Lib.itoa n).length ≤ 1000 :=
  Nat.le_trans (Lib.itoa_length_le n (by omega) h1) (by omega)

set_option maxHeartbeats 400000 in
set_option maxRecDepth 100000 in
/-- a tick -/
theorem line1_tick (b : Nat) (y : Int) (c : Nat) (a : Option Addr) (w : World) (hL : Laid w) (h0 : w.cell? ⟨b, 0, none⟩ = some (.int .i64 3)) (h1 : w.cell? ⟨b, 1, none⟩ = some (.slice a 0 c)) (h2 : w.cell? ⟨b, 2, none⟩ = some (.int .i64 y)) (hb : b < w.heap.size) (hy : 0 ≤ y) (hy1 : y ≤ 9223372036854775807) :
    Calls Tryz.prog 17 #[.pointer (some ⟨b, 0, none⟩)] w fun e w' => e = .returned (.string ⟨(joinW [] [⟨#[116, 105, 99, 107]⟩, ⟨(Lib.itoa y).toArray⟩]).toArray⟩) ∧ Below w.heap.size w w' := by
  have hmm := @run_makeMap Tryz.prog
  have i1 := ins1; have i2 := ins2; have i3 := ins3; have l0 := look3
  have hj : (joinW [] [⟨#[116, 105, 99, 107]⟩, ⟨(Lib.itoa y).toArray⟩]).length ≤ 2000 := by
    have := joinW_len [⟨#[116, 105, 99, 107]⟩, ⟨(Lib.itoa y).toArray⟩] []
    have h := itoa_len64 y hy hy1
    have e1 : (⟨#[116, 105, 99, 107]⟩ : ByteArray).size = 4 := rfl
    have e2 : (⟨(Lib.itoa y).toArray⟩ : ByteArray).size = (Lib.itoa y).length := by simp [ByteArray.size]
    simp only [List.map_cons, List.map_nil, List.sum_cons, List.sum_nil, List.length_nil, e1, e2] at this
    omega
  have hne : joinW [] [⟨#[116, 105, 99, 107]⟩, ⟨(Lib.itoa y).toArray⟩] ≠ [] := joinW_ne [⟨(Lib.itoa y).toArray⟩] _ (by simp)
  have Hne := Lib.hid hne
  clear hne
  go_enter Tryz.func17, Tryz.ntmps17
  go_wp2_with fail
  refine (must_t _).mono ?_; rintro e w' ⟨rfl, rfl⟩
  go_wp2_with fail
  refine (must_t _).mono ?_; rintro e w' ⟨rfl, rfl⟩
  go_wp2_with fail
  refine (text_any y (by omega) (by omega) _ (hL.below ((Below.refl _ _).alloc (Nat.le_refl _) _) hL.size)).mono ?_
  rintro e w1 ⟨rfl, hBt⟩
  have hB1 : Below w.heap.size w w1 := ((Below.refl _ _).alloc (Nat.le_refl _) _).trans (hBt.mono (by simp))
  go_wp2_with fail
  refine (of_any [⟨#[116, 105, 99, 107]⟩, ⟨(Lib.itoa y).toArray⟩] _ _ (w1.heap.size + 1) (by simp) (strsV_two _ _ _ _ (by rfl)) (by omega) (by simp)).mono ?_
  rintro e w2 ⟨rfl, hLB, hB2⟩
  have hB : Below w.heap.size w w2 := (hB1.alloc hB1.size _).trans (hB2.mono (by have := hB1.size; omega))
  go_wp2_with fail
  refine (builder_string _ _ _ _ _ hLB Hne.out).mono ?_
  rintro e w3 ⟨rfl, hW⟩
  go_wp2_with fail
  go_ret
  exact ⟨rfl, hB.trans (hW.below.mono (by have := hB1.size; omega))⟩

set_option maxHeartbeats 400000 in
set_option maxRecDepth 100000 in
/-- a block, or a transaction, with a number -/
theorem line1_bytes_no (b : Nat) (k : Int) (nm : ByteArray) (y : Int) (w : World) (hk : k = 1 ∨ k = 2) (hnm : NameAt k nm) (h0 : w.cell? ⟨b, 0, none⟩ = some (.int .i64 k)) (h2 : w.cell? ⟨b, 2, none⟩ = some (.int .i64 y)) (hb : b < w.heap.size) (hy : y ≠ 0) :
    Calls Tryz.prog 17 #[.pointer (some ⟨b, 0, none⟩)] w fun e w' => e = .panicked thrown ∧ Below w.heap.size w w' := by
  have hmm := @run_makeMap Tryz.prog
  have i1 := ins1; have i2 := ins2; have i3 := ins3; have l0 := hnm; unfold NameAt at l0
  have k3 : (k == 3) = false := by simp; omega
  have y0 : (y == 0) = false := by simpa using hy
  clear hk hy hnm
  go_enter Tryz.func17, Tryz.ntmps17
  go_wp2_with fail
  refine (must_t _).mono ?_; rintro e w' ⟨rfl, rfl⟩
  go_wp2_with fail
  refine (must_f _).mono ?_; rintro e w' ⟨rfl, rfl⟩
  go_wp2_with fail
  exact ⟨rfl, rfl, (Below.refl _ _).alloc (Nat.le_refl _) _⟩

theorem hexS_len (l : List UInt8) : (hexS l).length ≤ 2 * l.length + 1 := by
  unfold hexS
  split
  · simp
  · rw [hexD_length]; omega

set_option maxHeartbeats 400000 in
set_option maxRecDepth 100000 in
/-- a block, or a transaction -/
theorem line1_bytes (b : Nat) (k : Int) (nm : ByteArray) (l : List UInt8) (v : Value) (w : World) (hk : k = 1 ∨ k = 2) (hnm : NameAt k nm) (hs : nm.size ≤ 100) (hs0 : nm.data.toList ≠ []) (h0 : w.cell? ⟨b, 0, none⟩ = some (.int .i64 k)) (h1 : w.cell? ⟨b, 1, none⟩ = some v) (h2 : w.cell? ⟨b, 2, none⟩ = some (.int .i64 0)) (hb : b < w.heap.size)
    (hv : BytesV w.heap.size w v l) (hl : l.length ≤ 4294967296) :
    Calls Tryz.prog 17 #[.pointer (some ⟨b, 0, none⟩)] w fun e w' => e = .returned (.string ⟨(joinW [] [nm, ⟨(hexS l).toArray⟩]).toArray⟩) ∧ Below w.heap.size w w' := by
  have hmm := @run_makeMap Tryz.prog
  have i1 := ins1; have i2 := ins2; have i3 := ins3; have l0 := hnm; unfold NameAt at l0
  have k3 : (k == 3) = false := by simp; omega
  have hx := hexS_len l
  have hj : (joinW [] [nm, ⟨(hexS l).toArray⟩]).length ≤ 2 * l.length + 200 := by
    have := joinW_len [nm, ⟨(hexS l).toArray⟩] []
    have e2 : (⟨(hexS l).toArray⟩ : ByteArray).size = (hexS l).length := by simp [ByteArray.size]
    simp only [List.map_cons, List.map_nil, List.sum_cons, List.sum_nil, List.length_nil, e2] at this
    omega
  have hne : joinW [] [nm, ⟨(hexS l).toArray⟩] ≠ [] := joinW_ne [⟨(hexS l).toArray⟩] _ (by simpa using hs0)
  have Hne := Lib.hid hne
  have hv' : BytesV (w.alloc (.map kinds3 3)).heap.size (w.alloc (.map kinds3 3)) v l := by
    obtain ⟨a, cap, rfl, h⟩ := hv
    refine ⟨a, cap, rfl, h.imp_right ?_⟩
    rintro ⟨bb, off, rfl, hbb, hc⟩
    exact ⟨bb, off, rfl, by simp; omega, fun j hj => by rw [World.cell?_alloc_past _ _ _ hbb]; exact hc j hj⟩
  have Hv := Lib.hid hv'
  clear hne hk hnm hs0 hx hv hv'
  go_enter Tryz.func17, Tryz.ntmps17
  go_wp2_with fail
  refine (must_t _).mono ?_; rintro e w' ⟨rfl, rfl⟩
  go_wp2_with fail
  refine (must_t _).mono ?_; rintro e w' ⟨rfl, rfl⟩
  go_wp2_with fail
  refine (hex_any l v _ Hv.out (by omega)).mono ?_
  rintro e w1 ⟨rfl, hBt⟩
  have hB1 : Below w.heap.size w w1 := ((Below.refl _ _).alloc (Nat.le_refl _) _).trans (hBt.mono (by simp))
  go_wp2_with fail
  refine (of_any [nm, ⟨(hexS l).toArray⟩] _ _ (w1.heap.size + 1) (by simp) (strsV_two _ _ _ _ (by rfl)) (by omega) (by simp)).mono ?_
  rintro e w2 ⟨rfl, hLB, hB2⟩
  have hB : Below w.heap.size w w2 := (hB1.alloc hB1.size _).trans (hB2.mono (by have := hB1.size; omega))
  go_wp2_with fail
  refine (builder_string _ _ _ _ _ hLB Hne.out).mono ?_
  rintro e w3 ⟨rfl, hW⟩
  go_wp2_with fail
  go_ret
  exact ⟨rfl, hB.trans (hW.below.mono (by have := hB1.size; omega))⟩

/-- The line of an ask: its kind, its bytes, its number. -/
def lineS (k : Int) (l : List UInt8) (y : Int) : Option (List UInt8) :=
  if k = 1 ∧ y = 0 then some (joinW [] [⟨#[98, 108, 111, 99, 107]⟩, ⟨(hexS l).toArray⟩])
  else if k = 2 ∧ y = 0 then some (joinW [] [⟨#[116, 120]⟩, ⟨(hexS l).toArray⟩])
  else if k = 3 ∧ 0 ≤ y ∧ l = [] then some (joinW [] [⟨#[116, 105, 99, 107]⟩, ⟨(Lib.itoa y).toArray⟩])
  else none

/-- What the call of a closure comes to, as tried asks for it. -/
def Came (o : Option (List UInt8)) (w : World) (e : Ending) (w' : World) : Prop :=
  ((∃ s, e = .returned (.string s) ∧ some s = o.map fun l => ⟨l.toArray⟩) ∨ (e = .panicked thrown ∧ (none : Option ByteArray) = o.map fun l => ⟨l.toArray⟩)) ∧ Below w.heap.size w w'
theorem came_some {x : List UInt8} {w w' : World} {e : Ending} (h : e = .returned (.string ⟨x.toArray⟩) ∧ Below w.heap.size w w') : Came (some x) w e w' := ⟨.inl ⟨_, h.1, rfl⟩, h.2⟩
theorem came_none {w w' : World} {e : Ending} (h : e = .panicked thrown ∧ Below w.heap.size w w') : Came none w e w' := ⟨.inr ⟨h.1, rfl⟩, h.2⟩

theorem line1_any (b : Nat) (k y : Int) (l : List UInt8) (v : Value) (w : World) (hL : Laid w) (h0 : w.cell? ⟨b, 0, none⟩ = some (.int .i64 k)) (h1 : w.cell? ⟨b, 1, none⟩ = some v) (h2 : w.cell? ⟨b, 2, none⟩ = some (.int .i64 y)) (hb : b < w.heap.size)
    (hv : BytesV w.heap.size w v l) (hl : l.length ≤ 4294967296) (hy : y ≤ 9223372036854775807) :
    Calls Tryz.prog 17 #[.pointer (some ⟨b, 0, none⟩)] w (Came (lineS k l y) w) := by
  by_cases k1 : k = 1
  · subst k1
    by_cases y0 : y = 0
    · subst y0
      rw [show lineS 1 l 0 = some (joinW [] [⟨#[98, 108, 111, 99, 107]⟩, ⟨(hexS l).toArray⟩]) by simp [lineS]]
      exact (line1_bytes b 1 _ l v w (.inl rfl) look1 (by decide) (by simp) h0 h1 h2 hb hv hl).mono fun _ _ h => came_some h
    · rw [show lineS 1 l y = none by simp [lineS, y0]]
      exact (line1_bytes_no b 1 _ y w (.inl rfl) look1 h0 h2 hb y0).mono fun _ _ h => came_none h
  · by_cases k2 : k = 2
    · subst k2
      by_cases y0 : y = 0
      · subst y0
        rw [show lineS 2 l 0 = some (joinW [] [⟨#[116, 120]⟩, ⟨(hexS l).toArray⟩]) by simp [lineS]]
        exact (line1_bytes b 2 _ l v w (.inr rfl) look2 (by decide) (by simp) h0 h1 h2 hb hv hl).mono fun _ _ h => came_some h
      · rw [show lineS 2 l y = none by simp [lineS, y0]]
        exact (line1_bytes_no b 2 _ y w (.inr rfl) look2 h0 h2 hb y0).mono fun _ _ h => came_none h
    · by_cases k3 : k = 3
      · subst k3
        obtain ⟨a, cap, rfl, hv⟩ := hv
        by_cases hy0 : 0 ≤ y ∧ l = []
        · obtain ⟨hy0, rfl⟩ := hy0
          rw [show lineS 3 [] y = some (joinW [] [⟨#[116, 105, 99, 107]⟩, ⟨(Lib.itoa y).toArray⟩]) by simp [lineS, hy0]]
          exact (line1_tick b y cap a w hL h0 h1 h2 hb hy0 hy).mono fun _ _ h => came_some h
        · rw [show lineS 3 l y = none by simp only [lineS]; rw [if_neg (by omega), if_neg (by omega), if_neg (fun h => hy0 h.2)]]
          exact (line1_tick_no b y _ cap a w h0 h1 h2 hb (fun h => hy0 ⟨h.1, List.length_eq_zero_iff.1 h.2⟩)).mono fun _ _ h => came_none h
      · rw [show lineS k l y = none by simp [lineS, k1, k2, k3]]
        exact (line1_out b k w h0 hb (by omega)).mono fun _ _ h => came_none h

theorem bytesV_later {B B' : Nat} {w w' : World} {v : Value} {l : List UInt8} (h : BytesV B w v l) (hb : Below B w w') (hB : B ≤ B') : BytesV B' w' v l := by
  obtain ⟨a, cap, rfl, h⟩ := h
  refine ⟨a, cap, rfl, h.imp_right ?_⟩
  rintro ⟨bb, off, rfl, hbb, hc⟩
  exact ⟨bb, off, rfl, by omega, fun j hj => by rw [hb.cell hbb]; exact hc j hj⟩

set_option maxHeartbeats 1000000 in
set_option maxRecDepth 100000 in
/-- answer.Line -/
theorem line_any (k y : Int) (l : List UInt8) (v : Value) (w : World) (hL : Laid w) (hv : BytesV w.heap.size w v l) (hl : l.length ≤ 4294967296) (hy : y ≤ 9223372036854775807) :
    Calls Tryz.prog 7 #[.agg #[.int .i64 k, v, .int .i64 y]] w fun e w' =>
      e = .returned (.tuple #[.string ⟨((lineS k l y).getD []).toArray⟩, .bool (lineS k l y).isSome]) ∧ Below w.heap.size w w' := by
  have hmf := run_makeFunc
  have hB0 : Below w.heap.size w (((w.alloc (.cells #[.int .i64 k, v, .int .i64 y] 34)).alloc (.cells #[.string ⟨#[]⟩] 9)).alloc (.cells #[.bool false] 4)) :=
    (((Below.refl _ _).alloc (Nat.le_refl _) _).alloc (by simp) _).alloc (by simp; omega) _
  have h1 := line1_any w.heap.size k y l v _ (hL.below hB0 hL.size) (by simp [go_sem]) (by simp [go_sem]) (by simp [go_sem]) (by simp; omega) (bytesV_later hv hB0 (by simp; omega)) hl hy
  have ht := tried_str 17 #[.pointer (some ⟨w.heap.size, 0, none⟩)] (w.alloc (.cells #[.int .i64 k, v, .int .i64 y] 34)) (fun x _ => x = (lineS k l y).map fun l => ⟨l.toArray⟩) (fun _ => rfl) (by refine h1.mono fun e w' h => ?_; simpa [Came] using h)
  have Ht := Lib.hid ht
  have Hv := Lib.hid hv
  obtain ⟨a, cap, rfl, hvv⟩ := hv
  clear ht h1 hvv
  go_enter Tryz.func7, Tryz.ntmps7
  go_wp2_with fail
  refine Ht.out.mono ?_
  rintro e w' ⟨x, w1, hx, rfl, hB⟩
  have Hx := Lib.hid hx
  clear hx
  go_wp2_with fail
  go_ret2
  refine ⟨?_, ((Below.refl _ _).alloc (Nat.le_refl _) _).trans (hB.mono (by simp))⟩
  rw [Hx.out]
  cases lineS k l y <;> rfl
end Go.Proofs.YtogmajeaaabjlaaGreatDoor
