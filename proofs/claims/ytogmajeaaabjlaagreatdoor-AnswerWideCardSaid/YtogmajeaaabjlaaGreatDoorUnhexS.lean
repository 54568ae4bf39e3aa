/- The plain words of answer.unhex and answer.number. -/
import Derived.Test.YtogmajeaaabjlaaGreatDoorHex
import Derived.Test.YtogmajeaaabjlaaGreatDoorPuP
namespace Go.Proofs.YtogmajeaaabjlaaGreatDoor

/-- One pair of digits: its byte. -/
def pairS (a b : UInt8) : Option UInt8 :=
  match puS 16 255 [a, b] with
  | .val n => if hexD [UInt8.ofNat n] = [a, b] then some (UInt8.ofNat n) else none
  | _ => none
/-- The bytes of pairs of digits. -/
def unp : List UInt8 → Option (List UInt8)
  | [] => some []
  | [_] => none
  | a :: b :: r => (pairS a b).bind fun c => (unp r).map (c :: ·)
/-- The bytes of a word. -/
def unhexS (l : List UInt8) : Option (List UInt8) := if l = [45] then some [] else if l = [] ∨ l.length % 2 = 1 then none else unp l

theorem unp_step (l : List UInt8) (k : Nat) (a b : UInt8) (h : l.drop k = a :: b :: l.drop (k + 2)) : unp (l.drop k) = (pairS a b).bind fun c => (unp (l.drop (k + 2))).map (c :: ·) := by
  rw [h]; rfl
theorem two_at (l : List UInt8) (k : Nat) (h : k + 1 < l.length) : l.drop k = l[k] :: l[k + 1] :: l.drop (k + 2) := by
  rw [List.drop_eq_getElem_cons (by omega : k < l.length), List.drop_eq_getElem_cons (by omega : k + 1 < l.length)]
theorem pu_le (base maxV : Nat) : ∀ (l : List UInt8) (n m : Nat), n ≤ maxV → pu base maxV n l = .val m → m ≤ maxV
  | [], n, m, h, e => by simp [pu] at e; omega
  | c :: l, n, m, h, e => by
    simp only [pu] at e
    split at e
    · cases e
    · split at e
      · cases e
      · exact pu_le base maxV l _ m (by omega) e
theorem puS_le {base maxV : Nat} {l : List UInt8} {m : Nat} (h : puS base maxV l = .val m) : m ≤ maxV := by
  unfold puS at h
  split at h
  · cases h
  · exact pu_le base maxV l 0 m (Nat.zero_le _) h
theorem extract_two (s : ByteArray) (k : Nat) (h : k + 1 < s.data.toList.length) : (s.extract k (k + 2)).data.toList = [s.data.toList[k], s.data.toList[k + 1]] := by
  rw [Lib.extract_data, two_at _ _ h, show k + 2 - k = 2 by omega]
  rfl
theorem same_text (l : List UInt8) (t : ByteArray) (r : List UInt8) (h : t.data.toList = r) : (l == t.toList) = decide (l = r) := by
  rw [ByteArray.toList_eq, h]
  by_cases e : l = r
  · simp [e]
  · simp [e]
end Go.Proofs.YtogmajeaaabjlaaGreatDoor
