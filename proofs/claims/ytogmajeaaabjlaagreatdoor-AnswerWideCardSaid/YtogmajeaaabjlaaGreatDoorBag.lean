/- A region that draws its order, in which a bag of operations may come up in whatever order: an invariant for them. No program in sight. -/
import Derived.OrdersHeld
import Derived.Deep.RegionHeld
namespace Go.Proofs.YtogmajeaaabjlaaGreatDoor
open Go

theorem filter_less : ∀ (J : List Nat), J.Nodup → ∀ (p : Nat → Bool) (i : Nat), i ∈ J → p i = true → (J.filter fun j => p j && (j != i)).length + 1 = (J.filter p).length
  | [], _, _, _, hi, _ => by cases hi
  | x :: xs, hn, p, i, hi, hp => by
    obtain ⟨hx, hxs⟩ := List.nodup_cons.1 hn
    by_cases h : x = i
    · subst h
      have e : (xs.filter fun j => p j && (j != x)) = xs.filter p := by
        apply List.filter_congr
        intro j hj
        have : j ≠ x := fun e => hx (e ▸ hj)
        simp [this]
      rw [List.filter_cons, List.filter_cons, e, if_neg (by simp), if_pos hp]
      rfl
    · have hi' : i ∈ xs := by
        rcases List.mem_cons.1 hi with e | e
        · exact absurd e.symm h
        · exact e
      have ih := filter_less xs hxs p i hi' hp
      have hxi : (x != i) = true := by simpa using h
      rw [List.filter_cons, List.filter_cons, hxi, Bool.and_true]
      split
      · simp only [List.length_cons]; omega
      · exact ih

section
variable {P : Program} {md : Region.Mode} {ops : Array Oper} {Q : Exit → Act → World → Prop} {S : World → Prop}

theorem getD_set_same (a : Array Bool) (i : Nat) : (a.setIfInBounds i true).getD i true = true := by
  by_cases h : i < a.size
  · simp [Array.getD, h]
  · simp [Array.getD, h]
theorem getD_set_other (a : Array Bool) (i j : Nat) (h : j ≠ i) : (a.setIfInBounds i true).getD j true = a.getD j true := by
  simp [Array.getD_eq_getD_getElem?, Ne.symm h]

/-- The operations J may come up in whatever order; behind all of them the rest goes on. -/
theorem bag_any (J : List Nat) (hnd : J.Nodup) (B : Nat → Bool) (N m : Nat) (Inv : Array Bool → World → Prop) (a : Act)
    (hJ : ∀ listed : Array Bool, listed.size = N → (∀ i, i ∉ J → listed.getD i true = B i) → (∃ j ∈ J, listed.getD j true = false) → ∀ i ∈ Region.ready md ops listed, i ∈ J)
    (hne : ∀ listed : Array Bool, listed.size = N → (∀ i, i ∉ J → listed.getD i true = B i) → ∀ j ∈ J, listed.getD j true = false → j ∈ Region.ready md ops listed)
    (step : ∀ (listed : Array Bool) (w : World) (i : Nat), i ∈ J → listed.getD i true = false → Inv listed w → wpOp P ops Q i (fun a' w' => a' = a ∧ S w' ∧ Inv (listed.setIfInBounds i true) w') a w)
    (fin : ∀ (listed : Array Bool) (w : World), listed.size = N → (∀ i, i ∉ J → listed.getD i true = B i) → (∀ j ∈ J, listed.getD j true = true) → Inv listed w → wpAnyH P md ops Q S m listed a w) :
    ∀ (n : Nat) (listed : Array Bool) (w : World), listed.size = N → (∀ i, i ∉ J → listed.getD i true = B i) → (J.filter fun j => !listed.getD j true).length = n → Inv listed w → wpAnyH P md ops Q S (m + n) listed a w
  | 0, listed, w, hs, hb, hc, hi => by
    refine fin listed w hs hb (fun j hj => ?_) hi
    have h := List.eq_nil_of_length_eq_zero hc
    have h2 := (List.filter_eq_nil_iff.1 h) j hj
    simpa using h2
  | n + 1, listed, w, hs, hb, hc, hi => by
    obtain ⟨j, hj⟩ : ∃ j, j ∈ J.filter fun j => !listed.getD j true := by
      cases h : J.filter fun j => !listed.getD j true with
      | nil => rw [h] at hc; cases hc
      | cons x xs => exact ⟨x, by simp⟩
    obtain ⟨hjJ, hjf⟩ := List.mem_filter.1 hj
    have hjf' : listed.getD j true = false := by simpa using hjf
    refine ⟨fun h => ?_, fun i hir => ?_⟩
    · have := hne listed hs hb j hjJ hjf'
      rw [h] at this; cases this
    · have hiJ := hJ listed hs hb ⟨j, hjJ, hjf'⟩ i hir
      have hif := (mem_ready.1 hir).1
      refine wpOp_mono (fun a' w' h3 => ?_) (step listed w i hiJ hif hi)
      obtain ⟨rfl, hS, hI⟩ := h3
      refine ⟨hS, bag_any J hnd B N m Inv _ hJ hne step fin n _ w' (by simpa using hs) (fun k hk => ?_) ?_ hI⟩
      · rw [getD_set_other _ _ _ (fun e => hk (by rw [e]; exact hiJ))]; exact hb k hk
      · have h4 := filter_less J hnd (fun j => !listed.getD j true) i hiJ (by simpa using hif)
        have e : (J.filter fun k => !(listed.setIfInBounds i true).getD k true) = J.filter fun k => (!listed.getD k true) && (k != i) := by
          apply List.filter_congr
          intro k _
          by_cases hk : k = i
          · subst hk; rw [getD_set_same]; simp
          · rw [getD_set_other _ _ _ hk]; simp [hk]
        rw [e]; omega
theorem getD_both {listed : Array Bool} {k : Nat} (h : listed.getD k true = false) : listed.getD k false = false := by
  rcases Nat.lt_or_ge k listed.size with h' | h'
  · simp [Array.getD, h'] at h ⊢; exact h
  · simp [Array.getD, Nat.not_lt.2 h'] at h
theorem ready_needs {listed : Array Bool} {i k : Nat} (hir : i ∈ Region.ready md ops listed) (he : ((ops[i]?).map fun o => o.after.any fun e => e.on == k && Region.binds md e) = some true) (hk : listed.getD k true = false) : False := by
  obtain ⟨_, o, ho, hall⟩ := mem_ready.1 hir
  rw [ho] at he
  have he2 : (o.after.any fun e => e.on == k && Region.binds md e) = true := by simpa using he
  rw [← Array.any_toList, List.any_eq_true] at he2
  obtain ⟨e, hem, hee⟩ := he2
  have hem : e ∈ o.after := by simpa using hem
  simp only [Bool.and_eq_true, beq_iff_eq] at hee
  have h := hall e hem hee.2
  rw [hee.1, getD_both hk] at h
  cases h
theorem ready_is {listed : Array Bool} {j : Nat} (hjf : listed.getD j true = false) (ks : List Nat) (he : ((ops[j]?).map fun o => o.after.all fun e => ks.contains e.on) = some true) (hks : ∀ k ∈ ks, listed.getD k false = true) : j ∈ Region.ready md ops listed := by
  cases ho : ops[j]? with
  | none => rw [ho] at he; cases he
  | some o =>
    rw [ho] at he
    simp only [Option.map_some, Option.some.injEq, Array.all_eq_true_iff_forall_mem] at he
    exact mem_ready.2 ⟨hjf, o, ho, fun e hem _ => hks _ (by simpa using he e hem)⟩
theorem wpOp_of {i : Nat} {o : Oper} {K : Act → World → Prop} {a : Act} {w : World} (ho : ops[i]? = some o) (hw : Region.wanted o (yielded ops a.tmps) = true) (h : o.wp P a w K Q) : wpOp P ops Q i K a w := by
  unfold wpOp; rw [ho]; simp only; rw [if_pos hw]; exact Or.inl h
end

theorem text_beq (x s : ByteArray) : (x == s) = decide (x = s) := by
  cases x with | mk x => cases s with | mk s =>
  show (x == s) = _
  by_cases h : x = s
  · subst h; simp
  · rw [beq_eq_false_iff_ne.2 h, decide_eq_false]
    intro e; injection e with e; exact h e
/-- A look-up in the entries of a map of strings. -/
def FN (es : Array MapEntry) (k : ByteArray) : Option (Option (Nat × Value)) := Instr.findNow .string (.string k) es.toList 0
theorem findNow_snoc (d : TypeDesc) (k : Value) (e : MapEntry) : ∀ (l : List MapEntry) (i : Nat), Instr.findNow d k (l ++ [e]) i =
    match Instr.findNow d k l i with
    | some none => (match Instr.sameNow d k e.key with | some true => some (some (i + l.length, e.val)) | some false => some none | none => none)
    | r => r
  | [], i => by
    simp only [List.nil_append, Instr.findNow, List.length_nil, Nat.add_zero]
    cases Instr.sameNow d k e.key with
    | none => rfl
    | some b => cases b <;> rfl
  | x :: xs, i => by
    simp only [List.cons_append, Instr.findNow]
    cases Instr.sameNow d k x.key with
    | none => rfl
    | some b =>
      cases b with
      | true => rfl
      | false =>
        simp only [findNow_snoc d k e xs (i + 1), List.length_cons]
        rw [show i + 1 + xs.length = i + (xs.length + 1) by omega]
theorem FN_other {es : Array MapEntry} {k k' : ByteArray} {v : Value} {c : Nat} (h : FN es k = some none) (hk : k ≠ k') : FN (es.push ⟨.string k', v, c⟩) k = some none := by
  unfold FN at *
  have hb : (k == k') = false := by rw [text_beq]; exact decide_eq_false hk
  rw [Array.toList_push, findNow_snoc, h]
  simp only [Instr.sameNow, hb]
theorem FN_new {es : Array MapEntry} {k : ByteArray} {v : Value} {c : Nat} (h : FN es k = some none) : FN (es.push ⟨.string k, v, c⟩) k = some (some (es.size, v)) := by
  unfold FN at *
  have hb : (k == k) = true := by rw [text_beq]; exact decide_eq_true rfl
  rw [Array.toList_push, findNow_snoc, h]
  simp only [Instr.sameNow, hb]
  simp
theorem FN_kept {es : Array MapEntry} {k k' : ByteArray} {v : Value} {c : Nat} {r : Nat × Value} (h : FN es k = some (some r)) : FN (es.push ⟨.string k', v, c⟩) k = some (some r) := by
  unfold FN at *
  rw [Array.toList_push, findNow_snoc, h]

theorem arr_ext (a b : Array Bool) (hs : a.size = b.size) (h : ∀ i, a.getD i true = b.getD i true) : a = b := by
  apply Array.ext hs
  intro i h1 h2
  have := h i
  simp [Array.getD, h1, h2] at this
  exact this
end Go.Proofs.YtogmajeaaabjlaaGreatDoor
