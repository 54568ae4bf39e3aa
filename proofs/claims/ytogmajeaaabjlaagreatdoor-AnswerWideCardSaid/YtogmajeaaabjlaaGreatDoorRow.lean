/- 'moidorelaw28.AnswerWide': the row: whatever the input, the law returns true. -/
import Derived.Test.YtogmajeaaabjlaaGreatDoorRowV
namespace Go.Proofs.YtogmajeaaabjlaaGreatDoor
open Go Go.RowKit Go.Lib Go.ChangeShapes Go.WideShapes Go.ChangeAt

set_option maxRecDepth 100000 in
theorem lifted (os : Os) (started : os.Started) (H : Type) (enc : TypeId × Value → H) :
    ReturnsInHanded {} Tryz.checked os 3 .any (fun w args => (Rows.answerWideSpec.pre enc Tryz.prog Tryz.f3 [] false w args ∧ laidMetH Tryz.prog LD w) ∧ sizedMet enc Tryz.prog Tryz.f3 (OpenSpec.ofChange Rows.answerWideSpec) false w args)
      (Rows.answerWideSpec.post enc Tryz.prog Tryz.f3 false true false false) := by
  refine handed_and_shaped (C := Tryz.checked) (X := fun w _ => laidMetH Tryz.prog LD w) (fun _ _ _ hh h => h.of_heap hh) own_knob started no_init Tryz.func3
    (ChangeSpec.witness_shaped (enc := enc) (C := Tryz.checked) (os := os) (X := fun w _ => laidMetH Tryz.prog LD w) false (World.laidAll Tryz.prog os LD) wArgs 8 (World.laidAll_os _ _ _)
      (wit_shaped os) (wit_ok os) (wit_pre os enc) (wit_size os enc)
      (by rw [MakeChecks.laidMetH_plain _ _ _ plainH]; exact wit_laid os)) ?_
  intro W base args ds gs before hval0 hW hL hsh
  have hval : ∀ (j : Nat) t v, Tryz.f3.params[j]? = some t → args[j]? = some v → Value.okWide Tryz.prog W .any base t v := hval0
  have hW' := hW
  obtain ⟨p, q, hA0, hV, rfl, _, _⟩ := hW
  have hA : DataW.TrodAll enc Tryz.prog W 0 (fun _ => true) true Tryz.f3.params.toList args.toList ds p := hA0
  rw [Tryz.params3] at hA hval
  obtain ⟨v0, v1, d0, d1, p0, p1, rfl, rfl, rfl, t0, t1⟩ := trodAll_two hA
  obtain ⟨rfl, rfl⟩ := trodVars_none hV
  obtain ⟨x0, x1, y0, y1, n, rfl, rfl, rfl, u0, u1⟩ := Go.Joins.open_agg2 Tryz.underlying24 (by kernel_rfl) cwide (hval 0 24 v0 rfl rfl) t0
  obtain ⟨hi, rfl, rfl, whi⟩ := open_cell_int Tryz.underlying2 u0
  obtain ⟨lo, rfl, rfl, wlo⟩ := open_cell_int Tryz.underlying22 u1
  obtain ⟨k, rfl, rfl, rfl, wk⟩ := open_int Tryz.underlying2 (hval 1 2 v1 rfl rfl) t1
  simp only [List.append_nil] at hW'
  have hhi : -9223372036854775808 ≤ hi ∧ hi ≤ 9223372036854775807 := by simpa [Lit.wf, IntKind.min, IntKind.max, IntKind.signed, IntKind.bits] using whi
  have hlo : 0 ≤ lo ∧ lo ≤ 18446744073709551615 := by simpa [Lit.wf, IntKind.min, IntKind.max, IntKind.signed, IntKind.bits] using wlo
  have hk : -9223372036854775808 ≤ k ∧ k ≤ 9223372036854775807 := by simpa [Lit.wf, IntKind.min, IntKind.max, IntKind.signed, IntKind.bits] using wk
  rw [MakeChecks.laidMetH_plain _ _ _ plainH] at hL
  refine (wide_law hi lo k hhi.1 (by omega) hlo.1 (by omega) hk.1 hk.2 W (of_laid hL hsh)).mono fun e W' ⟨he, hb⟩ => ?_
  subst he
  exact ⟨_, rfl, _, _, _, [], [], [], hW', trodAll_mk1 (shut_bool Tryz.underlying4 _),
    trodAll_mk2 (Go.Joins.shut_agg2 Tryz.underlying24 (by kernel_rfl) cwide (shut_int Tryz.underlying2 whi) (shut_int Tryz.underlying22 wlo)) (shut_int Tryz.underlying2 wk), rfl, hb.frame _, fun h => by cases h⟩
end Go.Proofs.YtogmajeaaabjlaaGreatDoor
