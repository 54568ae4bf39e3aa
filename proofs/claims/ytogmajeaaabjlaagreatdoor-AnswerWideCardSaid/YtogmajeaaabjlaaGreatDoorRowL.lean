/- 'moidorelaw28.AnswerWide': the row: whatever the input, the law returns true. -/
import Derived.Test.YtogmajeaaabjlaaGreatDoorLawW
import Derived.Test.YtogmajeaaabjlaaGreatDoorFacts
import Derived.WalkKit
import Derived.ProofKit
import Derived.Lay
import Derived.LaidOnce
import Derived.LaidLaws
import Derived.HandedShaped
import Derived.Shelf.Vars
import Derived.Lib.SmallJoins
import Derived.Lib.LaidTab
import Derived.Lib.LaidU8
import Derived.SevenTiedAt
import Derived.MakeChecks
namespace Go.Proofs.YtogmajeaaabjlaaGreatDoor
open Go Go.RowKit Go.Lib Go.ChangeShapes Go.WideShapes Go.ChangeAt

/-- the wrap with both: what the listed variables read as, and the world's shape. -/
theorem handed_and_shaped {H : Type} {enc : TypeId × Value → H} {a : Assume} {C : Checked} {os : Os} {f : FuncId} {fn : Func} {s : ChangeSpec} {conds : List PathCond} {apart fresh handsOn again : Bool} {X : World → Array Value → Prop}
    (hX : ∀ (w w' : World) (args : Array Value), w.heap = w'.heap → X w args → X w' args)
    (own : ownKnob C.prog.godebug = none) (started : os.Started) (noInit : C.prog.inits.idxOf? f = none) (hfn : C.prog.funcs[f]? = some fn)
    (witness : ∃ (w : World) (tape : Tape) (i : Input), w.os = os ∧ (w.forCall tape i).Shaped C.prog ∧ i.vars = [] ∧ Input.okWide C.prog (w.forCall tape i) .any w.heap.size f i ∧
      ((s.pre enc C.prog fn conds apart (w.forCall tape i).memory i.args ∧ X (w.forCall tape i).memory i.args) ∧ sizedMet enc C.prog fn (OpenSpec.ofChange s) apart (w.forCall tape i).memory i.args) ∧ a.holds C.prog (lone (Frame.enter C.prog f i.args .normal) [] (w.forCall tape i)))
    (contract : ∀ (W : World) (base : Nat) (args : Array Value) (ds gs : List (DataW H)) (before : List MemPlace),
      (∀ (j : Nat) t v, fn.params[j]? = some t → args[j]? = some v → Value.okWide C.prog W .any base t v) →
      DataW.Whole enc C.prog fn.params.toList s.vars apart W args.toList ds gs before → X W args → W.ShapedOpen C.prog →
      Calls C.prog f args W fun e W' => ∃ v, e = .returned v ∧ s.post enc C.prog fn apart fresh handsOn again W args v W') :
    ReturnsInHanded a C os f .any (fun w args => (s.pre enc C.prog fn conds apart w args ∧ X w args) ∧ sizedMet enc C.prog fn (OpenSpec.ofChange s) apart w args) (s.post enc C.prog fn apart fresh handsOn again) := by
  refine returnsInHanded_of_calls own started noInit witness ?_
  intro w tape i _ hsh _ hok hpre _
  obtain ⟨_, _, _, fn', hfn', _, _, _, _, hval⟩ := hok
  have e : fn' = fn := Option.some.inj (hfn'.symm.trans hfn)
  subst e
  obtain ⟨⟨⟨ds, gs, before, hw, _⟩, hx⟩, _⟩ := hpre
  have hw' := DataW.Whole.of_heap (w' := w.forCall tape i) (by rfl) hw
  refine (contract (w.forCall tape i) w.heap.size i.args ds gs before hval hw' (hX _ _ _ (by rfl) hx) hsh).mono fun e W' ⟨v, he, hp⟩ => ?_
  subst he
  exact ChangeSpec.post_blind hp

theorem iface_cell {W : World} {n : String} {g : Nat} {ti : TypeId} {ms : Array (String × TypeId)} {name : String} {d : DataW Unit} (hg : Tryz.prog.globalNamed n = some g) (hty : (Tryz.prog.globals[g]?).map (·.type) = some ti) (hi : Tryz.prog.underlying ti = some (.interface ms))
    (h : VarReads Tryz.prog W n (.iface name d)) : ∃ v, W.cell? ⟨g, 0, none⟩ = some v ∧ (v = .nilIface ∨ ∃ t p, v = .iface t p) := by
  obtain ⟨g', t', cs, fuel, p, hg', ht', hvar, hd⟩ := h
  obtain rfl := Option.some.inj (hg.symm.trans hg')
  obtain rfl := Option.some.inj (hty.symm.trans ht')
  obtain ⟨_, u, v, hcs, _, _⟩ := iface_of_trod hi hd
  refine ⟨.iface u v, ?_, Or.inr ⟨u, v, rfl⟩⟩
  rw [World.var?_cell hg hvar 0]
  have : cs = #[.iface u v] := by rw [← Array.toList_inj]; exact hcs
  rw [this]; rfl

theorem tab_of {W : World} (h : VarReads Tryz.prog W "internal/strconv.uint64pow10" (Lib.tabData .u64 Lib.pow10Tab)) {g t e n} (hg : Tryz.prog.globalNamed "internal/strconv.uint64pow10" = some g) (hty : (Tryz.prog.globals[g]?).map (·.type) = some t) (ht : Tryz.prog.underlying t = some (.array n e)) (he : Tryz.prog.underlying e = some (.int .u64)) (hce : Tryz.prog.cellsOf e = 1) (hct : Tryz.prog.cellsOf t = n) :
    Lib.TabIs Tryz.prog W "internal/strconv.uint64pow10" .u64 Lib.pow10Tab := by
  obtain ⟨g', t', cs, fuel, p, hg', ht', hvar, hd⟩ := h
  obtain rfl := Option.some.inj (hg.symm.trans hg')
  obtain rfl := Option.some.inj (hty.symm.trans ht')
  unfold Lib.TabIs
  rw [hvar, ← cells_of_tab ht he hce hct hd]

theorem open_cell_int {H : Type} {enc : TypeId × Value → H} {P : Program} {W : World} {base : Nat} {sp : Nat → Bool} {held : Bool} {n : Nat} {t : TypeId} {k : IntKind} {v : Value} {y : DataW H × List MemPlace} (ht : P.underlying t = some (.int k))
    (h : DataW.trod enc P W base sp held n t [v] = some y) : ∃ z, v = .int k z ∧ y = (.lit (.int k z), []) ∧ (Lit.int k z).wf = true := by
  obtain ⟨z, hc, hx, hw⟩ := DataW.trod_int ht h
  exact ⟨z, by simpa using hc, hx, hw⟩

theorem pow_eq : (Rows.laid_internal_strconv_uint64pow10 : DataW Unit) = Lib.tabData .u64 Lib.pow10Tab := by kernel_rfl

theorem h10 : (((begin Tryz.prog (fun _ _ => 0) default).world.heap[10]?).bind Obj.row?).isSome = true := by kernel_rfl
theorem hmax : (((begin Tryz.prog (fun _ _ => 0) default).world.heap[5]?).bind Obj.row?) = some (#[.int .i64 0], 3) := by kernel_rfl
theorem rg10 : decide (10 < Tryz.prog.globals.size) = true := by kernel_rfl
theorem rgm : decide (5 < Tryz.prog.globals.size) = true := by kernel_rfl
theorem bint : Tryz.prog.buildable 3 = true := by kernel_rfl
theorem cint : Tryz.prog.cellTypes Tryz.prog.depth 3 = some [3] := by kernel_rfl
theorem gsyn : Tryz.prog.globalNamed "strconv.ErrSyntax" = some 3 := by kernel_rfl
theorem grng : Tryz.prog.globalNamed "strconv.ErrRange" = some 4 := by kernel_rfl
theorem gpow : Tryz.prog.globalNamed "internal/strconv.uint64pow10" = some 2 := by kernel_rfl
theorem tsyn : (Tryz.prog.globals[3]?).map (·.type) = some 89 := by kernel_rfl
theorem trng : (Tryz.prog.globals[4]?).map (·.type) = some 89 := by kernel_rfl
theorem tpow : (Tryz.prog.globals[2]?).map (·.type) = some 283 := by kernel_rfl
theorem cpow : Tryz.prog.cellsOf 283 = 20 := by kernel_rfl
theorem cu64 : Tryz.prog.cellsOf 22 = 1 := by kernel_rfl
theorem cwide : Tryz.prog.cellsOf 24 = 2 := by kernel_rfl

theorem heap_size_of {W : World} (h : W.ShapedOpen Tryz.prog) : 11 ≤ W.heap.size := by
  obtain ⟨⟨zero, t⟩, h0⟩ := Option.isSome_iff_exists.1 h10
  obtain ⟨cs, hh, _, _⟩ := h.1 10 zero t (of_decide_eq_true rg10) h0
  rcases Nat.lt_or_ge 10 W.heap.size with h' | h'
  · omega
  · rw [Array.getElem?_eq_none h'] at hh; cases hh

theorem of_laid {W : World} (h : laidMet Tryz.prog Rows.answerWideRow.laid W) (hs : W.ShapedOpen Tryz.prog) : Laid W where
  tab := tab_of (pow_eq ▸ laidMet.reads h (n := "internal/strconv.uint64pow10") (d := Rows.laid_internal_strconv_uint64pow10) (by simp [Rows.answerWideRow])) gpow tpow Tryz.underlying283 Tryz.underlying22 cu64 cpow
  max := cell_of_shapedOpen_int (P := Tryz.prog) (g := 5) (t := 3) (zero := #[.int .i64 0]) hs (of_decide_eq_true rgm) hmax rfl bint cint Tryz.underlying3
  syn := iface_cell gsyn tsyn Tryz.underlying89 (laidMet.reads h (n := "strconv.ErrSyntax") (d := Rows.laid_strconv_ErrSyntax) (by simp [Rows.answerWideRow]))
  rng := iface_cell grng trng Tryz.underlying89 (laidMet.reads h (n := "strconv.ErrRange") (d := Rows.laid_strconv_ErrRange) (by simp [Rows.answerWideRow]))
  size := heap_size_of hs

abbrev LD := Rows.answerWideRow.laid
theorem plainH : (LD.all fun x => x.2.handleName?.isNone) = true := by kernel_rfl

end Go.Proofs.YtogmajeaaabjlaaGreatDoor
