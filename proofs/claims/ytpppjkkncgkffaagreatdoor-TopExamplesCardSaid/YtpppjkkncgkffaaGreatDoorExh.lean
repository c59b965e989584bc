/-
  What is known where the function is called.
-/
import Derived.Test.YtpppjkkncgkffaaGreatDoorExg
import Derived.Handed
import Derived.SizedLaws
import Derived.Lib.LaidTab
import Derived.Shelf.Vars
set_option linter.unusedVariables false
set_option linter.unusedSimpArgs false
namespace Go.Ax
open Go.Proofs
section
variable {H : Type} {enc : TypeId × Value → H}
/-- the plain wrap, with a condition of the row's own, and with the world's shape kept -/
theorem handed_and_shaped {a : Assume} {C : Checked} {os : Os} {f : FuncId} {fn : Func} {s : ChangeSpec} {conds : List PathCond} {apart fresh handsOn again : Bool} {X : World → Array Value → Prop}
    (hX : ∀ (w w' : World) (args : Array Value), w.heap = w'.heap → X w args → X w' args)
    (own : ownKnob C.prog.godebug = none) (started : os.Started) (noInit : C.prog.inits.idxOf? f = none) (hfn : C.prog.funcs[f]? = some fn)
    (witness : ∃ (w : World) (tape : Tape) (i : Input), w.os = os ∧ (w.forCall tape i).Shaped C.prog ∧ i.vars = [] ∧ Input.okWide C.prog (w.forCall tape i) .any w.heap.size f i ∧
      ((s.pre enc C.prog fn conds apart (w.forCall tape i).memory i.args ∧ X (w.forCall tape i).memory i.args) ∧ sizedMet enc C.prog fn (OpenSpec.ofChange s) apart (w.forCall tape i).memory i.args) ∧ a.holds C.prog (lone (Frame.enter C.prog f i.args .normal) [] (w.forCall tape i)))
    (contract : ∀ (W : World) (base : Nat) (args : Array Value) (ds gs : List (DataW H)) (before : List MemPlace),
      (∀ (j : Nat) t v, fn.params[j]? = some t → args[j]? = some v → Value.okWide C.prog W .any base t v) →
      DataW.Whole enc C.prog fn.params.toList s.vars apart W args.toList ds gs before →
      W.ShapedOpen C.prog → X W args →
      Calls C.prog f args W fun e W' => ∃ v, e = .returned v ∧ s.post enc C.prog fn apart fresh handsOn again W args v W') :
    ReturnsInHanded a C os f .any (fun w args => (s.pre enc C.prog fn conds apart w args ∧ X w args) ∧ sizedMet enc C.prog fn (OpenSpec.ofChange s) apart w args) (s.post enc C.prog fn apart fresh handsOn again) := by
  refine returnsInHanded_of_calls own started noInit witness ?_
  intro w tape i _ hsh _ hok hpre _
  obtain ⟨_, _, _, fn', hfn', _, _, _, _, hval⟩ := hok
  have e : fn' = fn := Option.some.inj (hfn'.symm.trans hfn)
  subst e
  obtain ⟨⟨⟨ds, gs, before, hw, _⟩, hx⟩, _⟩ := hpre
  have hw' := DataW.Whole.of_heap (w' := w.forCall tape i) (by rfl) hw
  refine (contract (w.forCall tape i) w.heap.size i.args ds gs before hval hw' hsh (hX _ _ _ (by rfl) hx)).mono fun e W' ⟨v, he, hp⟩ => ?_
  subst he
  exact ChangeSpec.post_blind hp
end

/-- what a table's variable holds, as the row's condition says it -/
theorem cells_at {W : World} {name : String} {k : IntKind} {zs : List Int} {g n : Nat} {t e : TypeId} {rest : List (String × DataW Unit)} {ps : List MemPlace}
    (h : DataW.LaidVars Tryz.prog W ((name, Lib.tabData k zs) :: rest) ps)
    (hg : Tryz.prog.globalNamed name = some g) (hty : (Tryz.prog.globals[g]?).map (·.type) = some t) (ht : Tryz.prog.underlying t = some (.array n e)) (he : Tryz.prog.underlying e = some (.int k)) (hce : Tryz.prog.cellsOf e = 1) (hct : Tryz.prog.cellsOf t = n) :
    ∃ el fr, W.heap[g]? = some (.cells (zs.map fun z => Value.int k z).toArray el fr) := by
  obtain ⟨g', t', cs, fuel, p, q, hg', ht', hvar, hd, _, _⟩ := h
  obtain rfl := Option.some.inj (hg.symm.trans hg')
  obtain rfl := Option.some.inj (hty.symm.trans ht')
  have hcs : cs = (zs.map fun z => Value.int k z).toArray := Array.toList_inj.1 (Lib.cells_of_tab ht he hce hct hd)
  rw [hcs] at hvar
  simp only [World.var?, hg, Option.bind_some] at hvar
  split at hvar
  · rename_i cs' t'' fr' hh
    obtain rfl := Option.some.inj hvar
    exact ⟨_, _, hh⟩
  · cases hvar

/-- bytealg's MaxLen holds some int -/
theorem max_at {W : World} (h : W.ShapedOpen Tryz.prog) : ∃ c el fr m, W.heap[5]? = some (.cells c el fr) ∧ 0 < c.size ∧ c.getD 0 Go.undef = .int .i64 m := by
  obtain ⟨m, hm⟩ := cell_of_shapedOpen_int (g := 5) (t := 3) (zero := #[.int .i64 0]) (k := .i64) h (by rw [globals_size]; decide) (by kernel_rfl) rfl (by kernel_rfl) (by kernel_rfl) Tryz.underlying3
  unfold World.cell? at hm
  split at hm
  · rename_i c el fr hc
    simp only [Option.isSome_none, Bool.false_eq_true, if_false] at hm
    have h0 : 0 < c.size := (Array.getElem?_eq_some_iff.1 hm).1
    exact ⟨c, el, fr, m, hc, h0, by rw [Array.getD_eq_getD_getElem?, hm]; rfl⟩
  · cases hm

theorem laid_drop {P : Program} {W : World} : ∀ (n : Nat) (l : List (String × DataW Unit)) (ps : List MemPlace), DataW.LaidVars P W l ps → ∃ q, DataW.LaidVars P W (l.drop n) q
  | 0, l, ps, h => ⟨ps, h⟩
  | n + 1, [], ps, h => ⟨ps, h⟩
  | n + 1, x :: l, ps, h => by
    obtain ⟨_, _, _, _, _, q, _, _, _, _, h2, _⟩ := h
    exact laid_drop n l q h2

def pows : List Int := (List.range 20).map fun i => ((10 ^ i : Nat) : Int)
def blanks : List Int := (List.range 256).map fun i => ((blank i : Nat) : Int)

/-- what is known at the start, out of the row's condition and the world's shape -/
theorem start_of {W : World} {laid : List (String × DataW Unit)} (hsh : W.ShapedOpen Tryz.prog) (hL : laidMet Tryz.prog laid W) (i j : Nat) {ni nj : String} {ri rj : List (String × DataW Unit)}
    (hi : laid.drop i = (ni, Lib.tabData .u64 pows) :: ri) (gi : Tryz.prog.globalNamed ni = some 0) (hj : laid.drop j = (nj, Lib.tabData .u8 blanks) :: rj) (gj : Tryz.prog.globalNamed nj = some 1) : Start W := by
  obtain ⟨ps, hl, _, _⟩ := hL
  obtain ⟨qi, h1⟩ := laid_drop i _ _ hl
  obtain ⟨qj, h2⟩ := laid_drop j _ _ hl
  rw [hi] at h1
  rw [hj] at h2
  have e1 := cells_at h1 gi (t := 422) (n := 20) (e := 314) (by kernel_rfl) Tryz.underlying422 Tryz.underlying314 (by kernel_rfl) (by kernel_rfl)
  have e2 := cells_at h2 gj (t := 564) (n := 256) (e := 5) (by kernel_rfl) Tryz.underlying564 Tryz.underlying5 (by kernel_rfl) (by kernel_rfl)
  refine ⟨?_, ?_, max_at hsh⟩
  · rw [pows, List.map_map] at e1; exact e1
  · rw [blanks, List.map_map] at e2; exact e2
end Go.Ax
