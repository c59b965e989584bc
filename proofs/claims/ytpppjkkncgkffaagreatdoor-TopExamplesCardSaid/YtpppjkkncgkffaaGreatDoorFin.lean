/-
  PROVED: the tied card of salvortop.TopExamples: whatever byte comes, the example that it chooses has the verdict that the document says.
  Conditions: those of the given card alone (the package-level variables that it lists hold what the program lays into them).
-/
import Derived.Test.YtpppjkkncgkffaaGreatDoorCards
import Derived.Test.YtpppjkkncgkffaaGreatDoorExl
import Derived.Test.YtpppjkkncgkffaaGreatDoorEv0
import Derived.Test.YtpppjkkncgkffaaGreatDoorEv1
import Derived.Test.YtpppjkkncgkffaaGreatDoorEv2
import Derived.Test.YtpppjkkncgkffaaGreatDoorEv3
import Derived.Test.YtpppjkkncgkffaaGreatDoorEv4
import Derived.Test.YtpppjkkncgkffaaGreatDoorEv5
import Derived.Test.YtpppjkkncgkffaaGreatDoorEv6
import Derived.Test.YtpppjkkncgkffaaGreatDoorEv7
import Derived.Test.YtpppjkkncgkffaaGreatDoorEv8
import Derived.Test.YtpppjkkncgkffaaGreatDoorEv9
import Derived.Test.YtpppjkkncgkffaaGreatDoorEv10
import Derived.ProofKit
import Derived.OpenShut
import Derived.LaidMore
import Derived.Lay
import Derived.SevenTiedAt
import Derived.Stop.Joined
namespace Go.Proofs.YtpppjkkncgkffaaGreatDoor
open Go.ChangeShapes Go.WideShapes Go.ChangeAt Go.RowKit

theorem own : ownKnob Tryz.prog.godebug = none := by kernel_rfl
theorem all_checked (k : Nat) (h : k < 11) : Go.Ax.Checked3 k := by
  match k, h with
  | 0, _ => exact Go.Ax.ck0
  | 1, _ => exact Go.Ax.ck1
  | 2, _ => exact Go.Ax.ck2
  | 3, _ => exact Go.Ax.ck3
  | 4, _ => exact Go.Ax.ck4
  | 5, _ => exact Go.Ax.ck5
  | 6, _ => exact Go.Ax.ck6
  | 7, _ => exact Go.Ax.ck7
  | 8, _ => exact Go.Ax.ck8
  | 9, _ => exact Go.Ax.ck9
  | 10, _ => exact Go.Ax.ck10
  | n + 11, h => omega

theorem no_handles : (Rows.topExamplesRow.laid.all fun x => x.2.handleName?.isNone) = true := by kernel_rfl
/-- the two tables that are read, where the row lists them -/
theorem at2 : Rows.topExamplesRow.laid.drop 2 = (((Rows.topExamplesRow.laid.drop 2).map (·.1)).headD Rows.topExamplesRow.func, Lib.tabData .u64 Go.Ax.pows) :: Rows.topExamplesRow.laid.drop 3 := by kernel_rfl
theorem at5 : Rows.topExamplesRow.laid.drop 5 = (((Rows.topExamplesRow.laid.drop 5).map (·.1)).headD Rows.topExamplesRow.func, Lib.tabData .u8 Go.Ax.blanks) :: Rows.topExamplesRow.laid.drop 6 := by kernel_rfl
/-- what the row's condition and the world's shape give -/
theorem start_at {W : World} (hsh : W.ShapedOpen Tryz.prog) (hL : laidMetH Tryz.prog Rows.topExamplesRow.laid W) : Go.Ax.Start W := by
  rw [MakeChecks.laidMetH_plain _ _ _ no_handles] at hL
  exact Go.Ax.start_of hsh hL 2 5 at2 (by kernel_rfl) at5 (by kernel_rfl)

/-- a byte lies between 0 and 255 -/
theorem byte_nat {x : Int} (h : (Lit.int .u8 x).wf = true) : ∃ n : Nat, x = n ∧ n < 256 := by
  have hx : 0 ≤ x ∧ x ≤ 255 := by simpa [Lit.wf, IntKind.min, IntKind.max, IntKind.signed, IntKind.bits] using h
  exact ⟨x.toNat, by omega, by omega⟩

/-! ### a world that meets the condition -/
noncomputable def laidW (os : Os) : World := World.laidAll Tryz.prog os Rows.topExamplesRow.laid
noncomputable def laidC (os : Os) : World := (laidW os).forCall (fun _ _ => 0) ⟨#[], #[.int .u8 0], []⟩
theorem w_vars (os : Os) : (laidC os).variablesZipB Tryz.prog = true := by kernel_rfl
theorem w_rest (os : Os) : ((laidC os).heap.toList.drop Tryz.prog.globals.size).take ((begin Tryz.prog (fun _ _ => 0) default).world.heap.size - Tryz.prog.globals.size) =
    (begin Tryz.prog (fun _ _ => 0) default).world.heap.toList.drop Tryz.prog.globals.size := by kernel_rfl
theorem w_ok (os : Os) : Input.okWideB Tryz.prog (laidC os) 3 ⟨#[], #[.int .u8 0], []⟩ = true := by kernel_rfl
theorem w_pre (os : Os) (H : Type) (enc : TypeId × Value → H) : Rows.topExamplesSpec.preB enc Tryz.prog Tryz.f3 [] false (laidC os).memory #[.int .u8 0] 8 = true := by kernel_rfl
theorem w_size (os : Os) (H : Type) (enc : TypeId × Value → H) : Rows.topExamplesSpec.sizedB enc Tryz.prog Tryz.f3 false (laidC os).memory #[.int .u8 0] 8 = true := by kernel_rfl
theorem w_fits (os : Os) : (World.holding Tryz.prog os ⟨#[], #[], []⟩).layFits Tryz.prog Rows.topExamplesRow.laid [] = true := by kernel_rfl
theorem w_ifaces (os : Os) : (World.holding Tryz.prog os ⟨#[], #[], []⟩).layIfaces Tryz.prog Rows.topExamplesRow.laid (World.laidAll Tryz.prog os Rows.topExamplesRow.laid) = true := by kernel_rfl
theorem w_met (os : Os) : laidMetH Tryz.prog Rows.topExamplesRow.laid ((World.laidAll Tryz.prog os Rows.topExamplesRow.laid).forCall (fun _ _ => 0) ⟨#[], #[.int .u8 0], []⟩).memory := by
  rw [MakeChecks.laidMetH_plain _ _ _ no_handles]
  exact laidMet_laidAll _ (w_fits os) (w_ifaces os)
theorem no_init : Tryz.prog.inits.idxOf? 3 = none := by kernel_rfl

set_option maxRecDepth 100000 in
theorem lifted (os : Os) (started : os.Started) (H : Type) (enc : TypeId × Value → H) :
    ReturnsInHanded {} Tryz.checked os 3 .any (fun w args => (Rows.topExamplesSpec.pre enc Tryz.prog Tryz.f3 [] false w args ∧ laidMetH Tryz.prog Rows.topExamplesRow.laid w) ∧ sizedMet enc Tryz.prog Tryz.f3 (OpenSpec.ofChange Rows.topExamplesSpec) false w args)
      (Rows.topExamplesSpec.post enc Tryz.prog Tryz.f3 false true false false) := by
  refine Go.Ax.handed_and_shaped (C := Tryz.checked) (X := fun w _ => laidMetH Tryz.prog Rows.topExamplesRow.laid w) (fun _ _ _ hh h => h.of_heap hh) own started no_init Tryz.func3
    (ChangeSpec.witness_shaped (enc := enc) (C := Tryz.checked) (os := os) (X := fun w _ => laidMetH Tryz.prog Rows.topExamplesRow.laid w) false (World.laidAll Tryz.prog os Rows.topExamplesRow.laid) #[.int .u8 0] 8 (World.laidAll_os _ _ _)
      (World.shaped_of_ZipB (w_vars os) (w_rest os)) (w_ok os) (w_pre os H enc) (w_size os H enc) (w_met os)) ?_
  intro W base args ds gs before hval0 hW hsh hL
  have hval : ∀ (j : Nat) t v, Tryz.f3.params[j]? = some t → args[j]? = some v → Value.okWide Tryz.prog W .any base t v := hval0
  have hW' := hW
  obtain ⟨p, q, hA0, hV, rfl, _, _⟩ := hW
  have hA : DataW.TrodAll enc Tryz.prog W 0 (fun _ => true) true Tryz.f3.params.toList args.toList ds p := hA0
  rw [Tryz.params3] at hA hval
  obtain ⟨v0, d0, rfl, rfl, h0⟩ := trodAll_one hA
  obtain ⟨rfl, rfl⟩ := trodVars_none hV
  obtain ⟨x, rfl, rfl, rfl, wx⟩ := open_int Tryz.underlying5 (hval 0 5 v0 rfl rfl) h0
  clear hA0 hval0
  simp only [List.append_nil] at hW'
  have hS := start_at hsh hL
  obtain ⟨n, rfl, hn⟩ := byte_nat wx
  refine (Go.Ax.example_calls all_checked n hn hS).mono fun e W' ⟨he, ht, ho, hp, hz, hb⟩ => ?_
  subst he
  have bel : Below W.heap.size W W' := ⟨ho, ht, hp, hz, hb⟩
  exact ⟨_, rfl, _, _, _, [], [], [], hW', trodAll_mk1 (shut_bool Tryz.underlying4 _), trodAll_mk1 (shut_int Tryz.underlying5 wx), rfl, bel.frame _, fun h => by cases h⟩

set_option maxRecDepth 100000 in
theorem closed3 : joinedFacts Tryz.prog 3 Tryz.f3 Rows.topExamplesSpec Rows.topExamplesRow = true := by
  unfold joinedFacts
  rw [j_k1, j_laidOut, j_mapsRowed, j_inPlace, j_unfollowed, j_recurses, j_named, j_plain, j_heard, j_enter, j_k28]
  kernel_rfl
theorem instance3 : Tryz.f3.isInstance Tryz.prog Rows.topExamplesRow.origin Rows.topExamplesRow.targs := of_decide_eq_true (by kernel_rfl)
theorem wrapper3 : Tryz.f3.isWrapper Tryz.prog Rows.topExamplesRow.wrapper Rows.topExamplesRow.mainSum := by
  unfold Func.isWrapper
  first
  | (rw [if_pos (by decide +kernel)]; kernel_rfl)
  | (rw [if_neg (by decide +kernel)]; exact ⟨rfl, rfl⟩)
theorem topExamples_holds : Rows.TopExamplesSaid :=
  OpenClaim.holds_of_wide 3 Tryz.f3 rfl rfl rfl rfl rfl rfl rfl ⟨rfl, rfl, rfl, rfl, rfl⟩ rfl rfl rfl rfl rfl funcNamed3 Tryz.func3 closed3
    instance3 wrapper3 (fun os started H enc _ => lifted os started H enc)

theorem main3 : Tryz.prog.mainIs = some (Rows.topExamplesCard.stood.harness.1, Rows.topExamplesCard.stood.harness.2.toList) := by kernel_rfl
theorem wf3 : Rows.topExamplesRow.wfByText (OpenSpec.ofChange Rows.topExamplesSpec) = true := by kernel_rfl
theorem looks3 : true = Tryz.prog.looks [] := by kernel_rfl
theorem stand3 : ([5].all fun u => !Tryz.prog.wantsStandIn u) = true := by kernel_rfl
theorem params_ok (f : FuncId) (fn : Func) (hf : Tryz.prog.funcNamed Rows.topExamplesRow.func = some f) (hfn : Tryz.prog.funcs[f]? = some fn) : true = Tryz.prog.looks [] ∧ ∀ (j : Nat) t, fn.params[j]? = some t → Tryz.prog.wantsStandIn t = false := by
  obtain rfl : 3 = f := Option.some.inj (funcNamed3.symm.trans hf)
  obtain rfl : Tryz.f3 = fn := Option.some.inj (Tryz.func3.symm.trans hfn)
  refine ⟨looks3, fun j t ht => ?_⟩
  rw [Tryz.params3] at ht
  have hm : t ∈ [5] := by simpa using Array.mem_of_getElem? ht
  simpa using List.all_eq_true.1 stand3 t hm
theorem card_holds : Rows.TopExamplesCardSaid :=
  Claim7.holds_tied_plain_at .later [] [.data, .data, .data, .data, .listed, .data, .pinned] true Rows.topExamplesCard.stood.harness true
    topExamples_holds (fun _ h => by cases h) wf3 (fun _ h => by cases h) row_tie rfl ⟨rfl, rfl⟩ main3 rfl params_ok goesBy3
#print axioms card_holds
end Go.Proofs.YtpppjkkncgkffaaGreatDoor
