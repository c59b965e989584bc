/-
  A tie of a row to the text of the program, in parts.
-/
import Derived.Test.YtpppjkkncgkffaaGreatDoorExi
import Derived.LaidByTextLater
import Derived.LaidOnce
import Derived.SevenTiedAt
set_option linter.unusedVariables false
set_option linter.unusedSimpArgs false
namespace Go.Ax
open Go.Proofs

/-! ### a row's tie, in parts -/
section
variable {P : Program}
theorem worded_eq (w : String) : P.worded w = P.funcs.toList.any fun fn => fn.body.isNone && fn.name == w := by
  unfold Program.worded
  rw [← Array.any_toList]
theorem varsId_eq {g : FuncId} (hg : P.funcNamed "gosem.cut.vars" = some g) : varsId P = g := by
  unfold varsId
  rw [hg]; rfl

theorem tie_of_parts {laid : List (String × DataW Unit)} {kinds : List LaidKind} {tests : Bool} (n : Nat) (g : FuncId)
    (hw : P.worded (varsWordLater tests) = true) (hw' : P.worded (varsWordLater !tests) = false) (hroot : P.worded rootWordLater = true) (hk : laid.map (fun x => P.kindOfLater x.1) = kinds.map some)
    (hg : P.funcNamed "gosem.cut.vars" = some g) (hn : varsNamedLaterB P g laid = true) (hd : ∀ os tape, varsDone P n g os tape = true) (hm : ∀ os tape, laidMetH P laid (varsWorld P n g os tape).memory) :
    P.laidByTextLater laid kinds tests := by
  unfold varsNamedLaterB at hn
  cases hc : (P.funcs[g]?).bind (·.body) with
  | none => simp [hc] at hn
  | some code =>
   cases hs : code.laysInOrder [] with
   | none => simp [hc, hs] at hn
   | some stored =>
    simp only [hc, hs, Bool.and_eq_true] at hn
    refine ⟨⟨hw, hw', hroot, hk⟩, g, code, stored, hg, hc, ⟨hs, hn.1.1, hn.1.2⟩, hn.2, fun os tape _ => ?_⟩
    have d := hd os tape
    have m := hm os tape
    unfold varsDone at d
    unfold varsWorld at m
    cases hr : runN P n (Machine.entering P (World.unlaid P os) tape g ⟨#[], #[], []⟩) with
    | next mm => rw [hr] at d; cases d
    | ended e w =>
      rw [hr] at d m
      cases e with
      | done v => exact ⟨n, v, w, hr, m⟩
      | _ => cases d

theorem met_of_reads {laid : List (String × DataW Unit)} {w : World} {fuel M : Nat} (h0 : (laid.all fun x => x.2.handleName?.isNone) = true) (h1 : (DataW.laidRun P w fuel (laid.map (·.1))).map (·.1) = some laid)
    (h2 : (DataW.laidRun P w fuel (laid.map (·.1))).map (fun x => nodupBits M x.2 0 && laidRowsB P w x.2) = some true) : laidMetH P laid w := by
  rw [MakeChecks.laidMetH_plain _ _ _ h0]
  cases hx : DataW.laidRun P w fuel (laid.map (·.1)) with
  | none => rw [hx] at h1; cases h1
  | some x =>
    obtain ⟨l, ps⟩ := x
    rw [hx] at h1 h2
    simp only [Option.map_some, Option.some.injEq, Bool.and_eq_true] at h1 h2
    subst h1
    exact laidMet_of_run fuel hx (decide_eq_true (nodupBits_sound h2.1).1) h2.2
end
end Go.Ax
