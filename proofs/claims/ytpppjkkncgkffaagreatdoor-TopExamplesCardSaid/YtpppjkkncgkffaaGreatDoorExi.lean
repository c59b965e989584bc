/-
  The closed facts of a row, by tables that are quickly looked up.
-/
import Derived.Test.YtpppjkkncgkffaaGreatDoorExh
import Derived.JoinedOf
import GoSem.ClaimGoes
set_option linter.unusedVariables false
set_option linter.unusedSimpArgs false
namespace Go.Ax
open Go.Proofs

/-! ### the closed facts of a row, by tables that are quickly looked up -/
section types
variable {P : Program} {n : Nat}

noncomputable def infoG (P : Program) (n : Nat) (t : TypeId) : Option TypeInfo := bif Nat.blt t n then infoF P t else P.info? t
theorem info_eq (hn : P.types.size = n) (t : TypeId) : P.info? t = infoG P n t := by
  unfold infoG
  cases hb : Nat.blt t n with
  | false => rfl
  | true =>
    have ht : t < P.types.size := by rw [hn]; exact Nat.le_of_ble_eq_true hb
    rw [cond_true]
    unfold infoF
    rw [nthL_chunk, Array.getElem?_toList]
    simp only [Tables.info?, if_pos ht]
noncomputable def underG (P : Program) (n : Nat) (t : TypeId) : Option TypeDesc := match infoG P n t with
  | some { desc := .named _ u, .. } => (infoG P n u).map (·.desc)
  | some i => some i.desc
  | none => none
theorem under_eq (hn : P.types.size = n) (t : TypeId) : P.underlying t = underG P n t := by
  unfold Program.underlying underG
  simp only [info_eq hn]
  rfl
noncomputable def cellsG (P : Program) (n : Nat) (t : TypeId) : Nat := ((infoG P n t).map (·.size)).getD 0
theorem cells_eq (hn : P.types.size = n) (t : TypeId) : P.cellsOf t = cellsG P n t := by
  unfold Program.cellsOf cellsG
  rw [info_eq hn]
noncomputable def isVarG (P : Program) (n : Nat) (t : TypeId) : Bool := decide (t < n) && kindOk (underG P n t)
theorem isVar_eq (hn : P.types.size = n) (t : TypeId) : isVar P t = isVarG P n t := by
  unfold isVar isVarG
  rw [hn, under_eq hn]
noncomputable def rowFineG (P : Program) (n : Nat) (t : TypeId) : Bool :=
  !isVarG P n t ||
  match underG P n t with
  | some (.struct fs) => fs.toList.all (fun f => isVarG P n f.type) && cellsG P n t == (fs.toList.map fun f => cellsG P n f.type).sum &&
      (List.range fs.toList.length).all fun j => match fs.toList[j]? with | some f => f.offset == ((fs.toList.take j).map fun f => cellsG P n f.type).sum | none => true
  | some (.array m e) => isVarG P n e && cellsG P n t == m * cellsG P n e
  | some (.pointer e) => isVarG P n e && cellsG P n t == 1
  | some (.slice e) => isVarG P n e && cellsG P n t == 1
  | _ => cellsG P n t == 1
theorem rowFine_eq (hn : P.types.size = n) (t : TypeId) : rowFine P t = rowFineG P n t := by
  unfold rowFine rowFineG
  simp only [isVar_eq hn, under_eq hn, cells_eq hn]
  rfl

theorem laidOut_of (hn : P.types.size = n) (h1 : ((List.range n).all fun t => rowFineG P n t) = true) (h2 : (P.globals.toList.all fun g => Nat.blt g.type n) = true)
    (h3 : (P.funcs.toList.all fun f => f.params.toList.all fun t => Nat.blt t n) = true) : laidOutB P = true := by
  unfold laidOutB
  have e1 : (List.range P.types.size).all (rowFine P) = true := by
    rw [hn, ← h1]; congr 1; funext t; exact rowFine_eq hn t
  have e2 : P.globals.all (fun g => decide (g.type < P.types.size)) = true := by
    rw [← Array.all_toList, List.all_eq_true]
    intro g hg
    have := List.all_eq_true.1 h2 g hg
    rw [hn]; exact decide_eq_true (Nat.le_of_ble_eq_true this)
  have e3 : P.funcs.all (fun f => f.params.all fun t => decide (t < P.types.size)) = true := by
    rw [← Array.all_toList, List.all_eq_true]
    intro f hf
    have := List.all_eq_true.1 h3 f hf
    rw [← Array.all_toList, List.all_eq_true]
    intro t ht
    have := List.all_eq_true.1 this t ht
    rw [hn]; exact decide_eq_true (Nat.le_of_ble_eq_true this)
  rw [e1, e2, e3]; rfl

theorem mapsRowed_of (hn : P.types.size = n) (h : ((List.range n).all fun t => match underG P n t with | some (.map _ e) => Nat.blt e n | _ => true) = true) : mapsRowed P = true := by
  unfold mapsRowed
  rw [hn, List.all_eq_true]
  intro t ht
  have := List.all_eq_true.1 h t ht
  rw [under_eq hn]
  generalize underG P n t = d at this
  revert this
  cases d with
  | none => intro _; rfl
  | some d => cases d <;> first | (intro _; rfl) | (intro h; exact decide_eq_true (Nat.le_of_ble_eq_true h))
theorem plainKeys_eq (hn : P.types.size = n) : P.plainKeys = (List.range n).all fun t => match underG P n t with
    | some (.map k _) => (match underG P n k with | some (.array _ _) | some (.struct _) => false | _ => true)
    | _ => true := by
  unfold Program.plainKeys
  simp only [hn, under_eq hn]
  rfl
end types

section funcs
variable {P : Program}
theorem func_eq (f : FuncId) : P.funcs[f]? = funcF P f := by
  unfold funcF
  rw [nthL_chunk, Array.getElem?_toList]
theorem funcNamed_eq {m : Nat} (hm : P.funcs.size = m) (name : String) : P.funcNamed name = match (List.range m).filter fun i => (funcF P i).any (·.name == name) with | [i] => some i | _ => none := by
  unfold Program.funcNamed
  simp only [hm, func_eq]
  rfl
theorem stopsHeard_of (h : (P.funcs.toList.all fun fn => (Stop.rowOf fn).isNone || !fn.norace) = true) : P.stopsHeard = true := by
  unfold Program.stopsHeard
  rw [← Array.all_toList]; exact h
theorem goes_false (h : (P.funcs.toList.all fun fn => !fn.goes) = true) (f : FuncId) : P.goes f = false := by
  have hall : ∀ fn ∈ P.funcs.toList, fn.goes = false := fun fn hf => by simpa using List.all_eq_true.1 h fn hf
  unfold Program.goes
  have e1 : ((P.closure f).any fun g => (P.funcs[g]?).any Func.goes) = false := by
    rw [List.any_eq_false]
    intro g _
    cases hg : P.funcs[g]? with
    | none => simp
    | some fn =>
      have : fn ∈ P.funcs.toList := Array.mem_toList_iff.2 (Array.mem_of_getElem? hg)
      simp [hall fn this]
  have e2 : P.funcs.any Func.goes = false := by
    rw [← Array.any_toList, List.any_eq_false]
    intro fn hf
    simp [hall fn hf]
  rw [e1, e2]; simp

theorem laysLater_eq : P.laysLater = P.funcs.toList.any fun fn => fn.body.isNone && (fn.name == "runtime.SetFinalizer" || fn.name == "runtime.AddCleanup" || fn.origin == "runtime.AddCleanup") := by
  unfold Program.laysLater
  rw [← Array.any_toList]

/-- the functions that a function leads to, quickly -/
noncomputable def closG (P : Program) (fuel : Nat) : List FuncId → Nat → List FuncId → List FuncId :=
  Nat.rec (motive := fun _ => List FuncId → Nat → List FuncId → List FuncId) (fun _ _ seen => seen)
    (fun _ ih todo mask seen => List.rec (motive := fun _ => List FuncId) seen
      (fun f todo _ => forceN f fun f => Bool.rec (motive := fun _ => List FuncId)
        (forceN (Nat.lor mask (Nat.shiftLeft 1 f)) fun mask => ih ((funcF P f).elim [] P.leadsTo ++ todo) mask (f :: seen))
        (ih todo mask seen) (Nat.beq (Nat.land (Nat.shiftRight mask f) 1) 1)) todo) fuel

theorem maskBit_eq (m f : Nat) : Nat.beq (Nat.land (Nat.shiftRight m f) 1) 1 = m.testBit f := by
  have h1 : Nat.land (Nat.shiftRight m f) 1 = (m >>> f) &&& 1 := rfl
  rw [h1, Nat.testBit, Nat.and_comm]
  have h2 : 1 &&& (m >>> f) < 2 := Nat.lt_of_le_of_lt Nat.and_le_left (by decide)
  generalize 1 &&& (m >>> f) = x at h2
  match x, h2 with
  | 0, _ => rfl
  | 1, _ => rfl

theorem closG_eq : ∀ (fuel : Nat) (todo : List FuncId) (mask : Nat) (seen : List FuncId), (∀ f, mask.testBit f = seen.contains f) → P.closureVia fuel todo seen = (closG P fuel todo mask seen).reverse
  | 0, todo, mask, seen, _ => by cases todo <;> rfl
  | fuel + 1, [], mask, seen, _ => rfl
  | fuel + 1, f :: todo, mask, seen, h => by
    have e : closG P (fuel + 1) (f :: todo) mask seen = forceN f fun f => Bool.rec (motive := fun _ => List FuncId)
        (forceN (Nat.lor mask (Nat.shiftLeft 1 f)) fun mask => closG P fuel ((funcF P f).elim [] P.leadsTo ++ todo) mask (f :: seen))
        (closG P fuel todo mask seen) (Nat.beq (Nat.land (Nat.shiftRight mask f) 1) 1) := rfl
    rw [e]
    simp only [forceN_eq, maskBit_eq, h f]
    unfold Program.closureVia
    cases hc : seen.contains f with
    | true => simp only [if_true]; exact closG_eq fuel todo mask seen h
    | false =>
      simp only [Bool.false_eq_true, if_false, func_eq]
      refine closG_eq fuel _ _ _ fun g => ?_
      have hl : Nat.lor mask (Nat.shiftLeft 1 f) = mask ||| (1 <<< f) := rfl
      rw [hl, Nat.testBit_or, h g, Nat.one_shiftLeft, Nat.testBit_two_pow, List.contains_cons, Bool.or_comm]
      congr 1
      by_cases e : f = g
      · subst e; rw [decide_eq_true rfl]; exact (beq_self_eq_true f).symm
      · rw [decide_eq_false e]; exact (beq_eq_false_iff_ne.2 (fun h => e h.symm)).symm
theorem closure_eq (f : FuncId) : P.closure f = (closG P (1 + (P.funcs.toList.map fun g => (P.leadsTo g).length + 1).sum) [f] 0 []).reverse := by
  unfold Program.closure
  exact closG_eq _ _ _ _ fun g => (Nat.zero_testBit g).trans rfl
end funcs
end Go.Ax
