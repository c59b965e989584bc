/-
  The executor is right, part 1: values, memory, operations.
-/
import Derived.Test.YtpppjkkncgkffaaGreatDoorExa
import Derived.Laws.Sem
import Derived.Laws.Entries
import Derived.Laws.Cells
import Derived.Laws.Strings
import Derived.Lib.Strings
import Derived.Lib.SmallJoins
set_option linter.unusedVariables false
set_option linter.unusedSimpArgs false
namespace Go.Ax
variable {P : Program}

/-! ### the program's tables -/
theorem dropN_eq {α : Type} (n : Nat) (l : List α) : dropN n l = l.drop n := by
  induction n generalizing l with
  | zero => rfl
  | succ n ih => cases l with
    | nil => rfl
    | cons a l => exact ih l
theorem nthL_eq {α : Type} (l : List α) (n : Nat) : nthL l n = l[n]? := by
  induction l generalizing n with
  | nil => rfl
  | cons a l ih => cases n with
    | zero => rfl
    | succ n => exact (ih n).trans (by simp)
theorem chunk_eq {α : Type} (l : List α) (k : Nat) : chunk l k = l.drop (32 * k) := by
  induction k with
  | zero => rfl
  | succ k ih =>
    show dropN 32 (chunk l k) = _
    rw [dropN_eq, ih, List.drop_drop]; congr 1
theorem nthL_chunk {α : Type} (l : List α) (n : Nat) : nthL (chunk l (n / 32)) (n % 32) = l[n]? := by
  rw [nthL_eq, chunk_eq, List.getElem?_drop]; congr 1; omega

theorem infoF_some {t : TypeId} {i : TypeInfo} (h : infoF P t = some i) : P.info? t = some i := by
  unfold infoF at h
  rw [nthL_chunk] at h
  have hlt : t < P.types.size := by
    have := (List.getElem?_eq_some_iff.1 h).1
    simpa using this
  have : P.types[t]? = some i := by simpa using h
  simp only [Tables.info?, if_pos hlt, this]
theorem undF_some {t : TypeId} {d : TypeDesc} (h : undF P t = some d) : P.underlying t = some d := by
  unfold undF at h
  cases hi : infoF P t with
  | none => simp [hi] at h
  | some i =>
    simp only [hi] at h
    unfold Program.underlying
    rw [infoF_some hi]
    obtain ⟨desc, str, size, bytes, hp, al, fal, zero, cmp, ms⟩ := i
    cases desc <;> simp only [Option.map_eq_some_iff] at h ⊢ <;> first | exact h | skip
    obtain ⟨j, hj, hd⟩ := h
    rw [infoF_some hj]
    exact ⟨j, rfl, hd⟩
theorem funcF_some {f : FuncId} {fn : Func} (h : funcF P f = some fn) : P.funcs[f]? = some fn := by
  unfold funcF at h
  rw [nthL_chunk] at h
  simpa using h
theorem sizeT_some {t : TypeId} {n : Nat} (h : sizeT P t = some n) : ∃ i, P.info? t = some i ∧ i.size = n := by
  unfold sizeT at h
  cases hi : infoF P t with
  | none => simp [hi] at h
  | some i => simp [hi] at h; exact ⟨i, infoF_some hi, h⟩
theorem run_sizeOf {t : TypeId} {n : Nat} (h : sizeT P t = some n) (w : World) : (sizeOf t).run P w = .ok n w := by
  obtain ⟨i, hi, rfl⟩ := sizeT_some h
  simp [sizeOf, typeInfo, hi]
theorem run_isAgg {t : TypeId} {q : Bool} (h : aggT P t = some q) (w : World) : (isAgg t).run P w = .ok q w := by
  unfold aggT at h
  cases hu : undF P t with
  | none => simp [hu] at h
  | some d =>
    have := undF_some hu
    simp only [isAgg, underlying, Sem.run_bind, run_program, Result.andThen_ok, this]
    cases d <;> simp [hu] at h <;> subst h <;> rfl
theorem run_under {t : TypeId} {d : TypeDesc} (h : undF P t = some d) (w : World) : (underlying t).run P w = .ok d w := run_underlying (undF_some h) w

/-! ### constants -/
theorem unb_bia {z : Int} (h : 0 ≤ z + (B63 : Nat)) : unb (bia z) = z := by
  unfold unb bia; omega

theorem strNum_unnum : ∀ (l : List UInt8), unnum l.length (strNum l) = l ∧ strNum l < 256 ^ l.length
  | [] => ⟨rfl, by simp [strNum]⟩
  | c :: l => by
    obtain ⟨h1, h2⟩ := strNum_unnum l
    have hc : c.toNat < 256 := c.toNat_lt
    refine ⟨?_, ?_⟩
    · show UInt8.ofNat ((c.toNat + 256 * strNum l) % 256) :: unnum l.length ((c.toNat + 256 * strNum l) / 256) = c :: l
      have e1 : (c.toNat + 256 * strNum l) % 256 = c.toNat := by omega
      have e2 : (c.toNat + 256 * strNum l) / 256 = strNum l := by omega
      rw [e1, e2, h1]
      simp
    · simp only [strNum, List.length_cons, Nat.pow_succ]; omega

theorem const0_ok (θ : Th) {v : Value} {c : V} (h : const0 v = some c) : VR θ c v := by
  unfold const0 at h
  split at h
  · simp only [Option.some.injEq] at h; subst h; exact .b _
  · split at h
    · rename_i n hn
      simp only [Option.some.injEq] at h; subst h
      have := VR.i (θ := θ) (bia n)
      rwa [unb_bia hn] at this
    · cases h
  · split at h
    · rename_i k n _ hn
      simp only [Option.some.injEq] at h; subst h
      have := VR.u (θ := θ) k (bia n)
      rwa [unb_bia hn] at this
    · cases h
  · simp only [Option.some.injEq] at h; subst h
    rename_i s
    obtain ⟨h1, h2⟩ := strNum_unnum s.data.toList
    have e : s.data.toList.length = s.size := Array.length_toList
    rw [e] at h1 h2
    exact .s _ _ _ h1.symm h2
  · simp only [Option.some.injEq] at h; subst h; exact .pn
  · simp only [Option.some.injEq] at h; subst h; exact .sln
  · simp only [Option.some.injEq] at h; subst h; exact .mn
  · simp only [Option.some.injEq] at h; subst h; exact .fn
  · simp only [Option.some.injEq] at h; subst h; exact .ifn
  · cases h

theorem cellsV_ok (θ : Th) : ∀ (l : List Value) (n : Nat) (t t' : PT V), cellsV l n t = some t' →
    ∀ j v, t'.get j = some v → (j < n ∧ t.get j = some v) ∨ (n ≤ j ∧ ∃ c, l[j - n]? = some c ∧ VR θ v c) ∨ (n + l.length ≤ j ∧ t.get j = some v) := by
  intro l
  induction l with
  | nil =>
    intro n t t' h j v hj
    simp only [cellsV, Option.some.injEq] at h
    subst h
    by_cases hn : j < n
    · exact .inl ⟨hn, hj⟩
    · exact .inr (.inr ⟨by simpa using hn, hj⟩)
  | cons c l ih =>
    intro n t t' h j v hj
    have h' : (match const0 c with | some c => forceV c (fun c => PT.setK t n c fun t => cellsV l (Nat.succ n) t) none | none => none) = some t' := h
    cases hc : const0 c with
    | none => simp [hc] at h'
    | some d =>
      simp only [hc, forceV_eq, PT.setK_eq] at h'
      rcases ih _ _ _ h' j v hj with ⟨h1, h2⟩ | ⟨h1, e, h2, h3⟩ | ⟨h1, h2⟩
      · rw [PT.get_set] at h2
        by_cases e : j = n
        · subst e
          rw [if_pos rfl] at h2
          obtain rfl : d = v := by simpa using h2
          exact .inr (.inl ⟨Nat.le_refl _, c, by simp, const0_ok θ hc⟩)
        · rw [if_neg e] at h2
          exact .inl ⟨by omega, h2⟩
      · refine .inr (.inl ⟨by omega, e, ?_, h3⟩)
        have : j - n = (j - Nat.succ n) + 1 := by omega
        rw [this]; simpa using h2
      · rw [PT.get_set, if_neg (by omega)] at h2
        exact .inr (.inr ⟨by simp only [List.length_cons]; omega, h2⟩)

theorem const0_flat {v : Value} {c : V} (h : const0 v = some c) : flat v = true := by
  cases v <;> first | rfl | cases h
theorem cellsV_flat : ∀ (l : List Value) (n : Nat) (t t' : PT V), cellsV l n t = some t' → ∀ v ∈ l, flat v = true := by
  intro l
  induction l with
  | nil => intro n t t' _ v hv; cases hv
  | cons c l ih =>
    intro n t t' h v hv
    have h' : (match const0 c with | some c => forceV c (fun c => PT.setK t n c fun t => cellsV l (Nat.succ n) t) none | none => none) = some t' := h
    cases hc : const0 c with
    | none => simp [hc] at h'
    | some d =>
      simp only [hc, forceV_eq, PT.setK_eq] at h'
      rcases List.mem_cons.1 hv with rfl | hv
      · exact const0_flat hc
      · exact ih _ _ _ h' v hv

theorem cellsV_nil (θ : Th) {l : List Value} {t : PT V} (h : cellsV l 0 .nil = some t) : ∀ j v, t.get j = some v → j < l.length ∧ VR θ v (l.toArray.getD j Go.undef) := by
  intro j v hj
  rcases cellsV_ok θ l 0 .nil t h j v hj with ⟨h1, _⟩ | ⟨_, c, h2, h3⟩ | ⟨_, h2⟩
  · omega
  · have hlt : j < l.length := (List.getElem?_eq_some_iff.1 h2).1
    refine ⟨hlt, ?_⟩
    have h2' : l[j]? = some c := by simpa using h2
    rw [Array.getD_eq_getD_getElem?]
    simp [h2', h3]
  · rw [PT.get_nil] at h2; cases h2

theorem constV_ok (θ : Th) {v : Value} {c : V} (h : constV v = some c) : VR θ c v := by
  unfold constV at h
  split at h
  · rename_i cs
    cases ht : cellsV cs.toList 0 .nil with
    | none => simp [ht] at h
    | some t =>
      simp only [ht, Option.some.injEq] at h
      subst h
      have hc := cellsV_nil θ ht
      exact .agg _ _ _ (by simp) (fun j v hj => (hc j v hj).1) (fun j v hj => by simpa using (hc j v hj).2) (cellsV_flat _ _ _ _ ht)
  · exact const0_ok θ h

/-! ### operands -/
noncomputable def opnd (e : Env) : Operand → V
  | .tmp t => e.at t
  | .const v => (constV v).getD .nil
  | .global g => .p (A.ofNat g) 0
  | .func f => .f f .nil .nil
theorem opndC_eq {R : Type} (x : Operand) (e : Env) (k : V → R) : (opndC x).f e k = k (opnd e x) := by
  cases x with
  | tmp t => exact getC_eq t e k
  | const v =>
    unfold opndC opnd
    cases h : constV v with
    | none => simp [h]
    | some c => simp [h, forceV_eq]
  | global g => rfl
  | func f => rfl
theorem opnd_ok {θ : Th} {n : Nat} {e : Env} {a : Act} (hg : ∀ g, g < P.globals.size → θ.ρ (A.ofNat g) = some g) (h : RR θ n e a.tmps) {x : Operand} (hx : okOpnd P x = true) : VR θ (opnd e x) (a.eval x) := by
  cases x with
  | tmp t =>
    have : t < 256 := by simpa [okOpnd, Nat.blt_eq] using hx
    exact h.2.2 t this
  | const v =>
    simp only [okOpnd, Option.isSome_iff_exists] at hx
    obtain ⟨c, hc⟩ := hx
    simp only [opnd, hc, Option.getD_some]
    exact constV_ok θ hc
  | global g =>
    have : g < P.globals.size := by simpa [okOpnd, Nat.blt_eq] using hx
    exact .p _ _ _ (hg g this)
  | func f => exact .f f .nil .nil #[] #[] .nil .nil

theorem opndsC_eq {R : Type} (l : List Operand) (e : Env) : ∀ (k : V → R), (opndsC l).f e k = k (l.foldr (fun x t => .cons (opnd e x) t) .nil) := by
  induction l with
  | nil => intro k; rfl
  | cons x l ih => intro k; simp only [opndsC, Clo.on_f, opndC_eq, ih]; rfl
theorem argsC_eq {R : Type} (l : List Operand) (e : Env) : ∀ (k : List V → R), (argsC l).f e k = k (l.map (opnd e)) := by
  induction l with
  | nil => intro k; rfl
  | cons x l ih => intro k; simp only [argsC, Clo.on_f, opndC_eq, ih]; rfl
theorem bif_true {c x : Bool} (h : (bif c then x else false) = true) : c = true ∧ x = true := by cases c <;> simp_all
theorem iteK_true {c x : Bool} (h : iteK c x false = true) : c = true ∧ x = true := by rw [iteK_eq] at h; exact bif_true h
theorem ble_le {a b : Nat} (h : Nat.ble a b = true) : a ≤ b := Nat.le_of_ble_eq_true h
theorem idxK_eq {R : Type} (v : V) (top : Nat) (k : Nat → R) (z : R) : idxK v top k z = match v with
    | .i n => iteK (Nat.ble B63 n) (iteK (Nat.ble (Nat.sub n B63) top) (k (Nat.sub n B63)) z) z
    | .u _ n => iteK (Nat.ble B63 n) (iteK (Nat.ble (Nat.sub n B63) top) (k (Nat.sub n B63)) z) z
    | _ => z := by
  unfold idxK
  rw [asN_eq]
  cases v with
  | i n => simp only [forceN_eq]
  | u kd n => simp only [forceN_eq]
  | _ => rfl
theorem unb_sub {n : Nat} (h : B63 ≤ n) : unb n = ((n - B63 : Nat) : Int) := by unfold unb; omega
/-- an index that is in its bounds -/
theorem idxK_true {θ : Th} {v : V} {cv : Value} (hv : VR θ v cv) {top : Nat} {k : Nat → Bool} (h : idxK v top k false = true) :
    ∃ (kd : IntKind) (i : Nat), cv = .int kd i ∧ i ≤ top ∧ k i = true := by
  rw [idxK_eq] at h
  cases hv <;> try exact absurd h Bool.false_ne_true
  all_goals
    obtain ⟨h1, h2⟩ := iteK_true h
    obtain ⟨h2, h3⟩ := iteK_true h2
    rw [Nat.sub_eq] at h2 h3
    have h1' := ble_le h1
    have h2' := ble_le h2
    clear h1 h2 h
  · rename_i n
    refine ⟨.i64, n - B63, ?_, h2', h3⟩
    rw [unb_sub h1']
  · rename_i kd n
    refine ⟨kd, n - B63, ?_, h2', h3⟩
    rw [unb_sub h1']
end Go.Ax

namespace Go.Ax
variable {P : Program}

/-! ### numbers -/
theorem lss_iff (a b : Nat) : Nat.ble (Nat.succ a) b = decide (unb a < unb b) := by
  rw [Bool.eq_iff_iff, Nat.ble_eq, decide_eq_true_iff]; unfold unb; omega
theorem leq_iff (a b : Nat) : Nat.ble a b = decide (unb a ≤ unb b) := by
  rw [Bool.eq_iff_iff, Nat.ble_eq, decide_eq_true_iff]; unfold unb; omega
theorem beq_iff' (a b : Nat) : Nat.beq a b = (unb a == unb b) := by
  rw [Bool.eq_iff_iff, Nat.beq_eq, beq_iff_eq]; unfold unb; omega
theorem VR.int {θ : Th} (k : IntKind) (z : Int) (h : 0 ≤ z + (B63 : Nat)) : VR θ (.u k (bia z)) (.int k z) := by
  have := VR.u (θ := θ) k (bia z); rwa [unb_bia h] at this
theorem VR.int64 {θ : Th} (z : Int) (h : 0 ≤ z + (B63 : Nat)) : VR θ (.i (bia z)) (.int .i64 z) := by
  have := VR.i (θ := θ) (bia z); rwa [unb_bia h] at this
theorem VR.nat64 {θ : Th} (n : Nat) : VR θ (.i (Nat.add n B63)) (.int .i64 n) := by
  have := VR.i (θ := θ) (Nat.add n B63)
  have e : unb (Nat.add n B63) = n := by unfold unb; rw [Nat.add_eq]; omega
  rwa [e] at this

theorem bits_pos (k : IntKind) : (0 : Int) < 2 ^ k.bits := Int.pow_pos (by decide)
theorem wrap_i64 (z : Int) : IntKind.i64.wrap z = (z + 9223372036854775808) % 18446744073709551616 - 9223372036854775808 := by
  simp [IntKind.wrap, IntKind.bits, IntKind.signed]
  split <;> omega
theorem B63_eq : B63 = 9223372036854775808 := rfl
theorem B64_eq : B64 = 18446744073709551616 := rfl
theorem wrap_lo (k : IntKind) (z : Int) : 0 ≤ k.wrap z + (B63 : Nat) := by
  rw [B63_eq]
  cases k <;> simp [IntKind.wrap, IntKind.bits, IntKind.signed] <;> (try split) <;> omega

theorem unb_eq (n : Nat) : unb n = (n : Int) - 9223372036854775808 := by unfold unb; rw [B63_eq]; rfl
theorem modEq (a b : Nat) : Nat.mod a b = a % b := rfl
theorem divEq (a b : Nat) : Nat.div a b = a / b := rfl
theorem add64 (a b : Nat) : unb (Nat.mod (Nat.add (Nat.add a b) B63) B64) = IntKind.i64.wrap (unb a + unb b) := by
  rw [wrap_i64, unb_eq, unb_eq, unb_eq, B63_eq, B64_eq]
  simp only [Nat.add_eq, modEq]
  omega
theorem sub64 (a b : Nat) : unb (Nat.mod (Nat.add a (Nat.sub B96 (Nat.mod b B64))) B64) = IntKind.i64.wrap (unb a - unb b) := by
  have e : B96 = 27670116110564327424 := rfl
  rw [wrap_i64, unb_eq, unb_eq, unb_eq, e, B64_eq]
  simp only [Nat.add_eq, modEq, Nat.sub_eq]
  omega
theorem neg64 (a : Nat) : unb (Nat.mod (Nat.sub B64 (Nat.mod a B64)) B64) = IntKind.i64.wrap (0 - unb a) := by
  rw [wrap_i64, unb_eq, unb_eq, B64_eq]
  simp only [modEq, Nat.sub_eq]
  omega
theorem conv64 (a : Nat) : unb (Nat.mod a B64) = IntKind.i64.wrap (unb a) := by
  rw [wrap_i64, unb_eq, unb_eq, B64_eq]
  simp only [modEq]
  omega
end Go.Ax

namespace Go.Ax
variable {P : Program}

theorem kindK_true {a b : IntKind} {x : Bool} (h : kindK a b x false = true) : a = b ∧ x = true := by
  obtain ⟨h1, h2⟩ := iteK_true h
  refine ⟨?_, h2⟩
  rw [Nat.beq_eq] at h1
  cases a <;> cases b <;> first | rfl | exact absurd h1 (by decide)
theorem asI_true {v : V} {k : Nat → Bool} (h : asI v k false = true) : ∃ n, v = .i n ∧ k n = true := by
  rw [asI_eq] at h; cases v <;> first | exact ⟨_, rfl, h⟩ | cases h
theorem asU_true {v : V} {k : IntKind → Nat → Bool} (h : asU v k false = true) : ∃ kd n, v = .u kd n ∧ k kd n = true := by
  rw [asU_eq] at h; cases v <;> first | exact ⟨_, _, rfl, h⟩ | cases h
theorem asB_true {v : V} {k : Bool → Bool} (h : asB v k false = true) : ∃ x, v = .b x ∧ k x = true := by
  rw [asB_eq] at h; cases v <;> first | exact ⟨_, rfl, h⟩ | cases h
theorem asS_true {v : V} {k : Nat → Nat → Bool} (h : asS v k false = true) : ∃ l x, v = .s l x ∧ k l x = true := by
  rw [asS_eq] at h; cases v <;> first | exact ⟨_, _, rfl, h⟩ | cases h
theorem asP_true {v : V} {k : A → Nat → Bool} (h : asP v k false = true) : ∃ x o, v = .p x o ∧ k x o = true := by
  rw [asP_eq] at h; cases v <;> first | exact ⟨_, _, rfl, h⟩ | cases h
theorem asAgg_true {v : V} {k : Nat → PT V → Bool} (h : asAgg v k false = true) : ∃ n t, v = .agg n t ∧ k n t = true := by
  rw [asAgg_eq] at h; cases v <;> first | exact ⟨_, _, rfl, h⟩ | cases h
theorem asTup_true {v : V} {k : V → Bool} (h : asTup v k false = true) : ∃ l, v = .tup l ∧ k l = true := by
  rw [asTup_eq] at h; cases v <;> first | exact ⟨_, rfl, h⟩ | cases h
theorem cellK_true {v : V} {x : Bool} (h : cellK v x false = true) : v.isCell = true ∧ x = true := by
  rw [cellK_eq] at h; exact bif_true h
theorem thereK_true {v : V} {x : Bool} (h : thereK v x false = true) : v.there = true ∧ x = true := by
  rw [thereK_eq] at h; exact bif_true h
theorem cellsK_true {v : V} {k : Nat → PT V → Bool} (h : cellsK v k false = true) : ∃ n t, v.cells = some (n, t) ∧ k n t = true := by
  rw [cellsK_eq] at h
  cases e : v.cells with
  | none => rw [e] at h; cases h
  | some p => rw [e] at h; exact ⟨p.1, p.2, rfl, h⟩
theorem vnthK_true {l : V} {n : Nat} {k : V → Bool} (h : vnthK l n k false = true) : ∃ v, l.nth n = some v ∧ k v = true := by
  rw [vnthK_eq] at h
  cases e : l.nth n with
  | none => rw [e] at h; cases h
  | some v => rw [e] at h; exact ⟨v, rfl, h⟩
theorem getK_true {α : Type} {t : PT α} {n : Nat} {k : α → Bool} (h : PT.getK t n k false = true) : ∃ v, t.get n = some v ∧ k v = true := by
  rw [PT.getK_eq] at h
  cases e : t.get n with
  | none => rw [e] at h; cases h
  | some v => rw [e] at h; exact ⟨v, rfl, h⟩
theorem moveK_true {cnt : Nat} {s : PT V} {so : Nat} {d : PT V} {at_ : Nat} {k : PT V → Bool} (h : moveK cnt s so d at_ k false = true) : ∃ t, s.move cnt so d at_ = some t ∧ k t = true := by
  rw [moveK_eq] at h
  cases e : s.move cnt so d at_ with
  | none => rw [e] at h; cases h
  | some v => rw [e] at h; exact ⟨v, rfl, h⟩
theorem subK_true {sz n : Nat} {t : PT V} {off : Nat} {k : PT V → Bool} (h : subK sz n t off k false = true) : ∃ t', PT.sub sz n t off = some t' ∧ k t' = true := by
  rw [subK_eq] at h
  cases e : PT.sub sz n t off with
  | none => rw [e] at h; cases h
  | some v => rw [e] at h; exact ⟨v, rfl, h⟩
theorem hcellsK_true {h : Hp} {x : A} {k : Nat → Bool → Nat → PT V → Bool} (e : hcellsK h x k false = true) : ∃ n g s t, hget h x = some (.cells n g s t) ∧ k n g s t = true := by
  rw [hcellsK_eq] at e
  split at e
  · rename_i n g s t hx; exact ⟨n, g, s, t, hx, e⟩
  · cases e
theorem hreadK_true {h : Hp} {x : A} {k : Nat → PT V → Bool} (e : hreadK h x k false = true) : ∃ n t, ((∃ g s, hget h x = some (.cells n g s t)) ∨ hget h x = some (.ro n t)) ∧ k n t = true := by
  rw [hreadK_eq] at e
  split at e
  · rename_i n g s t hx; exact ⟨n, t, .inl ⟨g, s, hx⟩, e⟩
  · rename_i n t hx; exact ⟨n, t, .inr hx, e⟩
  · cases e
theorem hmapK_true {h : Hp} {x : A} {k : List (V × V) → Bool} (e : hmapK h x k false = true) : ∃ es, hget h x = some (.map es) ∧ k es = true := by
  rw [hmapK_eq] at e
  split at e
  · rename_i es hx; exact ⟨es, hx, e⟩
  · cases e
theorem newK_true {h : Hp} {x : A} {b : B} {k : Hp → A → Bool} (e : newK h x b k false = true) : ∃ y, x.next = some y ∧ k (hset h x (some b)) y = true := by
  rw [newK_eq] at e
  cases hy : x.next with
  | none => rw [hy] at e; cases e
  | some y => rw [hy] at e; exact ⟨y, rfl, e⟩

/-! ### comparing, reckoning -/
theorem cmpV_true {θ : Th} {t : Nat → Nat → Bool} {c : Int → Int → Bool} (ht : ∀ a b, t a b = c (unb a) (unb b)) {x y : V} {cx cy : Value} (hx : VR θ x cx) (hy : VR θ y cy) {k : V → Bool} (h : cmpV t x y k = true) :
    ∃ (kd : IntKind) (a b : Int), cx = .int kd a ∧ cy = .int kd b ∧ k (.b (c a b)) = true := by
  unfold cmpV at h
  rw [asI_eq] at h
  cases hx with
  | i a =>
    obtain ⟨b, rfl, h1⟩ := asI_true h
    clear h
    cases hy
    rw [forceB_eq, ht] at h1
    exact ⟨.i64, _, _, rfl, rfl, h1⟩
  | u ka a =>
    obtain ⟨ka', a', e, h1⟩ := asU_true h
    clear h
    injection e with e1 e2; subst e1; subst e2
    obtain ⟨kb, b, rfl, h2⟩ := asU_true h1
    clear h1
    cases hy
    obtain ⟨rfl, h3⟩ := kindK_true h2
    rw [forceB_eq, ht] at h3
    exact ⟨_, _, _, rfl, rfl, h3⟩
  | _ => (obtain ⟨_, _, e, _⟩ := asU_true h; cases e)

theorem ariV_true {θ : Th} {q : Nat → Nat → Nat} {g : IntKind → Int → Int → Int} {x y : V} {cx cy : Value} (hx : VR θ x cx) (hy : VR θ y cy)
    (hq : ∀ a b, unb (q a b) = g .i64 (unb a) (unb b)) (hg : ∀ kd (a b : Nat), 0 ≤ g kd (unb a) (unb b) + (B63 : Nat)) {k : V → Bool} (h : ariV q g x y k = true) :
    ∃ (kd : IntKind) (a b : Int) (v : V), cx = .int kd a ∧ cy = .int kd b ∧ k v = true ∧ VR θ v (.int kd (g kd a b)) := by
  unfold ariV at h
  rw [asI_eq] at h
  cases hx with
  | i a =>
    obtain ⟨b, rfl, h1⟩ := asI_true h
    clear h
    cases hy
    rw [forceN_eq] at h1
    refine ⟨.i64, _, _, _, rfl, rfl, h1, ?_⟩
    rw [← hq]; exact .i _
  | u ka a =>
    obtain ⟨ka', a', e, h1⟩ := asU_true h
    clear h
    injection e with e1 e2; subst e1; subst e2
    obtain ⟨kb, b, rfl, h2⟩ := asU_true h1
    clear h1
    cases hy
    obtain ⟨rfl, h3⟩ := kindK_true h2
    rw [forceN_eq] at h3
    exact ⟨_, _, _, _, rfl, rfl, h3, VR.int _ _ (hg _ _ _)⟩
  | _ => (obtain ⟨_, _, e, _⟩ := asU_true h; cases e)

theorem twoN_true {θ : Th} {x y : V} {cx cy : Value} (hx : VR θ x cx) (hy : VR θ y cy) {k : IntKind → Nat → Nat → Bool} (h : twoN x y k = true) :
    ∃ (kd kd' : IntKind) (a b : Nat), cx = .int kd (unb a) ∧ cy = .int kd' (unb b) ∧ k kd a b = true := by
  unfold twoN at h
  rw [asN_eq] at h
  cases hx with
  | i a =>
    simp only [asN_eq] at h
    cases hy with
    | i b => exact ⟨_, _, a, b, rfl, rfl, h⟩
    | u kb b => exact ⟨_, _, a, b, rfl, rfl, h⟩
    | _ => cases h
  | u ka a =>
    simp only [asN_eq] at h
    cases hy with
    | i b => exact ⟨_, _, a, b, rfl, rfl, h⟩
    | u kb b => exact ⟨_, _, a, b, rfl, rfl, h⟩
    | _ => cases h
  | _ => cases h

theorem mkI_true {θ : Th} {kd : IntKind} {n : Nat} {k : V → Bool} (h : mkI kd n k = true) : ∃ v, k v = true ∧ VR θ v (.int kd (unb n)) := by
  unfold mkI at h
  rw [forceN_eq] at h
  cases kd <;> first | exact ⟨_, h, .i _⟩ | exact ⟨_, h, .u _ _⟩

theorem unb_lo (n : Nat) : 0 ≤ unb n + (B63 : Nat) := by unfold unb; omega

theorem retB_true {ne q : Bool} {k : V → Bool} (h : retB ne q k = true) : k (.b (q != ne)) = true := by
  unfold retB at h; rw [forceB_eq] at h; exact h
end Go.Ax

namespace Go.Ax
variable {P : Program}

/-! ### strings as numbers -/
theorem unnum_length : ∀ (l v : Nat), (unnum l v).length = l
  | 0, _ => rfl
  | l + 1, v => by simp [unnum, unnum_length l]
theorem unnum_inj : ∀ (l v w : Nat), v < 256 ^ l → w < 256 ^ l → unnum l v = unnum l w → v = w
  | 0, v, w, h1, h2, _ => by simp at h1 h2; omega
  | l + 1, v, w, h1, h2, h => by
    simp only [unnum, List.cons.injEq] at h
    obtain ⟨h3, h4⟩ := h
    have e : (UInt8.ofNat (v % 256)).toNat = (UInt8.ofNat (w % 256)).toNat := by rw [h3]
    have m1 : v % 256 < 256 := Nat.mod_lt _ (by decide)
    have m2 : w % 256 < 256 := Nat.mod_lt _ (by decide)
    simp only [UInt8.toNat_ofNat'] at e
    have h5 := unnum_inj l (v / 256) (w / 256) (by rw [Nat.div_lt_iff_lt_mul (by decide)]; rw [Nat.pow_succ] at h1; omega) (by rw [Nat.div_lt_iff_lt_mul (by decide)]; rw [Nat.pow_succ] at h2; omega) h4
    have e' : v % 256 = w % 256 := by
      have a1 : v % 256 % 2 ^ 8 = v % 256 := Nat.mod_eq_of_lt m1
      have a2 : w % 256 % 2 ^ 8 = w % 256 := Nat.mod_eq_of_lt m2
      omega
    omega
theorem unnum_append : ∀ (l m a b : Nat), a < 256 ^ l → unnum (l + m) (a + b * 256 ^ l) = unnum l a ++ unnum m b
  | 0, m, a, b, h => by
    have : a = 0 := by simpa using h
    subst this; simp [unnum]
  | l + 1, m, a, b, h => by
    have e : l + 1 + m = (l + m) + 1 := by omega
    rw [e]
    simp only [unnum, List.cons_append]
    have e1 : (a + b * 256 ^ (l + 1)) % 256 = a % 256 := by
      rw [Nat.pow_succ, ← Nat.mul_assoc, Nat.add_mul_mod_self_right]
    have e2 : (a + b * 256 ^ (l + 1)) / 256 = a / 256 + b * 256 ^ l := by
      rw [Nat.pow_succ, ← Nat.mul_assoc, Nat.add_mul_div_right _ _ (by decide)]
    rw [e1, e2, unnum_append l m (a / 256) b (by rw [Nat.div_lt_iff_lt_mul (by decide)]; rw [Nat.pow_succ] at h; omega)]
theorem unnum_get : ∀ (l v i : Nat), i < l → (unnum l v)[i]? = some (UInt8.ofNat (v / 256 ^ i % 256))
  | 0, _, _, h => by omega
  | l + 1, v, 0, _ => by simp [unnum]
  | l + 1, v, i + 1, h => by
    simp only [unnum, List.getElem?_cons_succ]
    rw [unnum_get l (v / 256) i (by omega), Nat.pow_succ, Nat.mul_comm (256 ^ i), Nat.div_div_eq_div_mul]
theorem unnum_mod : ∀ (n v : Nat), unnum n (v % 256 ^ n) = unnum n v
  | 0, _ => rfl
  | n + 1, v => by
    simp only [unnum]
    have e1 : v % 256 ^ (n + 1) % 256 = v % 256 := by
      rw [Nat.pow_succ, Nat.mul_comm, Nat.mod_mul_right_mod]
    have e2 : v % 256 ^ (n + 1) / 256 = v / 256 % 256 ^ n := by
      rw [Nat.pow_succ, Nat.mul_comm, Nat.mod_mul_right_div_self]
    rw [e1, e2, unnum_mod n (v / 256)]
theorem unnum_drop : ∀ (i l v : Nat), i ≤ l → (unnum l v).drop i = unnum (l - i) (v / 256 ^ i)
  | 0, l, v, _ => by simp
  | i + 1, 0, v, h => by omega
  | i + 1, l + 1, v, h => by
    simp only [unnum, List.drop_succ_cons]
    rw [unnum_drop i l (v / 256) (by omega), Nat.pow_succ, Nat.mul_comm (256 ^ i), Nat.div_div_eq_div_mul]
    congr 1; omega
theorem unnum_take : ∀ (n l v : Nat), n ≤ l → (unnum l v).take n = unnum n v
  | 0, _, _, _ => by simp [unnum]
  | n + 1, 0, _, h => by omega
  | n + 1, l + 1, v, h => by simp only [unnum, List.take_succ_cons]; rw [unnum_take n l (v / 256) (by omega)]
theorem shift_div (v i : Nat) : Nat.shiftRight v (Nat.mul 8 i) = v / 256 ^ i := by
  have e : Nat.shiftRight v (Nat.mul 8 i) = v >>> (8 * i) := rfl
  rw [e, Nat.shiftRight_eq_div_pow, Nat.pow_mul]

theorem VR.str_inv {θ : Th} {l v : Nat} {cv : Value} (h : VR θ (.s l v) cv) : ∃ s : ByteArray, cv = .string s ∧ s.data.toList = unnum l v ∧ v < 256 ^ l ∧ s.size = l := by
  cases h with
  | s _ _ s h hv =>
    refine ⟨s, rfl, h, hv, ?_⟩
    have : s.data.toList.length = l := by rw [h, unnum_length]
    rw [← this]; exact Array.length_toList.symm
theorem VR.str_mk {θ : Th} {l v : Nat} {s : ByteArray} (h : s.data.toList = unnum l v) (hv : v < 256 ^ l) : VR θ (.s l v) (.string s) := .s l v s h hv

theorem str_eq {l v m w : Nat} {s t : ByteArray} (hs : s.data.toList = unnum l v) (hv : v < 256 ^ l) (ht : t.data.toList = unnum m w) (hw : w < 256 ^ m) :
    (s.toList == t.toList) = (Nat.beq l m && Nat.beq v w) := by
  rw [ByteArray.toList_eq, ByteArray.toList_eq, hs, ht, Bool.eq_iff_iff, beq_iff_eq, Bool.and_eq_true, Nat.beq_eq, Nat.beq_eq]
  refine ⟨fun h => ?_, fun ⟨h1, h2⟩ => by rw [h1, h2]⟩
  have e : l = m := by rw [← unnum_length l v, ← unnum_length m w, h]
  subst e
  exact ⟨rfl, unnum_inj l v w hv hw h⟩
end Go.Ax

namespace Go.Ax
variable {P : Program}

/-- what a step of reckoning comes to -/
def Val (P : Program) (θ : Th) (s : Sem Value) (k : V → Bool) : Prop := ∃ v cv, k v = true ∧ VR θ v cv ∧ ∀ w, s.run P w = .ok cv w

theorem Val.ret {θ : Th} {s : Sem Value} {k : V → Bool} {v : V} {cv : Value} (hk : k v = true) (hv : VR θ v cv) (hs : ∀ w, s.run P w = .ok cv w) : Val P θ s k := ⟨v, cv, hk, hv, hs⟩

theorem cmp_val {θ : Th} {op : BinOp} {ty : TypeId} {t : Nat → Nat → Bool} {c : Int → Int → Bool} (ht : ∀ a b, t a b = c (unb a) (unb b)) {x y : V} {cx cy : Value} (hx : VR θ x cx) (hy : VR θ y cy) {k : V → Bool} (h : cmpV t x y k = true)
    (hb : ∀ kd a b w, (binOp op ty (.int kd a) (.int kd b)).run P w = .ok (.bool (c a b)) w) : Val P θ (binOp op ty cx cy) k := by
  obtain ⟨kd, a, b, rfl, rfl, hk⟩ := cmpV_true ht hx hy h
  exact .ret hk (.b _) (hb kd a b)

theorem ari_val {θ : Th} {op : BinOp} {ty : TypeId} {q : Nat → Nat → Nat} {g : IntKind → Int → Int → Int} {x y : V} {cx cy : Value} (hx : VR θ x cx) (hy : VR θ y cy)
    (hq : ∀ a b, unb (q a b) = g .i64 (unb a) (unb b)) (hg : ∀ kd (a b : Nat), 0 ≤ g kd (unb a) (unb b) + (B63 : Nat)) {k : V → Bool} (h : ariV q g x y k = true)
    (hb : ∀ kd a b w, cx = .int kd a → cy = .int kd b → (binOp op ty (.int kd a) (.int kd b)).run P w = .ok (.int kd (g kd a b)) w) : Val P θ (binOp op ty cx cy) k := by
  obtain ⟨kd, a, b, v, rfl, rfl, hk, hv⟩ := ariV_true hx hy hq hg h
  exact .ret hk hv fun w => hb kd a b w rfl rfl

/-- is it a nil slice (map, function, interface value)? -/
def V.slNil : V → Option Bool | .sl .. | .slz => some false | .sln => some true | _ => none
def V.mNil : V → Option Bool | .m _ => some false | .mn => some true | _ => none
def V.fNil : V → Option Bool | .f .. | .fy _ => some false | .fn => some true | _ => none
def V.ifNil : V → Option Bool | .ifc .. => some false | .ifn => some true | _ => none
theorem nilSl_eq (v : V) (k : Bool → Bool) : nilSl v k = match v.slNil with | some q => k q | none => false := by unfold nilSl; rw [asSl_eq]; cases v <;> rfl
theorem nilM_eq (v : V) (k : Bool → Bool) : nilM v k = match v.mNil with | some q => k q | none => false := by unfold nilM; rw [asM_eq]; cases v <;> rfl
theorem nilF_eq (v : V) (k : Bool → Bool) : nilF v k = match v.fNil with | some q => k q | none => false := by unfold nilF; rw [asF_eq]; cases v <;> rfl
theorem nilIf_eq (v : V) (k : Bool → Bool) : nilIf v k = match v.ifNil with | some q => k q | none => false := by unfold nilIf; rw [asIf_eq]; cases v <;> rfl

/-- two values of a type that is held against nil: what '==' gives -/
theorem nilEq_true {nk : V → (Bool → Bool) → Bool} {isN : V → Option Bool} (hn : ∀ v k, nk v k = match isN v with | some q => k q | none => false) {ne : Bool} {x y : V} {k : V → Bool} (h : nilEqV nk ne x y k = true) :
    ∃ a b, isN x = some a ∧ isN y = some b ∧ (a = true ∨ b = true) ∧ k (.b ((a && b) != ne)) = true := by
  unfold nilEqV at h
  rw [hn] at h
  cases ha : isN x with
  | none => rw [ha] at h; cases h
  | some a =>
    simp only [ha, hn] at h
    cases hb : isN y with
    | none => rw [hb] at h; cases h
    | some b =>
      simp only [hb] at h
      refine ⟨a, b, rfl, rfl, ?_⟩
      cases a with
      | true => exact ⟨.inl rfl, by simpa using retB_true h⟩
      | false =>
        cases b with
        | true => exact ⟨.inr rfl, retB_true h⟩
        | false => exact absurd h Bool.false_ne_true

theorem slNil_inv {θ : Th} {v : V} {cv : Value} (h : VR θ v cv) {q : Bool} (hq : v.slNil = some q) : ∃ a l c, cv = .slice a l c ∧ a.isNone = q := by
  cases h <;> simp only [V.slNil, reduceCtorEq, Option.some.injEq] at hq <;> subst hq <;> exact ⟨_, _, _, rfl, rfl⟩
theorem mNil_inv {θ : Th} {v : V} {cv : Value} (h : VR θ v cv) {q : Bool} (hq : v.mNil = some q) : ∃ r, cv = .map r ∧ r.isNone = q := by
  cases h <;> simp only [V.mNil, reduceCtorEq, Option.some.injEq] at hq <;> subst hq <;> exact ⟨_, rfl, rfl⟩
theorem fNil_inv {θ : Th} {v : V} {cv : Value} (h : VR θ v cv) {q : Bool} (hq : v.fNil = some q) : (q = true ∧ cv = .nilFunc) ∨ (q = false ∧ ∃ f a b, cv = .func f a b) := by
  cases h <;> simp only [V.fNil, reduceCtorEq, Option.some.injEq] at hq <;> subst hq <;> first | exact .inl ⟨rfl, rfl⟩ | exact .inr ⟨rfl, _, _, _, rfl⟩
theorem ifNil_inv {θ : Th} {v : V} {cv : Value} (h : VR θ v cv) {q : Bool} (hq : v.ifNil = some q) : (q = true ∧ cv = .nilIface) ∨ (q = false ∧ ∃ t w, cv = .iface t w) := by
  cases h <;> simp only [V.ifNil, reduceCtorEq, Option.some.injEq] at hq <;> subst hq <;> first | exact .inl ⟨rfl, rfl⟩ | exact .inr ⟨rfl, _, _, rfl⟩

theorem run_equal {t : TypeId} (cx cy : Value) (w : World) {d : TypeDesc} (hd : undF P t = some d) :
    (Op.equal t cx cy).run P w = (Op.equalIn (9999 + 1) t cx cy).run P w := rfl
theorem binOp_eql_run {t : TypeId} {cx cy : Value} {q : Bool} (w : World) (hq : (Op.equal t cx cy).run P w = .ok q w) (hc : ∀ k a k' b, ¬(cx = .int k a ∧ cy = .int k' b)) (hs : ∀ a b, ¬(cx = .string a ∧ cy = .string b))
    (hf : ∀ k a k' b, ¬(cx = .float k a ∧ cy = .float k' b)) (hx : ∀ k a b k' c d, ¬(cx = .complex k a b ∧ cy = .complex k' c d)) :
    (binOp .eql t cx cy).run P w = .ok (.bool q) w ∧ (binOp .neq t cx cy).run P w = .ok (.bool !q) w := by
  constructor
  · cases cx <;> cases cy <;> first
      | exact absurd ⟨rfl, rfl⟩ (hc _ _ _ _)
      | exact absurd ⟨rfl, rfl⟩ (hs _ _)
      | exact absurd ⟨rfl, rfl⟩ (hf _ _ _ _)
      | exact absurd ⟨rfl, rfl⟩ (hx _ _ _ _ _ _)
      | (simp only [binOp, Sem.run_bind, hq, Result.andThen_ok, Sem.run_pure])
  · cases cx <;> cases cy <;> first
      | exact absurd ⟨rfl, rfl⟩ (hc _ _ _ _)
      | exact absurd ⟨rfl, rfl⟩ (hs _ _)
      | exact absurd ⟨rfl, rfl⟩ (hf _ _ _ _)
      | exact absurd ⟨rfl, rfl⟩ (hx _ _ _ _ _ _)
      | (simp only [binOp, Sem.run_bind, hq, Result.andThen_ok, Sem.run_pure])

theorem equal_slice {t el : TypeId} (hd : undF P t = some (.slice el)) {a b : Option Addr} {l c l' c' : Nat} (h : a.isNone = true ∨ b.isNone = true) (w : World) :
    (Op.equal t (.slice a l c) (.slice b l' c')).run P w = .ok (a.isNone && b.isNone) w := by
  rw [run_equal _ _ w hd]
  unfold Op.equalIn
  simp only [Sem.run_bind, run_under hd, Result.andThen_ok]
  cases a <;> cases b <;> first | rfl | simp at h
theorem equal_map {t kt el : TypeId} (hd : undF P t = some (.map kt el)) {a b : Option Nat} (h : a.isNone = true ∨ b.isNone = true) (w : World) :
    (Op.equal t (.map a) (.map b)).run P w = .ok (a.isNone && b.isNone) w := by
  rw [run_equal _ _ w hd]
  unfold Op.equalIn
  simp only [Sem.run_bind, run_under hd, Result.andThen_ok]
  cases a <;> cases b <;> first | rfl | simp at h

/-- '==' and '!=' at the types of eqV -/
theorem eqV_val {θ : Th} {ne : Bool} {t : TypeId} {x y : V} {cx cy : Value} (hx : VR θ x cx) (hy : VR θ y cy) {k : V → Bool} (h : (eqV P ne t).f x y k = true) :
    Val P θ (binOp (if ne then .neq else .eql) t cx cy) k := by
  have fin : ∀ (q : Bool), k (.b (q != ne)) = true → (∀ w, (Op.equal t cx cy).run P w = .ok q w) → (∀ k a k' b, ¬(cx = .int k a ∧ cy = .int k' b)) → (∀ a b, ¬(cx = .string a ∧ cy = .string b)) →
      (∀ k a k' b, ¬(cx = .float k a ∧ cy = .float k' b)) → (∀ k a b k' c d, ¬(cx = .complex k a b ∧ cy = .complex k' c d)) → Val P θ (binOp (if ne then .neq else .eql) t cx cy) k := by
    intro q hk hq h1 h2 h3 h4
    refine .ret hk (.b _) fun w => ?_
    obtain ⟨g1, g2⟩ := binOp_eql_run w (hq w) h1 h2 h3 h4
    cases ne
    · simpa using g1
    · simpa using g2
  unfold eqV at h
  cases hd : undF P t with
  | none => simp only [hd] at h; cases h
  | some d =>
    simp only [hd] at h
    cases d with
    | int kd =>
      rw [iteK_eq] at h
      cases ne with
      | true =>
        refine cmp_val (c := fun a b => a != b) (t := fun a b => !Nat.beq a b) (fun a b => by rw [beq_iff']; rfl) hx hy h (fun kd a b w => ?_)
        simp [binOp, Op.intCmp]
      | false =>
        refine cmp_val (c := fun a b => a == b) (t := fun a b => Nat.beq a b) (fun a b => by rw [beq_iff']) hx hy h (fun kd a b w => ?_)
        simp [binOp, Op.intCmp]
    | bool =>
      obtain ⟨a, rfl, h1⟩ := asB_true h
      obtain ⟨b, rfl, h2⟩ := asB_true h1
      cases hx; cases hy
      refine fin (a == b) (retB_true h2) (fun w => ?_) (by simp) (by simp) (by simp) (by simp)
      rw [run_equal _ _ w hd]
      unfold Op.equalIn
      simp only [Sem.run_bind, run_under hd, Result.andThen_ok]; rfl
    | string =>
      obtain ⟨l, a, rfl, h1⟩ := asS_true h
      obtain ⟨m, b, rfl, h2⟩ := asS_true h1
      obtain ⟨s, rfl, hs, hv, _⟩ := hx.str_inv
      obtain ⟨s', rfl, hs', hv', _⟩ := hy.str_inv
      have h3 := retB_true h2
      refine .ret h3 (.b _) fun w => ?_
      rw [← str_eq hs hv hs' hv']
      cases ne <;> simp [binOp, Op.stringOp]
    | pointer el =>
      simp only at h
      cases hz : sizeT P el with
      | none => simp only [hz] at h; cases h
      | some n =>
        simp only [hz] at h
        cases n with
        | zero => cases h
        | succ n =>
          replace h : eqPV ne x y k = true := h
          unfold eqPV at h
          rw [asPtr_eq] at h
          cases hx with
          | p x' o r hr =>
            simp only [asPtr_eq] at h
            cases hy with
            | p y' o' r' hr' =>
              simp only at h
              obtain ⟨h1, h2⟩ := iteK_true h
              rw [A.beq_iff] at h1
              subst h1
              rw [hr] at hr'
              obtain rfl : r = r' := by simpa using hr'
              refine fin (Nat.beq o o') (retB_true h2) (fun w => ?_) (by simp) (by simp) (by simp) (by simp)
              rw [run_equal _ _ w hd]
              unfold Op.equalIn
              simp only [Sem.run_bind, run_under hd, Result.andThen_ok, run_sizeOf hz, sameAddr]
              have e : (({ block := r, off := o, spot := none } : Addr) == { block := r, off := o', spot := none }) = Nat.beq o o' := by
                rw [Bool.eq_iff_iff, beq_iff_eq, Nat.beq_eq]; simp
              simp [e]
            | pn =>
              refine fin false (retB_true h) (fun w => ?_) (by simp) (by simp) (by simp) (by simp)
              rw [run_equal _ _ w hd]
              unfold Op.equalIn
              simp only [Sem.run_bind, run_under hd, Result.andThen_ok]; rfl
            | _ => cases h
          | pn =>
            simp only [asPtr_eq] at h
            cases hy with
            | p y' o' r' hr' =>
              refine fin false (retB_true h) (fun w => ?_) (by simp) (by simp) (by simp) (by simp)
              rw [run_equal _ _ w hd]
              unfold Op.equalIn
              simp only [Sem.run_bind, run_under hd, Result.andThen_ok]; rfl
            | pn =>
              refine fin true (retB_true h) (fun w => ?_) (by simp) (by simp) (by simp) (by simp)
              rw [run_equal _ _ w hd]
              unfold Op.equalIn
              simp only [Sem.run_bind, run_under hd, Result.andThen_ok]; rfl
            | _ => cases h
          | _ => cases h
    | slice el =>
      obtain ⟨a, b, ha, hb, hab, hk⟩ := nilEq_true nilSl_eq h
      obtain ⟨a', l, c, rfl, rfl⟩ := slNil_inv hx ha
      obtain ⟨b', l', c', rfl, rfl⟩ := slNil_inv hy hb
      exact fin _ hk (equal_slice hd hab) (by simp) (by simp) (by simp) (by simp)
    | map kt el =>
      obtain ⟨a, b, ha, hb, hab, hk⟩ := nilEq_true nilM_eq h
      obtain ⟨a', rfl, rfl⟩ := mNil_inv hx ha
      obtain ⟨b', rfl, rfl⟩ := mNil_inv hy hb
      exact fin _ hk (equal_map hd hab) (by simp) (by simp) (by simp) (by simp)
    | func ps rs vd =>
      obtain ⟨a, b, ha, hb, hab, hk⟩ := nilEq_true nilF_eq h
      rcases fNil_inv hx ha with ⟨rfl, rfl⟩ | ⟨rfl, f, a', b', rfl⟩ <;> rcases fNil_inv hy hb with ⟨rfl, rfl⟩ | ⟨rfl, f', a'', b'', rfl⟩
      · refine fin _ hk (fun w => ?_) (by simp) (by simp) (by simp) (by simp)
        rw [run_equal _ _ w hd]; unfold Op.equalIn; simp only [Sem.run_bind, run_under hd, Result.andThen_ok]; rfl
      · refine fin _ hk (fun w => ?_) (by simp) (by simp) (by simp) (by simp)
        rw [run_equal _ _ w hd]; unfold Op.equalIn; simp only [Sem.run_bind, run_under hd, Result.andThen_ok]; rfl
      · refine fin _ hk (fun w => ?_) (by simp) (by simp) (by simp) (by simp)
        rw [run_equal _ _ w hd]; unfold Op.equalIn; simp only [Sem.run_bind, run_under hd, Result.andThen_ok]; rfl
      · simp at hab
    | interface ms =>
      obtain ⟨a, b, ha, hb, hab, hk⟩ := nilEq_true nilIf_eq h
      rcases ifNil_inv hx ha with ⟨rfl, rfl⟩ | ⟨rfl, f, a', rfl⟩ <;> rcases ifNil_inv hy hb with ⟨rfl, rfl⟩ | ⟨rfl, f', a'', rfl⟩
      · refine fin _ hk (fun w => ?_) (by simp) (by simp) (by simp) (by simp)
        rw [run_equal _ _ w hd]; unfold Op.equalIn; simp only [Sem.run_bind, run_under hd, Result.andThen_ok]; rfl
      · refine fin _ hk (fun w => ?_) (by simp) (by simp) (by simp) (by simp)
        rw [run_equal _ _ w hd]; unfold Op.equalIn; simp only [Sem.run_bind, run_under hd, Result.andThen_ok]; rfl
      · refine fin _ hk (fun w => ?_) (by simp) (by simp) (by simp) (by simp)
        rw [run_equal _ _ w hd]; unfold Op.equalIn; simp only [Sem.run_bind, run_under hd, Result.andThen_ok]; rfl
      · simp at hab
    | _ => cases h
end Go.Ax

namespace Go.Ax
variable {P : Program}

theorem tdiv_lo (a b : Nat) : 0 ≤ IntKind.i64.wrap ((unb a).tdiv (unb b)) + (B63 : Nat) := wrap_lo _ _
theorem tmod_lo (a b : Nat) : 0 ≤ (unb a).tmod (unb b) + (B63 : Nat) := by
  have h := unb_lo a
  by_cases hz : 0 ≤ unb a
  · have := Int.tmod_nonneg (unb b) hz; omega
  · have h1 := Int.natAbs_tmod (unb a) (unb b)
    have h2 := Nat.mod_le (unb a).natAbs (unb b).natAbs
    omega
theorem fdiv_lo (a n : Nat) : 0 ≤ (unb a).fdiv (2 ^ n) + (B63 : Nat) := by
  have h := unb_lo a
  have hp : (0 : Int) < 2 ^ n := Int.pow_pos (by decide)
  rw [Int.fdiv_eq_ediv_of_nonneg _ (Int.le_of_lt hp)]
  have : -(B63 : Nat) ≤ unb a / 2 ^ n := by
    rw [Int.le_ediv_iff_mul_le hp]
    have h1 : (1 : Int) ≤ 2 ^ n := hp
    have h2 : (0 : Int) ≤ (B63 : Nat) := Int.natCast_nonneg _
    have h3 : (B63 : Nat) * (1 : Int) ≤ (B63 : Nat) * 2 ^ n := Int.mul_le_mul_of_nonneg_left h1 h2
    have h4 : -(B63 : Nat) * (2 : Int) ^ n = -((B63 : Nat) * 2 ^ n) := Int.neg_mul _ _
    rw [h4]; omega
  omega
theorem bits_lo (op : BinOp) (k : IntKind) (x y : Int) : 0 ≤ bitsI op k x y + (B63 : Nat) := by
  unfold bitsI
  cases op <;> exact wrap_lo _ _
theorem run_bits {op : BinOp} {k : IntKind} (x y : Int) (w : World) (h : op = .and ∨ op = .or ∨ op = .xor ∨ op = .andNot) : (Op.intBits op k x y).run P w = .ok (.int k (bitsI op k x y)) w := by
  rcases h with rfl | rfl | rfl | rfl <;> rfl

theorem VR.div_ne {θ : Th} {b : Nat} (h : Nat.beq b B63 = false) : unb b ≠ 0 := by
  intro e
  have : b ≠ B63 := fun hb => by rw [hb, Nat.beq_refl] at h; cases h
  unfold unb at e; omega

theorem iteK_false {c x : Bool} (h : iteK c false x = true) : c = false ∧ x = true := by
  rw [iteK_eq] at h; cases c <;> simp_all

theorem binV_val {θ : Th} {op : BinOp} {t : TypeId} {x y : V} {cx cy : Value} (hx : VR θ x cx) (hy : VR θ y cy) {k : V → Bool} (h : (binV P op t).f x y k = true) :
    Val P θ (binOp op t cx cy) k := by
  cases op with
  | eql => exact eqV_val (ne := false) hx hy h
  | neq => exact eqV_val (ne := true) hx hy h
  | lss => simp only [binV] at h; exact cmp_val (c := fun a b => decide (a < b)) lss_iff hx hy h (fun kd a b w => by simp [binOp, Op.intCmp])
  | leq => simp only [binV] at h; exact cmp_val (c := fun a b => decide (a ≤ b)) leq_iff hx hy h (fun kd a b w => by simp [binOp, Op.intCmp])
  | gtr => simp only [binV] at h; exact cmp_val (c := fun a b => decide (b < a)) (fun a b => lss_iff b a) hx hy h (fun kd a b w => by simp [binOp, Op.intCmp])
  | geq => simp only [binV] at h; exact cmp_val (c := fun a b => decide (b ≤ a)) (fun a b => leq_iff b a) hx hy h (fun kd a b w => by simp [binOp, Op.intCmp])
  | add =>
    have hnum : ariV (fun a b => Nat.mod (Nat.add (Nat.add a b) B63) B64) (fun kd a b => kd.wrap (a + b)) x y k = true → Val P θ (binOp .add t cx cy) k := fun h =>
      ari_val (g := fun kd a b => kd.wrap (a + b)) hx hy add64 (fun kd a b => wrap_lo _ _) h (fun kd a b w _ _ => by simp [binOp, Op.intArith])
    unfold binV at h
    cases hd : undF P t with
    | none => simp only [hd] at h; exact hnum h
    | some d =>
      simp only [hd] at h
      cases d with
      | string =>
        obtain ⟨l, a, rfl, h1⟩ := asS_true h
        obtain ⟨m, b, rfl, h2⟩ := asS_true h1
        obtain ⟨s, rfl, hs, hv, hsz⟩ := hx.str_inv
        obtain ⟨s', rfl, hs', hv', hsz'⟩ := hy.str_inv
        simp only [forceN_eq] at h2
        obtain ⟨h3, h4⟩ := iteK_true h2
        have h3' := ble_le h3
        rw [Nat.add_eq] at h3'
        have e1 : Nat.add l m = l + m := rfl
        have e2 : Nat.add a (Nat.mul b (Nat.pow 256 l)) = a + b * 256 ^ l := rfl
        rw [e1, e2] at h4
        have hlt : a + b * 256 ^ l < 256 ^ (l + m) := by
          rw [Nat.pow_add]
          have h5 : b * 256 ^ l + 256 ^ l ≤ 256 ^ l * 256 ^ m := by
            have : b + 1 ≤ 256 ^ m := hv'
            calc b * 256 ^ l + 256 ^ l = (b + 1) * 256 ^ l := by rw [Nat.add_mul, Nat.one_mul]
              _ ≤ 256 ^ m * 256 ^ l := Nat.mul_le_mul_right _ this
              _ = 256 ^ l * 256 ^ m := Nat.mul_comm _ _
          omega
        refine .ret h4 (VR.str_mk (s := s ++ s') (by rw [ByteArray.data_append, Array.toList_append, hs, hs', unnum_append l m a b hv]) hlt) fun w => ?_
        have hm : ¬ (((s.size + s'.size : Nat) : Int) > IntKind.i64.max) := by
          have : IntKind.i64.max = 9223372036854775807 := by decide
          rw [this, hsz, hsz']; omega
        simp only [binOp, Op.stringOp]
        rw [if_neg hm]; rfl
      | _ => exact hnum h
  | sub => simp only [binV] at h; exact ari_val (g := fun kd a b => kd.wrap (a - b)) hx hy sub64 (fun kd a b => wrap_lo _ _) h (fun kd a b w _ _ => by simp [binOp, Op.intArith])
  | mul => simp only [binV] at h; exact ari_val (g := fun kd a b => kd.wrap (a * b)) hx hy (fun a b => unb_bia (wrap_lo _ _)) (fun kd a b => wrap_lo _ _) h (fun kd a b w _ _ => by simp [binOp, Op.intArith])
  | quo =>
    simp only [binV] at h
    obtain ⟨kd, kd', a, b, rfl, rfl, h1⟩ := twoN_true hx hy h
    obtain ⟨h2, h3⟩ := iteK_false h1
    exact ari_val (g := fun kd a b => kd.wrap (a.tdiv b)) hx hy (fun a b => unb_bia (wrap_lo _ _)) (fun kd a b => wrap_lo _ _) h3 (fun kd a b w e1 e2 => by
      injection e2 with _ e2; subst e2
      simp [binOp, Op.intDiv, VR.div_ne (θ := θ) h2])
  | rem =>
    simp only [binV] at h
    obtain ⟨kd, kd', a, b, rfl, rfl, h1⟩ := twoN_true hx hy h
    obtain ⟨h2, h3⟩ := iteK_false h1
    exact ari_val (g := fun _ a b => a.tmod b) hx hy (fun a b => unb_bia (tmod_lo _ _)) (fun kd a b => tmod_lo _ _) h3 (fun kd a b w e1 e2 => by
      injection e2 with _ e2; subst e2
      simp [binOp, Op.intDiv, VR.div_ne (θ := θ) h2])
  | and => simp only [binV] at h; exact ari_val (g := bitsI .and) hx hy (fun a b => unb_bia (bits_lo _ _ _ _)) (fun kd a b => bits_lo _ _ _ _) h (fun kd a b w _ _ => by simp [binOp, run_bits])
  | or => simp only [binV] at h; exact ari_val (g := bitsI .or) hx hy (fun a b => unb_bia (bits_lo _ _ _ _)) (fun kd a b => bits_lo _ _ _ _) h (fun kd a b w _ _ => by simp [binOp, run_bits])
  | xor => simp only [binV] at h; exact ari_val (g := bitsI .xor) hx hy (fun a b => unb_bia (bits_lo _ _ _ _)) (fun kd a b => bits_lo _ _ _ _) h (fun kd a b w _ _ => by simp [binOp, run_bits])
  | andNot => simp only [binV] at h; exact ari_val (g := bitsI .andNot) hx hy (fun a b => unb_bia (bits_lo _ _ _ _)) (fun kd a b => bits_lo _ _ _ _) h (fun kd a b w _ _ => by simp [binOp, run_bits])
  | shl =>
    simp only [binV] at h
    obtain ⟨kd, kd', a, b, rfl, rfl, h1⟩ := twoN_true hx hy h
    obtain ⟨h2, h3⟩ := iteK_true h1
    obtain ⟨v, hk, hv⟩ := mkI_true (θ := θ) h3
    have hb := unb_sub (ble_le h2)
    rw [unb_bia (wrap_lo _ _)] at hv
    refine .ret hk hv fun w => ?_
    have h0 : ¬ unb b < 0 := by rw [hb]; omega
    have e1 : (unb b).toNat = b - B63 := by rw [hb]; omega
    simp [binOp, Op.shift, h0, e1]
  | shr =>
    simp only [binV] at h
    obtain ⟨kd, kd', a, b, rfl, rfl, h1⟩ := twoN_true hx hy h
    obtain ⟨h2, h3⟩ := iteK_true h1
    obtain ⟨v, hk, hv⟩ := mkI_true (θ := θ) h3
    have hb := unb_sub (ble_le h2)
    rw [unb_bia (fdiv_lo _ _)] at hv
    refine .ret hk hv fun w => ?_
    have h0 : ¬ unb b < 0 := by rw [hb]; omega
    have e1 : (unb b).toNat = b - B63 := by rw [hb]; omega
    simp [binOp, Op.shift, h0, e1]

theorem asN_true {v : V} {k : Nat → Bool} {k' : IntKind → Nat → Bool} (h : asN v k k' false = true) : (∃ n, v = .i n ∧ k n = true) ∨ (∃ kd n, v = .u kd n ∧ k' kd n = true) := by
  rw [asN_eq] at h; cases v <;> first | exact .inl ⟨_, rfl, h⟩ | exact .inr ⟨_, _, rfl, h⟩ | cases h

theorem unV_val {θ : Th} {op : UnOp} {x : V} {cx : Value} (hx : VR θ x cx) {k : V → Bool} (h : (unV op).f x k = true) : Val P θ (Op.unary op cx) k := by
  cases op with
  | plus => cases h
  | not =>
    obtain ⟨a, rfl, h1⟩ := asB_true h
    rw [forceB_eq] at h1
    cases hx
    exact .ret h1 (.b _) fun w => rfl
  | neg =>
    rcases asN_true h with ⟨n, rfl, h1⟩ | ⟨kd, n, rfl, h1⟩
    · rw [forceN_eq] at h1
      cases hx
      refine .ret h1 (.i _) fun w => ?_
      rw [neg64]; rfl
    · rw [forceN_eq] at h1
      cases hx
      exact .ret h1 (VR.int kd _ (wrap_lo _ _)) fun w => rfl
  | xor =>
    rcases asN_true h with ⟨n, rfl, h1⟩ | ⟨kd, n, rfl, h1⟩
    · rw [forceN_eq] at h1
      cases hx
      exact .ret h1 (VR.int64 _ (bits_lo _ _ _ _)) fun w => rfl
    · rw [forceN_eq] at h1
      cases hx
      exact .ret h1 (VR.int kd _ (bits_lo _ _ _ _)) fun w => rfl
end Go.Ax

namespace Go.Ax
variable {P : Program}

theorem eqV_ifn {ne : Bool} {t : TypeId} {k : V → Bool} (h : (eqV P ne t).f .ifn .ifn k = true) : ∃ ms, undF P t = some (.interface ms) := by
  unfold eqV at h
  cases hd : undF P t with
  | none => simp only [hd] at h; cases h
  | some d =>
    simp only [hd] at h
    cases d with
    | interface ms => exact ⟨ms, rfl⟩
    | int kd => cases ne <;> cases h
    | pointer el =>
      simp only at h
      cases hz : sizeT P el with
      | none => simp only [hz] at h; cases h
      | some n => simp only [hz] at h; cases n <;> cases h
    | _ => cases h
theorem eqV_agg {ne : Bool} {t : TypeId} {k : V → Bool} {n : Nat} {tr : PT V} {y : V} (h : (eqV P ne t).f (.agg n tr) y k = true) : False := by
  unfold eqV at h
  cases hd : undF P t with
  | none => simp only [hd] at h; cases h
  | some d =>
    simp only [hd] at h
    cases d with
    | int kd => cases ne <;> cases h
    | pointer el =>
      simp only at h
      cases hz : sizeT P el with
      | none => simp only [hz] at h; cases h
      | some n => simp only [hz] at h; cases n <;> cases h
    | _ => cases h

theorem eqGuard_ok {θ : Th} {op : BinOp} {t : TypeId} {X Y : Operand} {x y : V} {cx cy : Value} (hx : VR θ x cx) (hy : VR θ y cy) {k : V → Bool} (h : (binV P op t).f x y k = true)
    (hi : ifaceOk P t X Y = true) (w : World) : (eqGuard op t X Y cx cy).run P w = .ok () w := by
  have hne : op = .eql ∨ op = .neq ∨ (op ≠ .eql ∧ op ≠ .neq) := by cases op <;> simp
  have key : ∀ ne, (eqV P ne t).f x y k = true → (op = .eql ∨ op = .neq) → (eqGuard op t X Y cx cy).run P w = .ok () w := by
    intro ne h hop
    clear hne
    cases hx with
    | ifn =>
      cases hy with
      | ifn =>
        obtain ⟨ms, hms⟩ := eqV_ifn h
        unfold ifaceOk at hi
        simp only [hms] at hi
        rcases hop with rfl | rfl
        · cases X <;> cases Y <;> first | (simp [eqGuard]; done) | (simp at hi; done)
        · cases X <;> cases Y <;> first | (simp [eqGuard]; done) | (simp at hi; done)
      | _ => rcases hop with rfl | rfl <;> simp [eqGuard]
    | agg n tr cs hn hj hv hf => exact (eqV_agg h).elim
    | _ => rcases hop with rfl | rfl <;> simp [eqGuard]
  rcases hne with rfl | rfl | ⟨h1, h2⟩
  · exact key false h (.inl rfl)
  · exact key true h (.inr rfl)
  · cases op <;> first | (exact absurd rfl h1) | (exact absurd rfl h2) | simp [eqGuard]

/-- what a pure operation comes to -/
def PureOk (P : Program) (θ : Th) (a : Act) (o : Oper) (k : V → Bool) : Prop := ∃ v cv, k v = true ∧ VR θ v cv ∧ ∀ w, (execOp a.eval o).run P w = .ok (.value cv) w
theorem PureOk.of_val {θ : Th} {a : Act} {o : Oper} {k : V → Bool} {s : Sem Value} (h : Val P θ s k) (he : execOp a.eval o = (do pure (.value (← s)))) : PureOk P θ a o k := by
  obtain ⟨v, cv, h1, h2, h3⟩ := h
  exact ⟨v, cv, h1, h2, fun w => by rw [he]; simp [h3]⟩

theorem fieldT_some {t : TypeId} {i : Nat} {off sz : Nat} {ag : Bool} (h : fieldT P t i = some (off, sz, ag)) :
    ∃ fs f, undF P t = some (.struct fs) ∧ fs[i]? = some f ∧ f.offset = off ∧ sizeT P f.type = some sz ∧ aggT P f.type = some ag := by
  unfold fieldT at h
  split at h
  · rename_i fs hd
    split at h
    · rename_i f hf
      split at h
      · rename_i s a hs ha
        simp only [Option.some.injEq, Prod.mk.injEq] at h
        obtain ⟨rfl, rfl, rfl⟩ := h
        exact ⟨fs, f, hd, hf, rfl, hs, ha⟩
      · cases h
    · cases h
  · cases h

/-- a tree of cells and the cells -/
def TR (θ : Th) (n : Nat) (t : PT V) (cs : Array Value) : Prop := cs.size = n ∧ Flat cs ∧ ∀ j v, t.get j = some v → j < n ∧ VR θ v (cs.getD j Go.undef)
theorem VR.agg_inv {θ : Th} {n : Nat} {t : PT V} {cv : Value} (h : VR θ (.agg n t) cv) : ∃ cs : Array Value, cv = .agg cs ∧ TR θ n t cs := by
  cases h with
  | agg _ _ cs hn hj h hf => exact ⟨cs, rfl, hn, hf, fun j v hv => ⟨hj j v hv, h j v hv⟩⟩
theorem VR.agg_mk {θ : Th} {n : Nat} {t : PT V} {cs : Array Value} (h : TR θ n t cs) : VR θ (.agg n t) (.agg cs) :=
  .agg _ _ _ h.1 (fun j v hj => (h.2.2 j v hj).1) (fun j v hj => (h.2.2 j v hj).2) h.2.1
theorem Flat.extract {cs : Array Value} (h : Flat cs) (i j : Nat) : Flat (cs.extract i j) := fun v hv => h v (by
  rw [Array.toList_extract] at hv
  exact List.mem_of_mem_drop (List.mem_of_mem_take hv) |> fun h => h)

/-- a part of a tree stands for the part of the cells -/
theorem sub_ok {θ : Th} {sz n off : Nat} {t t' : PT V} {cs : Array Value} (hn : cs.size = n) (h : ∀ j v, t.get j = some v → j < n ∧ VR θ v (cs.getD j Go.undef)) (hs : PT.sub sz n t off = some t') :
    (0 < sz → off + sz ≤ n) ∧ ∀ j v, t'.get j = some v → j < sz ∧ VR θ v (cs.getD (off + j) Go.undef) := by
  unfold PT.sub at hs
  cases hc : (Nat.beq n sz && Nat.beq off 0) with
  | true =>
    rw [hc, cond_true] at hs
    simp only [Bool.and_eq_true, Nat.beq_eq] at hc
    obtain ⟨rfl, rfl⟩ := hc
    simp only [Option.some.injEq] at hs
    subst hs
    exact ⟨fun _ => by omega, fun j v hj => by simpa using h j v hj⟩
  | false =>
    rw [hc, cond_false] at hs
    refine ⟨fun hp => ?_, fun j v hj => ?_⟩
    · cases sz with
      | zero => omega
      | succ sz =>
        obtain ⟨v, hv⟩ := PT.move_has t _ _ _ _ _ hs sz (by omega)
        have := (h _ _ hv).1
        omega
    · rw [PT.get_move t _ _ _ _ _ hs j] at hj
      by_cases hj' : 0 ≤ j ∧ j < 0 + sz
      · rw [if_pos hj'] at hj
        have := h _ _ hj
        simp only [Nat.sub_zero] at this
        exact ⟨by omega, this.2⟩
      · rw [if_neg hj', PT.get_nil] at hj; cases hj
end Go.Ax

namespace Go.Ax
variable {P : Program}

theorem Addr.add_of (r o d : Nat) : ({ block := r, off := o, spot := none } : Addr).add d = { block := r, off := o + d, spot := none } := by
  unfold Addr.add
  split
  · rename_i h; subst h; rfl
  · rfl

theorem idx_run {kd : IntKind} {i : Nat} (w : World) : (asIntOf (.int kd (i : Int))).run P w = .ok (kd, (i : Int)) w := rfl

theorem argD_some {c : Call} {i : Nat} {d : TypeDesc} (h : argD P c i = some d) : ∃ t, c.argTypes[i]? = some t ∧ undF P t = some d := by
  unfold argD at h
  rw [nthL_eq] at h
  split at h
  · rename_i t ht; exact ⟨t, by simpa using ht, h⟩
  · cases h

section
variable {θ : Th} {e : Env} {a : Act}

theorem ok_move {o : Oper} {x : Operand} (ho : o.op = .move x ∨ o.op = .assign x) (hx : VR θ (opnd e x) (a.eval x)) {k : V → Bool} (h : (opndC x).f e k = true) : PureOk P θ a o k := by
  rw [opndC_eq] at h
  refine ⟨_, _, h, hx, fun w => ?_⟩
  unfold execOp
  rcases ho with ho | ho <;> rw [ho] <;> rfl

theorem ok_pick {o : Oper} {c x y : Operand} (ho : o.op = .pick c x y) (hc : VR θ (opnd e c) (a.eval c)) (hx : VR θ (opnd e x) (a.eval x)) (hy : VR θ (opnd e y) (a.eval y)) {k : V → Bool} (h : (pureC P o.op).f e k = true) : PureOk P θ a o k := by
  rw [ho] at h
  simp only [pureC, Clo.on_f, opndC_eq] at h
  obtain ⟨q, hq, h1⟩ := asB_true h
  rw [hq] at hc
  rw [iteK_eq] at h1
  generalize hcv : a.eval c = cv at hc
  cases hc
  cases q with
  | true => exact ⟨_, _, h1, hx, fun w => by unfold execOp; rw [ho]; simp [hcv, asBool]⟩
  | false => exact ⟨_, _, h1, hy, fun w => by unfold execOp; rw [ho]; simp [hcv, asBool]⟩

theorem ok_binOp {o : Oper} {op : BinOp} {t ty : TypeId} {x y : Operand} (ho : o.op = .binOp op t x y ty) (hx : VR θ (opnd e x) (a.eval x)) (hy : VR θ (opnd e y) (a.eval y)) {k : V → Bool} (h : (pureC P o.op).f e k = true) : PureOk P θ a o k := by
  rw [ho] at h
  unfold pureC at h
  simp only at h
  cases hi : ifaceOk P t x y with
  | false => rw [hi] at h; cases h
  | true =>
    rw [hi, cond_true] at h
    simp only [Clo.on_f, opndC_eq] at h
    obtain ⟨v, cv, h1, h2, h3⟩ := binV_val hx hy h
    refine ⟨v, cv, h1, h2, fun w => ?_⟩
    unfold execOp
    rw [ho]
    simp [eqGuard_ok hx hy h hi, h3]

theorem ok_unOp {o : Oper} {op : UnOp} {t : TypeId} {x : Operand} (ho : o.op = .unOp op t x) (hx : VR θ (opnd e x) (a.eval x)) {k : V → Bool} (h : (pureC P o.op).f e k = true) : PureOk P θ a o k := by
  rw [ho] at h
  simp only [pureC, Clo.on_f, opndC_eq] at h
  exact PureOk.of_val (unV_val hx h) (by unfold execOp; rw [ho])

theorem ok_nilCheck {o : Oper} {x : Operand} (ho : o.op = .nilCheck x) (hx : VR θ (opnd e x) (a.eval x)) {k : V → Bool} (h : (pureC P o.op).f e k = true) : PureOk P θ a o k := by
  rw [ho] at h
  simp only [pureC, Clo.on_f, opndC_eq] at h
  obtain ⟨h1, h2⟩ := thereK_true h
  refine ⟨_, _, h2, hx, fun w => ?_⟩
  obtain ⟨dst, op, ty, pos, aft, g⟩ := o
  simp only at ho
  subst ho
  simp only [execOp]
  generalize opnd e x = v at hx h1
  generalize a.eval x = cv at hx
  cases hx <;> first | rfl | cases h1

theorem ok_convert {o : Oper} {s d : TypeId} {x : Operand} (ho : o.op = .convert s d x) (hx : VR θ (opnd e x) (a.eval x)) {k : V → Bool} (h : (pureC P o.op).f e k = true) : PureOk P θ a o k := by
  rw [ho] at h
  unfold pureC at h
  simp only at h
  cases hs : undF P s with
  | none => simp only [hs] at h; cases h
  | some ds =>
    cases hd : undF P d with
    | none => simp only [hs, hd] at h; cases ds <;> cases h
    | some dd =>
      simp only [hs, hd] at h
      have run : ∀ w, (execOp a.eval o).run P w = ((convert s d (a.eval x)).run P w).andThen (fun v w' => .ok (.value v) w') := by
        intro w; unfold execOp; rw [ho]; simp
      cases ds with
      | int ks =>
        cases dd with
        | int kd =>
          have conv : ∀ (kk : IntKind) (z : Int) w, (convert s d (.int kk z)).run P w = .ok (.int kd (kd.wrap z)) w := by
            intro kk z w
            simp only [convert, Sem.run_bind, run_under hs, run_under hd, Result.andThen_ok]; rfl
          by_cases h64 : kd = .i64
          · subst h64
            simp only [Clo.on_f, opndC_eq, forceN_eq] at h
            rcases asN_true h with ⟨n, hn, h1⟩ | ⟨kk, n, hn, h1⟩
            · rw [hn] at hx
              generalize hcv : a.eval x = cv at hx
              cases hx
              exact ⟨_, _, h1, .i _, fun w => by rw [run, hcv, conv, conv64]; rfl⟩
            · rw [hn] at hx
              generalize hcv : a.eval x = cv at hx
              cases hx
              exact ⟨_, _, h1, .i _, fun w => by rw [run, hcv, conv, conv64]; rfl⟩
          · have h' : asN (opnd e x) (fun n => k (.u kd (bia (kd.wrap (unb n))))) (fun _ n => k (.u kd (bia (kd.wrap (unb n))))) false = true := by
              cases kd <;> first | (exact absurd rfl h64) | (simp only [Clo.on_f, opndC_eq, forceN_eq] at h; exact h)
            rcases asN_true h' with ⟨n, hn, h1⟩ | ⟨kk, n, hn, h1⟩
            · rw [hn] at hx
              generalize hcv : a.eval x = cv at hx
              cases hx
              exact ⟨_, _, h1, VR.int kd _ (wrap_lo _ _), fun w => by rw [run, hcv, conv]; rfl⟩
            · rw [hn] at hx
              generalize hcv : a.eval x = cv at hx
              cases hx
              exact ⟨_, _, h1, VR.int kd _ (wrap_lo _ _), fun w => by rw [run, hcv, conv]; rfl⟩
        | _ => cases h
      | string =>
        cases dd with
        | string =>
          simp only [Clo.on_f, opndC_eq] at h
          obtain ⟨l, v, hlv, h1⟩ := asS_true h
          rw [hlv] at hx
          generalize hcv : a.eval x = cv at hx
          have hx' := hx
          cases hx
          refine ⟨_, _, h1, hx', fun w => ?_⟩
          rw [run, hcv]
          simp only [convert, Sem.run_bind, run_under hs, run_under hd, Result.andThen_ok]; rfl
        | _ => cases h
      | _ => cases h

theorem ok_fieldAddr {o : Oper} {s : TypeId} {x : Operand} {i : Nat} (ho : o.op = .fieldAddr s x i) (hx : VR θ (opnd e x) (a.eval x)) {k : V → Bool} (h : (pureC P o.op).f e k = true) : PureOk P θ a o k := by
  rw [ho] at h
  unfold pureC at h
  simp only at h
  cases hf : fieldT P s i with
  | none => simp only [hf] at h; cases h
  | some p =>
    obtain ⟨off, sz, ag⟩ := p
    obtain ⟨fs, f, hd, hfi, rfl, hsz, hag⟩ := fieldT_some hf
    cases sz with
    | zero =>
      simp only [hf] at h
      cases hofs : f.offset <;> (rw [hofs] at h; cases h)
    | succ sz =>
      have h' : asP (opnd e x) (fun b o => k (.p b (o + f.offset))) false = true := by
        simp only [hf] at h
        cases hofs : f.offset with
        | zero => simp only [hofs, Clo.on_f, opndC_eq] at h; simpa using h
        | succ d => simp only [hofs, Clo.on_f, opndC_eq, forceN_eq] at h; exact h
      obtain ⟨b, o', hb, h1⟩ := asP_true h'
      rw [hb] at hx
      generalize hcv : a.eval x = cv at hx
      cases hx with
      | p _ _ r hr =>
        refine ⟨_, _, h1, .p b (o' + f.offset) r hr, fun w => ?_⟩
        unfold execOp
        rw [ho]
        simp [Instr.fieldAt, run_under hd, hfi, hcv, Instr.sureAddr, fieldPlace, run_sizeOf hsz, Addr.add_of]

theorem ok_extract {o : Oper} {x : Operand} {i : Nat} (ho : o.op = .extract x i) (hx : VR θ (opnd e x) (a.eval x)) {k : V → Bool} (h : (pureC P o.op).f e k = true) : PureOk P θ a o k := by
  rw [ho] at h
  simp only [pureC, Clo.on_f, opndC_eq] at h
  obtain ⟨l, hl, h1⟩ := asTup_true h
  obtain ⟨v, hv, h2⟩ := vnthK_true h1
  rw [hl] at hx
  generalize hcv : a.eval x = cv at hx
  cases hx with
  | tup _ vs hvs =>
    have nth : ∀ (l : V) (vs : List Value) (i : Nat) (v : V), VRL θ l vs → l.nth i = some v → ∃ cv, vs[i]? = some cv ∧ VR θ v cv := by
      intro l vs i v hl hn
      induction i generalizing l vs with
      | zero => cases hl with
        | nil => cases hn
        | cons h t u us hu ht => simp only [V.nth, Option.some.injEq] at hn; subst hn; exact ⟨u, rfl, hu⟩
      | succ i ih => cases hl with
        | nil => cases hn
        | cons h t u us hu ht =>
          obtain ⟨cv, h1, h2⟩ := ih t us ht hn
          exact ⟨cv, by simpa using h1, h2⟩
    obtain ⟨cv, hcv', hvr⟩ := nth l vs.toList i v hvs hv
    have hcv'' : vs[i]? = some cv := by simpa using hcv'
    refine ⟨_, _, h2, hvr, fun w => ?_⟩
    unfold execOp
    rw [ho]
    simp [Instr.extract, hcv, hcv'']
end
end Go.Ax

namespace Go.Ax
variable {P : Program}

/-- the run of 'v s' -/
theorem run_v {s : Sem Value} {cv : Value} {w w' : World} (h : s.run P w = .ok cv w') : (do pure (Next.value (← s)) : Sem Next).run P w = .ok (.value cv) w' := by simp [h]

theorem run_part {t : TypeId} {cs : Array Value} {n : Nat} {off sz : Nat} {ag : Bool} (hs : sizeT P t = some sz) (ha : aggT P t = some ag) (w : World) :
    (part t cs off).run P w = if ag then .ok (.agg (cs.extract off (off + sz))) w else (match cs[off]? with | some v => .ok v w | none => (part t cs off).run P w) := by
  cases ag with
  | true =>
    rw [if_pos rfl]
    unfold part
    simp only [Sem.run_bind, run_isAgg ha, Result.andThen_ok]
    simp [run_sizeOf hs]
  | false =>
    rw [if_neg (by decide)]
    cases hq : cs[off]? with
    | none => rfl
    | some v =>
      unfold part
      simp only [Sem.run_bind, run_isAgg ha, Result.andThen_ok, Bool.false_eq_true, if_false, hq]
      rfl

theorem partK_ok {θ : Th} {n : Nat} {t : PT V} {off sz : Nat} {ag : Bool} {k : V → Bool} {cs : Array Value} (htr : TR θ n t cs)
    (hk : partK n t off sz ag k false = true) {ty : TypeId} (hs : sizeT P ty = some sz) (ha : aggT P ty = some ag) : Val P θ (part ty cs off) k := by
  obtain ⟨hn, hfl, h⟩ := htr
  unfold partK at hk
  rw [iteK_eq] at hk
  cases ag with
  | true =>
    obtain ⟨t', ht, h1⟩ := subK_true hk
    obtain ⟨h2, h3⟩ := sub_ok hn h ht
    refine .ret h1 (VR.agg_mk (cs := cs.extract off (off + sz)) ⟨?_, hfl.extract _ _, fun j v hj => ⟨(h3 j v hj).1, ?_⟩⟩) fun w => by rw [run_part (n := n) hs ha]; rfl
    · simp only [Array.size_extract]
      by_cases hp : 0 < sz
      · have := h2 hp; omega
      · omega
    · have hj' := (h3 j v hj).1
      have := h2 (by omega)
      have := (h3 j v hj).2
      rw [Array.getD_eq_getD_getElem?, Array.getElem?_extract, if_pos (by omega)]
      rwa [Array.getD_eq_getD_getElem?] at this
  | false =>
    obtain ⟨v, hv, h1⟩ := getK_true hk
    obtain ⟨h2, h3⟩ := h _ _ hv
    have e : cs[off]? = some (cs.getD off Go.undef) := by
      rw [Array.getD_eq_getD_getElem?, Array.getElem?_eq_getElem (by omega)]; rfl
    exact .ret h1 h3 fun w => by rw [run_part (n := n) hs ha]; simp only [Bool.false_eq_true, if_false, e]

section
variable {θ : Th} {e : Env} {a : Act}

theorem ok_field {o : Oper} {s : TypeId} {x : Operand} {i : Nat} (ho : o.op = .field s x i) (hx : VR θ (opnd e x) (a.eval x)) {k : V → Bool} (h : (pureC P o.op).f e k = true) : PureOk P θ a o k := by
  rw [ho] at h
  unfold pureC at h
  simp only at h
  cases hf : fieldT P s i with
  | none => simp only [hf] at h; cases h
  | some p =>
    obtain ⟨off, sz, ag⟩ := p
    obtain ⟨fs, f, hd, hfi, rfl, hsz, hag⟩ := fieldT_some hf
    simp only [hf, Clo.on_f, opndC_eq] at h
    obtain ⟨n, t, hnt, h1⟩ := asAgg_true h
    rw [hnt] at hx
    generalize hcv : a.eval x = cv at hx
    obtain ⟨cs, rfl, htr⟩ := hx.agg_inv
    obtain ⟨v, cv, hk, hv, hr⟩ := partK_ok htr h1 hsz hag
    refine ⟨v, cv, hk, hv, fun w => ?_⟩
    unfold execOp
    rw [ho]
    exact run_v (by simp only [Instr.field, Sem.run_bind, run_under hd, Result.andThen_ok, hfi, hcv, _root_.Go.asAgg, Sem.run_pure, hr])

theorem ok_index {o : Oper} {t : TypeId} {x ix : Operand} (ho : o.op = .index t x ix) (hx : VR θ (opnd e x) (a.eval x)) (hi : VR θ (opnd e ix) (a.eval ix)) {k : V → Bool} (h : (pureC P o.op).f e k = true) : PureOk P θ a o k := by
  rw [ho] at h
  unfold pureC at h
  simp only at h
  cases hd : undF P t with
  | none => simp only [hd] at h; cases h
  | some d =>
    simp only [hd] at h
    cases d with
    | string =>
      simp only [Clo.on_f, opndC_eq, forceN_eq] at h
      obtain ⟨l, v, hlv, h1⟩ := asS_true h
      obtain ⟨kd, i, hie, hil, h2⟩ := idxK_true hi h1
      obtain ⟨h3, h4⟩ := iteK_true h2
      have h3' : i < l := ble_le h3
      rw [hlv] at hx
      generalize hcv : a.eval x = cv at hx
      obtain ⟨s, rfl, hs, hv, hsz⟩ := hx.str_inv
      have hb : s[i]? = some (UInt8.ofNat (v / 256 ^ i % 256)) := by
        have := unnum_get l v i h3'
        rw [← hs] at this
        have e1 : s[i]? = s.data[i]? := by
          simp only [getElem?_def, ByteArray.getElem_eq_getElem_data]
          rfl
        rw [e1]; simpa using this
      refine ⟨_, _, h4, .u .u8 _, fun w => ?_⟩
      unfold execOp
      rw [ho]
      refine run_v ?_
      have h0 : (0 : Int) ≤ (i : Int) := Int.natCast_nonneg i
      have hval : unb (Nat.add B63 (Nat.mod (Nat.shiftRight v (Nat.mul 8 i)) 256)) = ((UInt8.ofNat (v / 256 ^ i % 256)).toNat : Int) := by
        rw [shift_div, modEq, Nat.add_eq]
        have m1 : v / 256 ^ i % 256 < 256 := Nat.mod_lt _ (by decide)
        have m2 : (UInt8.ofNat (v / 256 ^ i % 256)).toNat = v / 256 ^ i % 256 := by
          simp only [UInt8.toNat_ofNat']; exact Nat.mod_eq_of_lt m1
        rw [m2]; unfold unb; omega
      simp only [Instr.index, hie, Sem.run_bind, idx_run, Result.andThen_ok, run_under hd, hcv, h0, if_true, Int.toNat_natCast, hb, Sem.run_pure, hval]
    | array len el =>
      cases hsz : sizeT P el with
      | none => simp only [hsz] at h; cases h
      | some sz =>
        cases hag : aggT P el with
        | none => simp only [hsz, hag] at h; cases h
        | some ag =>
          simp only [hsz, hag, Clo.on_f, opndC_eq, forceN_eq] at h
          obtain ⟨n, c, hnc, h1⟩ := asAgg_true h
          obtain ⟨kd, i, hie, hil, h2⟩ := idxK_true hi h1
          obtain ⟨h3, h4⟩ := iteK_true h2
          have h3' : i < len := ble_le h3
          rw [hnc] at hx
          generalize hcv : a.eval x = cv at hx
          obtain ⟨cs, rfl, htr⟩ := hx.agg_inv
          obtain ⟨v, cv, hk, hv, hr⟩ := partK_ok htr h4 hsz hag
          refine ⟨v, cv, hk, hv, fun w => ?_⟩
          unfold execOp
          rw [ho]
          refine run_v ?_
          have h0 : (0 : Int) ≤ (i : Int) ∧ (i : Int) < (len : Int) := ⟨Int.natCast_nonneg i, by omega⟩
          have hr' := hr w
          simp only [Instr.index, hie, Sem.run_bind, idx_run, Result.andThen_ok, run_under hd, hcv, h0, and_self, if_true, Int.toNat_natCast, run_sizeOf hsz]
          exact hr'
    | _ => cases h

theorem ok_indexAddr {o : Oper} {t : TypeId} {x ix : Operand} (ho : o.op = .indexAddr t x ix) (hx : VR θ (opnd e x) (a.eval x)) (hi : VR θ (opnd e ix) (a.eval ix)) {k : V → Bool} (h : (pureC P o.op).f e k = true) : PureOk P θ a o k := by
  rw [ho] at h
  unfold pureC at h
  simp only at h
  cases hd : undF P t with
  | none => simp only [hd] at h; cases h
  | some d =>
    simp only [hd] at h
    cases d with
    | slice el =>
      cases hsz : sizeT P el with
      | none => simp only [hsz] at h; cases h
      | some sz =>
        simp only [hsz, Clo.on_f, opndC_eq, forceN_eq] at h
        rw [asSl_eq] at h
        generalize hxv : opnd e x = v at h hx
        generalize hcv : a.eval x = cv at hx
        have fin : ∀ (b : A) (o' l r cp : Nat) (i : Nat) (kd : IntKind), θ.ρ b = some r → cv = .slice (some ⟨r, o', none⟩) l cp → a.eval ix = .int kd i → i < l → k (.p b (Nat.add o' (Nat.mul i sz))) = true → PureOk P θ a o k := by
          intro b o' l r cp i kd hr hcv' hie hlt hk
          refine ⟨_, _, hk, .p _ _ r hr, fun w => ?_⟩
          unfold execOp
          rw [ho]
          refine run_v ?_
          have h0 : (0 : Int) ≤ (i : Int) ∧ (i : Int) < (l : Int) := ⟨Int.natCast_nonneg i, by omega⟩
          simp only [Instr.indexAt, hie, Sem.run_bind, idx_run, Result.andThen_ok, run_under hd, hcv, hcv', Sem.run_pure, h0, and_self, if_true, Int.toNat_natCast, run_sizeOf hsz, Addr.add_of]
          rfl
        cases hx with
        | slk b o' l c r hr hl =>
          simp only at h
          obtain ⟨kd, i, hie, hil, h2⟩ := idxK_true hi h
          obtain ⟨h3, h4⟩ := iteK_true h2
          exact fin _ _ _ _ _ _ _ hr rfl hie (ble_le h3) h4
        | slu b o' l c r hr hl =>
          simp only at h
          obtain ⟨kd, i, hie, hil, h2⟩ := idxK_true hi h
          obtain ⟨h3, h4⟩ := iteK_true h2
          exact fin _ _ _ _ _ _ _ hr rfl hie (ble_le h3) h4
        | _ => cases h
    | array len el =>
      cases hsz : sizeT P el with
      | none => simp only [hsz] at h; cases h
      | some sz =>
        simp only [hsz, Clo.on_f, opndC_eq, forceN_eq] at h
        obtain ⟨b, o', hb, h1⟩ := asP_true h
        obtain ⟨kd, i, hie, hil, h2⟩ := idxK_true hi h1
        obtain ⟨h3, h4⟩ := iteK_true h2
        have h3' : i < len := ble_le h3
        rw [hb] at hx
        generalize hcv : a.eval x = cv at hx
        cases hx with
        | p _ _ r hr =>
          refine ⟨_, _, h4, .p _ _ r hr, fun w => ?_⟩
          unfold execOp
          rw [ho]
          refine run_v ?_
          have h0 : (0 : Int) ≤ (i : Int) ∧ (i : Int) < (len : Int) := ⟨Int.natCast_nonneg i, by omega⟩
          simp only [Instr.indexAt, hie, Sem.run_bind, idx_run, Result.andThen_ok, run_under hd, hcv, Instr.sureAddr, Sem.run_pure, h0, and_self, if_true, Int.toNat_natCast, run_sizeOf hsz, Addr.add_of]
          rfl
    | _ => cases h

theorem list_VRL (l : List Operand) (h : ∀ x ∈ l, VR θ (opnd e x) (a.eval x)) : VRL θ (l.foldr (fun x t => .cons (opnd e x) t) .nil) (l.map a.eval) := by
  induction l with
  | nil => exact .nil
  | cons x l ih => exact .cons _ _ _ _ (h x (by simp)) (ih fun y hy => h y (by simp [hy]))

theorem ok_makeFunc {o : Oper} {g : FuncId} {first cap : Array Operand} (ho : o.op = .makeFunc (.func g) first cap) (hf : ∀ x ∈ first.toList, VR θ (opnd e x) (a.eval x)) (hc : ∀ x ∈ cap.toList, VR θ (opnd e x) (a.eval x))
    {k : V → Bool} (h : (pureC P o.op).f e k = true) : PureOk P θ a o k := by
  rw [ho] at h
  simp only [pureC, Clo.on_f, opndsC_eq] at h
  refine ⟨_, _, h, .f g _ _ (first.map a.eval) (cap.map a.eval) (by simpa using list_VRL first.toList hf) (by simpa using list_VRL cap.toList hc), fun w => ?_⟩
  unfold execOp
  rw [ho]; rfl

theorem ok_makeInterface {o : Oper} {t : TypeId} {x : Operand} (ho : o.op = .makeInterface t x) (hx : VR θ (opnd e x) (a.eval x)) {k : V → Bool} (h : (pureC P o.op).f e k = true) : PureOk P θ a o k := by
  rw [ho] at h
  unfold pureC at h
  simp only at h
  cases hd : undF P t with
  | none => simp only [hd] at h; cases h
  | some d =>
    simp only [hd] at h
    have h' : (∀ ms, d ≠ .interface ms) ∧ k (.ifc t (opnd e x)) = true := by
      cases d <;> first | cases h | (simp only [Clo.on_f, opndC_eq] at h; exact ⟨(fun ms hms => by cases hms), h⟩)
    refine ⟨_, _, h'.2, .ifc t _ _ hx, fun w => ?_⟩
    unfold execOp
    rw [ho]
    refine run_v ?_
    simp only [Instr.makeInterface, Sem.run_bind, run_under hd, Result.andThen_ok]
    cases d <;> first | rfl | exact absurd rfl (h'.1 _)
end
end Go.Ax

namespace Go.Ax
variable {P : Program}

section
variable {θ : Th} {e : Env} {a : Act}

/-- an optional bound -/
theorem bndC_true {x : Option Operand} (hx : ∀ y, x = some y → VR θ (opnd e y) (a.eval y)) {d top : Nat} {k : Nat → Bool} (h : (bndC x).f e d top k = true) :
    (x = none ∧ k d = true) ∨ (∃ y kd, ∃ i : Nat, x = some y ∧ a.eval y = .int kd i ∧ i ≤ top ∧ k i = true) := by
  cases x with
  | none => exact .inl ⟨rfl, h⟩
  | some y =>
    simp only [bndC, Clo.on_f, opndC_eq] at h
    obtain ⟨kd, i, h1, h2, h3⟩ := idxK_true (hx y rfl) h
    exact .inr ⟨y, kd, i, rfl, h1, h2, h3⟩

theorem run_bound {kd : IntKind} {i y : Nat} (c : BoundsCode) (h : i ≤ y) (w : World) : (Instr.sliceBound (.int kd (i : Int)) y c).run P w = .ok i w := by
  unfold Instr.sliceBound
  have h0 : (0 : Int) ≤ (i : Int) ∧ (i : Int) ≤ (y : Int) := ⟨Int.natCast_nonneg i, by omega⟩
  simp only [Sem.run_bind, idx_run, Result.andThen_ok, h0, and_self, if_true, Int.toNat_natCast, Sem.run_pure]

/-- bounds without a third one -/
theorem run_bounds {s : Bool} {len cap : Nat} {lo hi : Option Operand} {h l : Nat}
    (hh : (hi = none ∧ h = len) ∨ (∃ y kd, hi = some y ∧ a.eval y = .int kd (h : Int) ∧ h ≤ cap))
    (hl : (lo = none ∧ l = 0) ∨ (∃ y kd, lo = some y ∧ a.eval y = .int kd (l : Int) ∧ l ≤ h)) (w : World) :
    (Instr.sliceBounds s len cap (lo.map a.eval) (hi.map a.eval) none).run P w = .ok (l, h, cap) w := by
  unfold Instr.sliceBounds
  rcases hh with ⟨rfl, rfl⟩ | ⟨y, kd, rfl, hy, hc⟩
  · rcases hl with ⟨rfl, rfl⟩ | ⟨z, kd', rfl, hz, hc'⟩
    · rfl
    · simp only [Option.map_some, Option.map_none, Sem.run_bind, Sem.run_pure, Result.andThen_ok, hz, run_bound _ hc']
  · rcases hl with ⟨rfl, rfl⟩ | ⟨z, kd', rfl, hz, hc'⟩
    · simp only [Option.map_some, Option.map_none, Sem.run_bind, Sem.run_pure, Result.andThen_ok, hy, run_bound _ hc]
    · simp only [Option.map_some, Option.map_none, Sem.run_bind, Sem.run_pure, Result.andThen_ok, hy, hz, run_bound _ hc, run_bound _ hc']

theorem bnds_true {lo hi : Option Operand} (hlo : ∀ y, lo = some y → VR θ (opnd e y) (a.eval y)) (hhi : ∀ y, hi = some y → VR θ (opnd e y) (a.eval y)) {len cap : Nat} {k : Nat → Nat → Bool}
    (hlc : len ≤ cap) (h : (bndC hi).f e len cap (fun h => (bndC lo).f e 0 h fun l => k h l) = true) :
    ∃ h l : Nat, l ≤ h ∧ h ≤ cap ∧ (hi = none → h = len) ∧ k h l = true ∧ ∀ s w, (Instr.sliceBounds s len cap (lo.map a.eval) (hi.map a.eval) none).run P w = .ok (l, h, cap) w := by
  rcases bndC_true hhi h with ⟨rfl, h1⟩ | ⟨y, kd, hb, rfl, hy, hc, h1⟩
  · rcases bndC_true hlo h1 with ⟨rfl, h2⟩ | ⟨z, kd', l, rfl, hz, hc', h2⟩
    · exact ⟨len, 0, by omega, hlc, fun _ => rfl, h2, fun s w => run_bounds (.inl ⟨rfl, rfl⟩) (.inl ⟨rfl, rfl⟩) w⟩
    · exact ⟨len, l, hc', hlc, fun _ => rfl, h2, fun s w => run_bounds (.inl ⟨rfl, rfl⟩) (.inr ⟨z, kd', rfl, hz, hc'⟩) w⟩
  · rcases bndC_true hlo h1 with ⟨rfl, h2⟩ | ⟨z, kd', l, rfl, hz, hc', h2⟩
    · exact ⟨hb, 0, by omega, hc, (fun h => by cases h), h2, fun s w => run_bounds (.inr ⟨y, kd, rfl, hy, hc⟩) (.inl ⟨rfl, rfl⟩) w⟩
    · exact ⟨hb, l, hc', hc, (fun h => by cases h), h2, fun s w => run_bounds (.inr ⟨y, kd, rfl, hy, hc⟩) (.inr ⟨z, kd', rfl, hz, hc'⟩) w⟩

/-- cutting a string, a slice out of an array -/
theorem ok_slice {o : Oper} {t : TypeId} {x : Operand} {lo hi mx : Option Operand} (ho : o.op = .slice t x lo hi mx) (hx : VR θ (opnd e x) (a.eval x))
    (hlo : ∀ y, lo = some y → VR θ (opnd e y) (a.eval y)) (hhi : ∀ y, hi = some y → VR θ (opnd e y) (a.eval y)) {k : V → Bool} (h : (pureC P o.op).f e k = true) : PureOk P θ a o k := by
  rw [ho] at h
  unfold pureC at h
  simp only at h
  cases hd : undF P t with
  | none => simp only [hd] at h; cases h
  | some d =>
    simp only [hd] at h
    cases d with
    | string =>
      cases mx with
      | some m => cases h
      | none =>
        simp only [Clo.on_f, opndC_eq, forceN_eq] at h
        obtain ⟨len, v, hlv, h1⟩ := asS_true h
        obtain ⟨hb, l, hle, hcap, hno, h2, hrun⟩ := bnds_true (P := P) hlo hhi (Nat.le_refl _) h1
        rw [hlv] at hx
        generalize hcv : a.eval x = cv at hx
        obtain ⟨s, rfl, hs, hv, hsz⟩ := hx.str_inv
        have e1 : Nat.sub hb l = hb - l := rfl
        have e2 : Nat.mod (Nat.shiftRight v (Nat.mul 8 l)) (Nat.pow 256 (Nat.sub hb l)) = v / 256 ^ l % 256 ^ (hb - l) := by rw [shift_div]; rfl
        rw [e2, e1] at h2
        refine ⟨_, _, h2, VR.str_mk (s := s.extract l hb) ?_ (Nat.mod_lt _ (Nat.pow_pos (by decide))), fun w => ?_⟩
        · rw [Lib.extract_data, hs, unnum_drop l len v (by omega), unnum_take (hb - l) (len - l) _ (by omega), unnum_mod]
        · unfold execOp
          rw [ho]
          refine run_v ?_
          simp only [Instr.sliceAt, Instr.slice, Sem.run_bind, run_under hd, Result.andThen_ok, hcv, Option.map_none, Option.isSome_none, Bool.false_eq_true, if_false, Sem.run_pure, hsz, hrun]
    | array n el =>
      cases hsz : sizeT P el with
      | none => simp only [hsz] at h; cases h
      | some sz =>
        cases mx with
        | some m => simp only [hsz] at h; cases h
        | none =>
          simp only [hsz, Clo.on_f, opndC_eq, forceN_eq] at h
          obtain ⟨b, o', hb', h1⟩ := asP_true h
          obtain ⟨hb, l, hle, hcap, hno, h2, hrun⟩ := bnds_true (P := P) hlo hhi (Nat.le_refl _) h1
          rw [hb'] at hx
          generalize hcv : a.eval x = cv at hx
          cases hx with
          | p _ _ r hr =>
            refine ⟨_, _, h2, .slk b _ (hb - l) (n - l) r hr (by omega), fun w => ?_⟩
            unfold execOp
            rw [ho]
            refine run_v ?_
            simp only [Instr.sliceAt, Sem.run_bind, run_under hd, Result.andThen_ok, hcv, Instr.sureAddr, Option.map_none, Sem.run_pure, hrun, run_sizeOf hsz]
            rw [iteK_eq]
            by_cases hnl : n = l
            · subst hnl
              have : Nat.beq (Nat.sub n n) 0 = true := by rw [Nat.sub_eq, Nat.sub_self]; rfl
              rw [if_pos rfl, this, cond_true]
            · have : Nat.beq (Nat.sub n l) 0 = false := by
                rw [Nat.sub_eq]
                cases hq : Nat.beq (n - l) 0 with
                | false => rfl
                | true => rw [Nat.beq_eq] at hq; omega
              rw [if_neg hnl, this, cond_false, Addr.add_of]; rfl
    | _ => cases h

theorem run_builtin {c : Call} {b : Builtin} (hc : c.callee = .builtin b) {o : Oper} (ho : o.op = .call c) : execOp a.eval o = builtin b c.argTypes o.type (c.args.map fun | .const _ => true | _ => false) (c.args.map a.eval) := by
  obtain ⟨dst, op, ty, pos, aft, g⟩ := o
  simp only at ho
  subst ho
  obtain ⟨callee, args, tys⟩ := c
  simp only at hc
  subst hc
  rfl

theorem args1 {c : Call} {x : Operand} (hx : c.args.toList = [x]) : c.args.map a.eval = #[a.eval x] := by
  apply Array.toList_inj.1; simp [hx]
theorem args2 {c : Call} {x y : Operand} (hx : c.args.toList = [x, y]) : c.args.map a.eval = #[a.eval x, a.eval y] := by
  apply Array.toList_inj.1; simp [hx]

theorem ok_builtin {o : Oper} {c : Call} (ho : o.op = .call c) (hargs : ∀ x ∈ c.args.toList, VR θ (opnd e x) (a.eval x)) {k : V → Bool} (h : (pureC P o.op).f e k = true) : PureOk P θ a o k := by
  rw [ho] at h
  unfold pureC at h
  simp only at h
  split at h
  · rename_i x hcal hx
    have ha := hargs x (by simp [hx])
    have hrun := run_builtin (a := a) hcal ho
    cases hd : argD P c 0 with
    | none => simp only [hd] at h; cases h
    | some d =>
      obtain ⟨t, ht, hdt⟩ := argD_some hd
      simp only [hd] at h
      cases d with
      | string =>
        simp only [Clo.on_f, opndC_eq, forceN_eq] at h
        obtain ⟨l, v, hlv, h1⟩ := asS_true h
        rw [hlv] at ha
        generalize hcv : a.eval x = cv at ha
        obtain ⟨s, rfl, hs, hv, hsz⟩ := ha.str_inv
        refine ⟨_, _, h1, VR.nat64 l, fun w => ?_⟩
        rw [hrun, args1 hx, hcv]
        refine run_v (s := Builtin.len_ _ _ _) ?_
        simp [Builtin.len_, ht, run_under hdt, goInt, hsz]
      | slice el =>
        simp only [Clo.on_f, opndC_eq, forceN_eq] at h
        rw [asSl_eq] at h
        generalize hxv : opnd e x = v at h ha
        generalize hcv : a.eval x = cv at ha
        have fin : ∀ (b : Option Addr) (l cp : Nat), cv = .slice b l cp → k (.i (Nat.add l B63)) = true → PureOk P θ a o k := by
          intro b l cp hcv' hk
          refine ⟨_, _, hk, VR.nat64 l, fun w => ?_⟩
          rw [hrun, args1 hx, hcv, hcv']
          refine run_v (s := Builtin.len_ _ _ _) ?_
          simp [Builtin.len_, ht, run_under hdt, goInt]
        have z : Nat.add 0 B63 = B63 := Nat.zero_add _
        cases ha with
        | slk b o' l c r hr hl => exact fin _ _ _ rfl h
        | slu b o' l c r hr hl => exact fin _ _ _ rfl h
        | sln => exact fin _ 0 _ rfl (by rw [z]; exact h)
        | slz ad cp => exact fin _ 0 _ rfl (by rw [z]; exact h)
        | _ => cases h
      | array n el =>
        refine ⟨_, _, h, VR.nat64 n, fun w => ?_⟩
        rw [hrun, args1 hx]
        refine run_v (s := Builtin.len_ _ _ _) ?_
        simp [Builtin.len_, ht, run_under hdt, goInt]
      | _ => cases h
  · rename_i x hcal hx
    have ha := hargs x (by simp [hx])
    have hrun := run_builtin (a := a) hcal ho
    cases hd : argD P c 0 with
    | none => simp only [hd] at h; cases h
    | some d =>
      obtain ⟨t, ht, hdt⟩ := argD_some hd
      simp only [hd] at h
      cases d with
      | slice el =>
        simp only [Clo.on_f, opndC_eq, forceN_eq] at h
        rw [asSl_eq] at h
        generalize hxv : opnd e x = v at h ha
        generalize hcv : a.eval x = cv at ha
        have fin : ∀ (b : Option Addr) (l cp : Nat), cv = .slice b l cp → k (.i (Nat.add cp B63)) = true → PureOk P θ a o k := by
          intro b l cp hcv' hk
          refine ⟨_, _, hk, VR.nat64 cp, fun w => ?_⟩
          rw [hrun, args1 hx, hcv, hcv']
          refine run_v (s := Builtin.cap_ _ _ _) ?_
          simp [Builtin.cap_, ht, run_under hdt, goInt]
        have z : Nat.add 0 B63 = B63 := Nat.zero_add _
        cases ha with
        | slk b o' l c r hr hl => exact fin _ _ _ rfl (iteK_false h).2
        | slu b o' l c r hr hl => exact absurd (iteK_false h).1 (by decide)
        | sln => exact fin _ _ 0 rfl (by rw [z]; exact h)
        | _ => cases h
      | _ => cases h
  · rename_i x y hcal hx
    have hax := hargs x (by simp [hx])
    have hay := hargs y (by simp [hx])
    have hrun := run_builtin (a := a) hcal ho
    simp only [Clo.on_f, opndC_eq] at h
    obtain ⟨kd, z1, z2, e1, e2, h1⟩ := cmpV_true (c := fun a b => decide (a < b)) lss_iff hax hay h
    obtain ⟨q, hq, h2⟩ := asB_true h1
    injection hq with hq
    rw [iteK_eq] at h2
    by_cases hlt : z1 < z2
    · rw [← hq, decide_eq_true hlt, cond_true] at h2
      refine ⟨_, _, h2, hay, fun w => ?_⟩
      rw [hrun, args2 hx, e1, e2]
      refine run_v (s := Builtin.max_ _ _ _) ?_
      simp [Builtin.max_, Builtin.max2, hlt]
    · rw [← hq, decide_eq_false hlt, cond_false] at h2
      refine ⟨_, _, h2, hax, fun w => ?_⟩
      rw [hrun, args2 hx, e1, e2]
      refine run_v (s := Builtin.max_ _ _ _) ?_
      simp [Builtin.max_, Builtin.max2, hlt]
  · rename_i x y hcal hx
    have hax := hargs x (by simp [hx])
    have hay := hargs y (by simp [hx])
    have hrun := run_builtin (a := a) hcal ho
    simp only [Clo.on_f, opndC_eq] at h
    obtain ⟨kd, z1, z2, e1, e2, h1⟩ := cmpV_true (c := fun a b => decide (b < a)) (fun a b => lss_iff b a) hax hay h
    obtain ⟨q, hq, h2⟩ := asB_true h1
    injection hq with hq
    rw [iteK_eq] at h2
    by_cases hlt : z2 < z1
    · rw [← hq, decide_eq_true hlt, cond_true] at h2
      refine ⟨_, _, h2, hay, fun w => ?_⟩
      rw [hrun, args2 hx, e1, e2]
      refine run_v (s := Builtin.min_ _ _ _) ?_
      simp [Builtin.min_, Builtin.min2, hlt]
    · rw [← hq, decide_eq_false hlt, cond_false] at h2
      refine ⟨_, _, h2, hax, fun w => ?_⟩
      rw [hrun, args2 hx, e1, e2]
      refine run_v (s := Builtin.min_ _ _ _) ?_
      simp [Builtin.min_, Builtin.min2, hlt]
  · cases h
end
end Go.Ax

namespace Go.Ax
variable {P : Program}

theorem TR.mono {θ θ' : Th} (hl : θ.le θ') {n : Nat} {t : PT V} {cs : Array Value} (h : TR θ n t cs) : TR θ' n t cs := ⟨h.1, h.2.1, fun j v hj => ⟨(h.2.2 j v hj).1, (h.2.2 j v hj).2.mono hl⟩⟩

theorem VR.not_agg {θ : Th} {v : V} {cv : Value} (h : VR θ v cv) (hc : v.isCell = true) : cv.cells = #[cv] ∧ flat cv = true := by
  cases h with
  | tup l vs h => exact absurd hc Bool.false_ne_true
  | agg n t cs hn hj h hf => exact absurd hc Bool.false_ne_true
  | _ => exact ⟨rfl, rfl⟩

theorem cells_ok {θ : Th} {v : V} {cv : Value} (h : VR θ v cv) {n : Nat} {t : PT V} (hc : v.cells = some (n, t)) : TR θ n t cv.cells := by
  by_cases hcell : v.isCell = true
  · have e : v.cells = some (1, .node .nil (some v) .nil) := by cases v <;> first | rfl | cases hcell
    rw [e] at hc
    simp only [Option.some.injEq, Prod.mk.injEq] at hc
    obtain ⟨rfl, rfl⟩ := hc
    obtain ⟨h1, hfl⟩ := h.not_agg hcell
    rw [h1]
    refine ⟨rfl, (fun u hu => by simp at hu; subst hu; exact hfl), fun j u hj => ?_⟩
    cases j with
    | zero => simp only [PT.get, Option.some.injEq] at hj; subst hj; exact ⟨by decide, h⟩
    | succ j => simp only [PT.get] at hj; cases hq : Nat.beq (j % 2) 0 <;> (rw [hq] at hj; cases hj)
  · cases v <;> first | exact absurd rfl hcell | (simp [V.cells, V.isCell] at hc; done) | skip
    rename_i m tr
    simp only [V.cells, Option.some.injEq, Prod.mk.injEq] at hc
    obtain ⟨rfl, rfl⟩ := hc
    obtain ⟨cs, rfl, htr⟩ := h.agg_inv
    exact htr

/-- cells laid over cells -/
theorem foldl_cells (vs : List Value) : ∀ (cs : Array Value) (off s : Nat),
    ((vs.zipIdx s).foldl (fun (cs : Array Value) (p : Value × Nat) => cs.setIfInBounds (off + p.2) p.1) cs).size = cs.size ∧
    ∀ i, i < cs.size → ((vs.zipIdx s).foldl (fun (cs : Array Value) (p : Value × Nat) => cs.setIfInBounds (off + p.2) p.1) cs).getD i Go.undef =
      if off + s ≤ i ∧ i < off + s + vs.length then vs.getD (i - (off + s)) Go.undef else cs.getD i Go.undef := by
  induction vs with
  | nil => intro cs off s; exact ⟨rfl, fun i _ => by rw [if_neg (by simp only [List.length_nil]; omega)]; rfl⟩
  | cons v vs ih =>
    intro cs off s
    simp only [List.zipIdx_cons, List.foldl_cons]
    obtain ⟨h1, h2⟩ := ih (cs.setIfInBounds (off + s) v) off (s + 1)
    refine ⟨by rw [h1]; simp, fun i hi => ?_⟩
    rw [h2 i (by simpa using hi)]
    by_cases e : i = off + s
    · subst e
      rw [if_neg (by omega), if_pos (by simp)]
      simp [Array.getD_eq_getD_getElem?, hi]
    · by_cases hc : off + (s + 1) ≤ i ∧ i < off + (s + 1) + vs.length
      · rw [if_pos hc, if_pos (by simp only [List.length_cons]; omega)]
        have : i - (off + s) = (i - (off + (s + 1))) + 1 := by omega
        rw [this, List.getD_cons_succ]
      · rw [if_neg hc, if_neg (by simp only [List.length_cons]; omega)]
        have ne : off + s ≠ i := fun h => e h.symm
        simp [Array.getD_eq_getD_getElem?, ne]

theorem foldl_flat (vs : List Value) (hv : ∀ v ∈ vs, flat v = true) : ∀ (cs : Array Value) (off s : Nat), Flat cs → Flat ((vs.zipIdx s).foldl (fun (cs : Array Value) (p : Value × Nat) => cs.setIfInBounds (off + p.2) p.1) cs) := by
  induction vs with
  | nil => intro cs off s h; exact h
  | cons v vs ih =>
    intro cs off s h
    simp only [List.zipIdx_cons, List.foldl_cons]
    refine ih (fun u hu => hv u (by simp [hu])) _ _ _ fun u hu => ?_
    rw [Array.toList_setIfInBounds] at hu
    rcases List.mem_or_eq_of_mem_set hu with h1 | h1
    · exact h u h1
    · subst h1; exact hv _ (by simp)

/-- cells laid over cells, at the list -/
def over (c : Array Value) (off : Nat) (vs : List Value) : Array Value := (vs.zipIdx 0).foldl (fun (cs : Array Value) (p : Value × Nat) => cs.setIfInBounds (off + p.2) p.1) c

theorem over_ok {θ : Th} {n m off so : Nat} {t tv t' : PT V} {cs : Array Value} {vs : List Value} (hn : n ≤ cs.size) (hf : Flat cs) (h : ∀ j v, t.get j = some v → j < n ∧ VR θ v (cs.getD j Go.undef))
    (hl : vs.length = m) (hvf : ∀ v ∈ vs, flat v = true) (hv : ∀ j v, j < m → tv.get (so + j) = some v → VR θ v (vs.getD j Go.undef)) (ho : off + m ≤ n) (hm : tv.move m so t off = some t') :
    (over cs off vs).size = cs.size ∧ Flat (over cs off vs) ∧ ∀ j v, t'.get j = some v → j < n ∧ VR θ v ((over cs off vs).getD j Go.undef) := by
  obtain ⟨f1, f2⟩ := foldl_cells vs cs off 0
  refine ⟨f1, foldl_flat vs hvf cs off 0 hf, fun j v hj => ?_⟩
  rw [PT.get_move tv _ _ _ _ _ hm j] at hj
  by_cases hc : off ≤ j ∧ j < off + m
  · rw [if_pos hc] at hj
    refine ⟨by omega, ?_⟩
    unfold over
    rw [f2 j (by omega), if_pos (by omega)]
    simp only [Nat.add_zero]
    exact hv (j - off) v (by omega) hj
  · rw [if_neg hc] at hj
    obtain ⟨h3, h4⟩ := h _ _ hj
    refine ⟨h3, ?_⟩
    unfold over
    rw [f2 j (by omega), if_neg (by omega)]
    exact h4

/-- one part laid over the cells -/
theorem lay_ok {θ : Th} {n m off : Nat} {t tv t' : PT V} {cs vs : Array Value} (h : TR θ n t cs) (hv : TR θ m tv vs) (ho : off + m ≤ n) (hm : tv.move m 0 t off = some t') :
    TR θ n t' (vs.zipIdx.foldl (fun (cs : Array Value) (p : Value × Nat) => cs.setIfInBounds (off + p.2) p.1) cs) := by
  have e : vs.zipIdx.foldl (fun (cs : Array Value) (p : Value × Nat) => cs.setIfInBounds (off + p.2) p.1) cs = over cs off vs.toList := by
    unfold over
    rw [← Array.foldl_toList, Array.toList_zipIdx]
  rw [e]
  obtain ⟨h1, h2, h3⟩ := over_ok (vs := vs.toList) (so := 0) (by rw [h.1]; exact Nat.le_refl _) h.2.1 h.2.2 (by simpa using hv.1) hv.2.1 (fun j v hj hg => by
    rw [Nat.zero_add] at hg
    have := (hv.2.2 j v hg).2
    simpa [Array.getD_eq_getD_getElem?] using this) ho hm
  exact ⟨h1.trans h.1, h2, h3⟩

section
variable {θ : Th} {e : Env} {a : Act}

/-- the parts of a struct or an array laid over the cells -/
theorem puts_ok {n : Nat} (place : Nat → Option (Nat × Nat)) : ∀ (parts : List (Nat × Operand)) (ps : List (Nat × Nat × Operand)), ps.length = parts.length →
    (∀ (j : Nat) i x, parts[j]? = some (i, x) → VR θ (opnd e x) (a.eval x) ∧ ∃ off sz, place i = some (off, sz) ∧ ps[j]? = some (off, sz, x)) →
    ∀ (t : PT V) (cs : Array Value) (k : PT V → Bool), TR θ n t cs → (putsC n ps).f e t k = true →
    ∃ t' cs', Instr.fill place cs (parts.map fun p => (p.1, a.eval p.2)) = some cs' ∧ TR θ n t' cs' ∧ k t' = true := by
  intro parts
  induction parts with
  | nil =>
    intro ps hl hp t cs k ht h
    obtain rfl : ps = [] := by cases ps with | nil => rfl | cons _ _ => cases hl
    exact ⟨t, cs, rfl, ht, h⟩
  | cons p parts ih =>
    intro ps hl hp t cs k ht h
    obtain ⟨i, x⟩ := p
    obtain ⟨hx, off, sz, hpl, hps⟩ := hp 0 i x rfl
    cases ps with
    | nil => cases hl
    | cons q ps =>
      simp only [List.getElem?_cons_zero, Option.some.injEq] at hps
      subst hps
      unfold putsC at h
      cases hb : Nat.ble (off + sz) n with
      | false => rw [hb] at h; cases h
      | true =>
        rw [hb, cond_true] at h
        simp only [Clo.on_f, opndC_eq] at h
        obtain ⟨m, tv, hm, h1⟩ := cellsK_true h
        obtain ⟨h2, h3⟩ := iteK_true h1
        rw [Nat.beq_eq] at h2
        subst h2
        obtain ⟨t', ht', h4⟩ := moveK_true h3
        have hv := cells_ok hx hm
        have hle := ble_le hb
        have ht2 := lay_ok ht hv hle ht'
        obtain ⟨t'', cs', f1, f2, f3⟩ := ih ps (by simpa using hl) (fun j i' x' hj => by
          obtain ⟨g1, o, s, g2, g3⟩ := hp (j + 1) i' x' (by simpa using hj)
          exact ⟨g1, o, s, g2, by simpa using g3⟩) t' _ k ht2 h4
        refine ⟨t'', cs', ?_, f2, f3⟩
        simp only [List.map_cons, Instr.fill, hpl]
        have hsz := hv.1
        have hcs := ht.1
        rw [if_neg (by simp [hsz, hcs]; omega)]
        exact f1

theorem zeroT_some {t : TypeId} {n : Nat} {tr : PT V} (h : zeroT P t = some (n, tr)) : ∃ i z, P.info? t = some i ∧ i.zero = some z ∧ TR θ n tr z.cells := by
  unfold zeroT at h
  cases hi : infoF P t with
  | none => simp [hi] at h
  | some i =>
    cases hz : i.zero with
    | none => simp [hi, hz] at h
    | some z =>
      simp only [hi, Option.bind_some, hz] at h
      cases hc : cellsV z.cells.toList 0 .nil with
      | none => simp [hc] at h
      | some t' =>
        simp only [hc, Option.some.injEq, Prod.mk.injEq] at h
        obtain ⟨rfl, rfl⟩ := h
        have := cellsV_nil θ hc
        exact ⟨i, z, infoF_some hi, hz, by simp, cellsV_flat _ _ _ _ hc, fun j v hj => by simpa using this j v hj⟩
theorem run_zero {t : TypeId} {i : TypeInfo} {z : Value} (hi : P.info? t = some i) (hz : i.zero = some z) (w : World) : (zeroValue t).run P w = .ok z w := by
  simp [zeroValue, typeInfo, hi, hz]

theorem run_places (fs : List Field) (h : ∀ f ∈ fs, ∃ n, sizeT P f.type = some n) (w : World) :
    (fs.mapM (fun f => do pure (f.offset, ← sizeOf f.type) : Field → Sem (Nat × Nat))).run P w = .ok (fs.map fun f => (f.offset, (sizeT P f.type).getD 0)) w := by
  induction fs with
  | nil => rfl
  | cons f fs ih =>
    obtain ⟨n, hn⟩ := h f (by simp)
    simp only [List.mapM_cons, Sem.run_bind, run_sizeOf hn, Result.andThen_ok, Sem.run_pure, ih fun g hg => h g (by simp [hg])]
    simp [hn]

theorem placesT_some {t : TypeId} : ∀ (parts : List (Nat × Operand)) (ps : List (Nat × Nat × Operand)), placesT P t parts = some ps →
    ps.length = parts.length ∧ ∀ (j : Nat) i x, parts[j]? = some (i, x) → ∃ off sz ag, fieldT P t i = some (off, sz, ag) ∧ ps[j]? = some (off, sz, x) := by
  intro parts
  induction parts with
  | nil => intro ps h; simp only [placesT, Option.some.injEq] at h; subst h; exact ⟨rfl, fun j i x h => by simp at h⟩
  | cons p parts ih =>
    intro ps h
    obtain ⟨i, x⟩ := p
    unfold placesT at h
    split at h
    · rename_i o s ag l hf hl
      simp only [Option.some.injEq] at h
      subst h
      obtain ⟨h1, h2⟩ := ih l hl
      refine ⟨by simp [h1], fun j i' x' hj => ?_⟩
      cases j with
      | zero =>
        simp only [List.getElem?_cons_zero, Option.some.injEq, Prod.mk.injEq] at hj
        obtain ⟨rfl, rfl⟩ := hj
        exact ⟨o, s, ag, hf, rfl⟩
      | succ j =>
        obtain ⟨o', s', ag', h3, h4⟩ := h2 j i' x' (by simpa using hj)
        exact ⟨o', s', ag', h3, by simpa using h4⟩
    · cases h

theorem ok_build {o : Oper} {t : TypeId} {parts : Array (Nat × Operand)} (ho : o.op = .build t parts) (hp : ∀ p ∈ parts.toList, VR θ (opnd e p.2) (a.eval p.2)) {k : V → Bool} (h : (pureC P o.op).f e k = true) : PureOk P θ a o k := by
  rw [ho] at h
  unfold pureC at h
  simp only at h
  have hmap : ∀ w (s : Array (Nat × Value) → Sem Value) cv, (s (parts.map fun (i, x) => (i, a.eval x))).run P w = .ok cv w → True := fun _ _ _ _ => trivial
  cases hd : undF P t with
  | none => simp only [hd] at h; cases h
  | some d =>
    simp only [hd] at h
    cases d with
    | struct fs =>
      cases hall : (fs.toList.all fun f => (sizeT P f.type).isSome) with
      | false => simp only [hall] at h; cases h
      | true =>
        simp only [hall, cond_true] at h
        cases hz : zeroT P t with
        | none => simp only [hz] at h; cases h
        | some nz =>
          obtain ⟨n, z⟩ := nz
          cases hps : placesT P t parts.toList with
          | none => simp only [hz, hps] at h; cases h
          | some ps =>
            simp only [hz, hps, Clo.on_f] at h
            obtain ⟨i, zv, hi, hzv, htr⟩ := zeroT_some (θ := θ) hz
            obtain ⟨hl, hpl⟩ := placesT_some _ _ hps
            have hsz : ∀ f ∈ fs.toList, ∃ n, sizeT P f.type = some n := fun f hf => by
              have := List.all_eq_true.1 hall f hf
              exact Option.isSome_iff_exists.1 this
            obtain ⟨t', cs', hfill, htr', hk⟩ := puts_ok (θ := θ) (e := e) (a := a) (fun i => (fs.toList.map fun f => (f.offset, (sizeT P f.type).getD 0)).toArray[i]?) parts.toList ps hl (fun j i' x' hj => by
              obtain ⟨off, sz, ag, hf, hj'⟩ := hpl j i' x' hj
              obtain ⟨fs', f, hd', hfi, rfl, hs, ha⟩ := fieldT_some hf
              rw [hd] at hd'
              simp only [Option.some.injEq, TypeDesc.struct.injEq] at hd'
              subst hd'
              refine ⟨hp (i', x') (List.mem_of_getElem? hj), f.offset, sz, ?_, hj'⟩
              simp [hfi, hs]) z zv.cells _ htr h
            refine ⟨_, _, hk, VR.agg_mk htr', fun w => ?_⟩
            unfold execOp
            rw [ho]
            refine run_v ?_
            simp only [Instr.build, Sem.run_bind, run_zero hi hzv, Result.andThen_ok, run_under hd]
            rw [Array.mapM_eq_mapM_toList]
            simp only [Sem.run_map, run_places fs.toList hsz, Result.andThen_ok]
            have e1 : (parts.map fun x => match x with | (i, x) => (i, a.eval x)).toList = parts.toList.map fun p => (p.1, a.eval p.2) := by simp
            rw [e1, hfill]; rfl
    | array len el =>
      cases hz : zeroT P t with
      | none => simp only [hz] at h; cases h
      | some nz =>
        obtain ⟨n, z⟩ := nz
        cases hs : sizeT P el with
        | none => simp only [hz, hs] at h; cases h
        | some sz =>
          simp only [hz, hs, Clo.on_f] at h
          obtain ⟨i, zv, hi, hzv, htr⟩ := zeroT_some (θ := θ) hz
          obtain ⟨t', cs', hfill, htr', hk⟩ := puts_ok (θ := θ) (e := e) (a := a) (fun i => some (i * sz, sz)) parts.toList (parts.toList.map fun (i, x) => (i * sz, sz, x)) (by simp) (fun j i' x' hj =>
            ⟨hp (i', x') (List.mem_of_getElem? hj), i' * sz, sz, rfl, by simp [List.getElem?_map, hj]⟩) z zv.cells _ htr h
          refine ⟨_, _, hk, VR.agg_mk htr', fun w => ?_⟩
          unfold execOp
          rw [ho]
          refine run_v ?_
          simp only [Instr.build, Sem.run_bind, run_zero hi hzv, Result.andThen_ok, run_under hd, run_sizeOf hs]
          have e1 : (parts.map fun x => match x with | (i, x) => (i, a.eval x)).toList = parts.toList.map fun p => (p.1, a.eval p.2) := by simp
          rw [e1, hfill]; rfl
    | _ => cases h
end
end Go.Ax

namespace Go.Ax
variable {P : Program}

theorem pure_ok {θ : Th} {e : Env} {a : Act} {o : Oper} (ho : ∀ x ∈ o.op.operands.toList, VR θ (opnd e x) (a.eval x)) {k : V → Bool} (h : (pureC P o.op).f e k = true) : PureOk P θ a o k := by
  obtain ⟨dst, op, ty, pos, aft, g⟩ := o
  simp only at ho h
  cases op with
  | move x => exact ok_move (.inl rfl) (ho x (by simp [Op.operands])) h
  | assign x => exact ok_move (.inr rfl) (ho x (by simp [Op.operands])) h
  | pick c x y => exact ok_pick rfl (ho c (by simp [Op.operands])) (ho x (by simp [Op.operands])) (ho y (by simp [Op.operands])) h
  | binOp op t x y ty' => exact ok_binOp rfl (ho x (by simp [Op.operands])) (ho y (by simp [Op.operands])) h
  | unOp op t x => exact ok_unOp rfl (ho x (by simp [Op.operands])) h
  | nilCheck x => exact ok_nilCheck rfl (ho x (by simp [Op.operands])) h
  | convert s d x => exact ok_convert rfl (ho x (by simp [Op.operands])) h
  | fieldAddr s x i => exact ok_fieldAddr rfl (ho x (by simp [Op.operands])) h
  | field s x i => exact ok_field rfl (ho x (by simp [Op.operands])) h
  | indexAddr t x ix => exact ok_indexAddr rfl (ho x (by simp [Op.operands])) (ho ix (by simp [Op.operands])) h
  | index t x ix => exact ok_index rfl (ho x (by simp [Op.operands])) (ho ix (by simp [Op.operands])) h
  | extract x i => exact ok_extract rfl (ho x (by simp [Op.operands])) h
  | makeFunc fn first cap =>
    cases fn with
    | func g => exact ok_makeFunc rfl (fun x hx => ho x (by simp [Op.operands]; exact .inl (by simpa using hx))) (fun x hx => ho x (by simp [Op.operands]; exact .inr (by simpa using hx))) h
    | _ => cases h
  | makeInterface t x => exact ok_makeInterface rfl (ho x (by simp [Op.operands])) h
  | build t parts => exact ok_build rfl (fun p hp => ho p.2 (by simp only [Op.operands]; exact List.mem_map.2 ⟨p, hp, rfl⟩)) h
  | slice t x lo hi mx => exact ok_slice rfl (ho x (by simp [Op.operands])) (fun y hy => ho y (by subst hy; simp [Op.operands])) (fun y hy => ho y (by subst hy; simp [Op.operands])) h
  | call c => exact ok_builtin rfl (fun x hx => ho x (by simp only [Op.operands, Call.operands]; rw [Array.toList_append]; exact List.mem_append_right _ hx)) h
  | _ => cases h

/-! ### memory -/
/-- memory as the executor has it -/
abbrev MRx (P : Program) (θ : Th) (h : Hp) (nx : A) (w : World) : Prop := MR P θ (hget h) nx w

theorem cell_of {w : World} {r : Nat} {c : Array Value} {el : TypeId} {fr : Nat × Nat} (h : w.heap[r]? = some (.cells c el fr)) {o : Nat} (ho : o < c.size) : w.cell? ⟨r, o, none⟩ = some (c.getD o Go.undef) := by
  unfold World.cell?
  simp only [h, Option.isSome_none, Bool.false_eq_true, if_false]
  rw [Array.getD_eq_getD_getElem?, Array.getElem?_eq_getElem ho]; rfl

/-- what the cells of a block are -/
theorem MR.reads {θ : Th} {m : A → Option B} {nx : A} {w : World} (h : MR P θ m nx w) {x : A} {n : Nat} {t : PT V} (hx : (∃ g s, m x = some (.cells n g s t)) ∨ m x = some (.ro n t)) {r : Nat} (hr : θ.ρ x = some r) :
    ∃ c el fr, w.heap[r]? = some (.cells c el fr) ∧ Flat c ∧ n ≤ c.size ∧ ∀ j v, t.get j = some v → j < n ∧ VR θ v (c.getD j Go.undef) := by
  rcases hx with ⟨g, s, hx⟩ | hx
  · obtain ⟨o, h2, c, el, rfl, hf, h3, h4, _⟩ := h.blk x _ r hx hr
    exact ⟨c, el, _, h2, hf, h4, h3⟩
  · obtain ⟨o, h2, c, el, fr, rfl, hf, h3, h4⟩ := h.blk x _ r hx hr
    exact ⟨c, el, fr, h2, hf, h3, h4⟩

/-- the cells from 'o' on, as they are read -/
def seg (c : Array Value) (o n : Nat) : Array Value := ((List.range n).map fun j => c.getD (o + j) Go.undef).toArray
theorem seg_size (c : Array Value) (o n : Nat) : (seg c o n).size = n := by simp [seg]
theorem seg_get (c : Array Value) (o n j : Nat) (h : j < n) : (seg c o n).getD j Go.undef = c.getD (o + j) Go.undef := by
  rw [Array.getD_eq_getD_getElem?]
  simp [seg, h]
theorem seg_flat {c : Array Value} {o n : Nat} (hf : Flat c) (h : ∀ j, j < n → o + j < c.size) : Flat (seg c o n) := by
  intro v hv
  simp only [seg, List.mem_map, List.mem_range] at hv
  obtain ⟨j, hj, rfl⟩ := hv
  refine hf _ ?_
  rw [Array.getD_eq_getD_getElem?, Array.getElem?_eq_getElem (h j hj)]
  simp
theorem run_seg {w : World} {r : Nat} {c : Array Value} {el : TypeId} {fr : Nat × Nat} (hc : w.heap[r]? = some (.cells c el fr)) {o n : Nat} (h : ∀ j, j < n → o + j < c.size) : (loadCells ⟨r, o, none⟩ n).run P w = .ok (seg c o n) w :=
  run_loadCells w _ n (fun j => c.getD (o + j) Go.undef) fun j hj => by rw [Addr.add_of]; exact cell_of hc (h j hj)

/-- a part of a block's tree -/
theorem sub_reads {θ : Th} {sz n o : Nat} {tr t' : PT V} {c : Array Value} (hf : Flat c) (hn : n ≤ c.size) (h : ∀ j v, tr.get j = some v → j < n ∧ VR θ v (c.getD j Go.undef)) (hs : PT.sub sz n tr o = some t') :
    (∀ j, j < sz → o + j < c.size) ∧ TR θ sz t' (seg c o sz) := by
  have h' : ∀ j v, tr.get j = some v → j < n ∧ VR θ v ((c.extract 0 n).getD j Go.undef) := fun j v hj => by
    obtain ⟨h1, h2⟩ := h j v hj
    refine ⟨h1, ?_⟩
    rw [Array.getD_eq_getD_getElem?, Array.getElem?_extract, if_pos (by omega), Nat.zero_add, ← Array.getD_eq_getD_getElem?]
    exact h2
  obtain ⟨h1, h2⟩ := sub_ok (cs := c.extract 0 n) (by simp; omega) h' hs
  have hlt : ∀ j, j < sz → o + j < c.size := fun j hj => by have := h1 (by omega); omega
  refine ⟨hlt, seg_size _ _ _, seg_flat hf hlt, fun j v hj => ?_⟩
  obtain ⟨h3, h4⟩ := h2 j v hj
  have := h1 (by omega)
  refine ⟨h3, ?_⟩
  rw [seg_get _ _ _ _ h3]
  rw [Array.getD_eq_getD_getElem?, Array.getElem?_extract, if_pos (by omega), Nat.zero_add, ← Array.getD_eq_getD_getElem?] at h4
  exact h4

/-- a load -/
theorem loadC_ok {θ : Th} {m : A → Option B} {nx : A} {w : World} (hm : MR P θ m nx w) {t : TypeId} {v : V} {cv : Value} (hv : VR θ v cv) {h : Hp} (hh : ∀ x b, hget h x = some b → m x = some b) {k : V → Bool} (hk : (loadC P false t).f v h k = true) :
    ∃ u cu, k u = true ∧ VR θ u cu ∧ (∃ ad, cv = .pointer (some ad) ∧ (loadVar t ad).run P w = .ok cu w) := by
  unfold loadC at hk
  cases ha : aggT P t with
  | none => simp only [ha] at hk; cases hk
  | some q =>
    cases hs : sizeT P t with
    | none => simp only [ha, hs] at hk; cases q <;> cases hk
    | some sz =>
      cases q with
      | true =>
        simp only [ha, hs] at hk
        obtain ⟨x, o, rfl, h1⟩ := asP_true hk
        obtain ⟨n, tr, hx, h2⟩ := hreadK_true h1
        obtain ⟨t', ht', h3⟩ := subK_true h2
        cases hv with
        | p _ _ r hr =>
          obtain ⟨c, el, fr, hc, hfl, hn, hcv⟩ := hm.reads (hx.imp (fun ⟨g, s, hx⟩ => ⟨g, s, hh _ _ hx⟩) (hh _ _)) hr
          obtain ⟨g1, g2⟩ := sub_reads hfl hn hcv ht'
          refine ⟨_, _, h3, VR.agg_mk g2, _, rfl, ?_⟩
          simp only [loadVar, Sem.run_bind, run_isAgg ha, Result.andThen_ok, if_true, run_sizeOf hs, run_seg hc g1, Sem.run_pure]
      | false =>
        simp only [ha, hs] at hk
        obtain ⟨x, o, rfl, h1⟩ := asP_true hk
        obtain ⟨n, tr, hx, h2⟩ := hreadK_true h1
        obtain ⟨u, hu, h3⟩ := getK_true h2
        cases hv with
        | p _ _ r hr =>
          obtain ⟨c, el, fr, hc, hfl, hn, hcv⟩ := hm.reads (hx.imp (fun ⟨g, s, hx⟩ => ⟨g, s, hh _ _ hx⟩) (hh _ _)) hr
          obtain ⟨g1, g2⟩ := hcv o u hu
          refine ⟨u, _, h3, g2, _, rfl, ?_⟩
          have hcell := cell_of hc (o := o) (by omega)
          simp [loadVar, run_isAgg ha, hcell]

/-! ### stores -/
theorem run_storeCells {r : Nat} : ∀ (vs : List Value) (c : Array Value) (el : TypeId) (o : Nat) (i : Nat) (w : World), w.heap[r]? = some (.cells c el (0, 0)) → (∀ v ∈ vs, flat v = true) → o + i + vs.length ≤ c.size →
    ∃ w', (storeCells ⟨r, o, none⟩ vs i).run P w = .ok () w' ∧ w'.heap = w.heap.setIfInBounds r (.cells ((vs.zipIdx i).foldl (fun (cs : Array Value) (p : Value × Nat) => cs.setIfInBounds (o + p.2) p.1) c) el (0, 0)) ∧
      w'.tape = w.tape ∧ w'.os = w.os ∧ w'.output = w.output := by
  intro vs
  induction vs with
  | nil =>
    intro c el o i w hc hv hl
    refine ⟨w, rfl, ?_, rfl, rfl, rfl⟩
    apply Array.ext_getElem?
    intro j
    rw [Array.getElem?_setIfInBounds]
    split
    · rename_i e; subst e
      obtain ⟨h1, h2⟩ := Array.getElem?_eq_some_iff.1 hc
      rw [if_pos h1]; exact hc
    · rfl
  | cons v vs ih =>
    intro c el o i w hc hv hl
    have hfv := hv v (by simp)
    have hlt : r < w.heap.size := (Array.getElem?_eq_some_iff.1 hc).1
    have hcell := cell_of hc (o := o + i) (by simp only [List.length_cons] at hl; omega)
    have hfz : w.frozen? ⟨r, o + i, none⟩ = false := by
      unfold World.frozen?
      simp only [hc]
      simp
    have hw1 : (w.setCell ⟨r, o + i, none⟩ v).heap = w.heap.setIfInBounds r (.cells (c.setIfInBounds (o + i) v) el (0, 0)) := by
      unfold World.setCell
      simp only
      apply Array.ext_getElem?
      intro j
      rw [Array.getElem?_modify, Array.getElem?_setIfInBounds]
      split
      · rename_i e; subst e
        rw [hc]; rfl
      · rfl
    have hc1 : (w.setCell ⟨r, o + i, none⟩ v).heap[r]? = some (.cells (c.setIfInBounds (o + i) v) el (0, 0)) := by
      rw [hw1, Array.getElem?_setIfInBounds, if_pos rfl, if_pos hlt]
    obtain ⟨w', h1, h2, h3, h4, h5⟩ := ih (c.setIfInBounds (o + i) v) el o (i + 1) (w.setCell ⟨r, o + i, none⟩ v) hc1 (fun u hu => hv u (by simp [hu])) (by simp only [List.length_cons] at hl; simp; omega)
    refine ⟨w', ?_, ?_, h3, h4, h5⟩
    · have hst : (store (({ block := r, off := o, spot := none } : Addr).add i) v).run P w = .ok () (w.setCell ⟨r, o + i, none⟩ v) := by
        rw [Addr.add_of]
        unfold store
        cases v <;> first | exact absurd hfv Bool.false_ne_true | simp [Sem.run, hcell, hfz]
      simp only [storeCells, Sem.run_bind, hst, Result.andThen_ok]
      exact h1
    · rw [h2, hw1]
      simp only [List.zipIdx_cons, List.foldl_cons]
      rw [Array.setIfInBounds_setIfInBounds]

/-- cells laid into a block -/
theorem wr_ok {θ : Th} {h : Hp} {nx : A} {w : World} (hm : MRx P θ h nx w) {x : A} {n s : Nat} {g : Bool} {tr t' : PT V} (hx : hget h x = some (.cells n g s tr)) {r : Nat} (hr : θ.ρ x = some r) {o : Nat} {vs : List Value}
    (hvf : ∀ v ∈ vs, flat v = true) (ho : o + vs.length ≤ n)
    (ht : ∀ c : Array Value, n ≤ c.size → Flat c → (∀ j v, tr.get j = some v → j < n ∧ VR θ v (c.getD j Go.undef)) → ∀ j v, t'.get j = some v → j < n ∧ VR θ v ((over c o vs).getD j Go.undef)) :
    ∃ w', (storeCells ⟨r, o, none⟩ vs 0).run P w = .ok () w' ∧ MRx P θ (hset h x (some (.cells n g s t'))) nx w' ∧ Fm θ (hget h) w θ (hget (hset h x (some (.cells n g s t')))) w' := by
  obtain ⟨ob, h2, c, el, rfl, hf, h3, h4, h5, h6⟩ := hm.blk x _ r hx hr
  obtain ⟨w', e1, e2, e3, e4, e5⟩ := run_storeCells (P := P) vs c el o 0 w h2 hvf (by omega)
  refine ⟨w', e1, ?_⟩
  have hsz := (foldl_cells vs c o 0).1
  have hb : BR θ x (.cells n g s t') (.cells (over c o vs) el (0, 0)) :=
    ⟨_, el, rfl, foldl_flat vs hvf c o 0 hf, ht c h4 hf h3, by unfold over; rw [hsz]; exact h4, fun e => by unfold over; rw [hsz]; exact h5 e, fun e => by unfold over; rw [hsz]; exact h6 e⟩
  have := MR.set hm hx rfl hr hb w' e2 e3 e4 e5
  simp only [MRx, hget_hset_some]
  exact this

theorem storeC_ok {θ : Th} {h : Hp} {nx : A} {ds : List D} {rnd : Option A} {w : World} (hm : MRx P θ h nx w) {t : TypeId} {a v : V} {ca cv : Value} (ha : VR θ a ca) (hv : VR θ v cv) {k : Cx → Bool} (hk : (storeC P t).f a v ⟨h, nx, ds, rnd⟩ k = true) :
    ∃ h' w', k ⟨h', nx, ds, rnd⟩ = true ∧ MRx P θ h' nx w' ∧ Fm θ (hget h) w θ (hget h') w' ∧ ∃ ad, ca = .pointer (some ad) ∧ (storeVar t ad cv).run P w = .ok () w' := by
  unfold storeC at hk
  cases hag : aggT P t with
  | none => simp only [hag] at hk; cases hk
  | some q =>
    cases hs : sizeT P t with
    | none => simp only [hag, hs] at hk; cases q <;> cases hk
    | some sz =>
      cases q with
      | true =>
        simp only [hag, hs] at hk
        obtain ⟨x, o, rfl, h1⟩ := asP_true hk
        obtain ⟨m, tv, rfl, h2⟩ := asAgg_true h1
        obtain ⟨n, g, s, tr, hx, h3⟩ := hcellsK_true h2
        obtain ⟨hmsz, h4⟩ := iteK_true h3
        obtain ⟨hle, h5⟩ := iteK_true h4
        obtain rfl : m = sz := Nat.eq_of_beq_eq_true hmsz
        have hle : o + m ≤ n := Nat.le_of_ble_eq_true hle
        obtain ⟨vs, rfl, htr⟩ := hv.agg_inv
        cases ha with
        | p _ _ r hr =>
          have hlen : vs.toList.length = m := by simpa using htr.1
          have hrun : ∀ w', (storeCells (⟨r, o, none⟩ : Addr) vs.toList 0).run P w = .ok () w' → (storeVar t ⟨r, o, none⟩ (.agg vs)).run P w = .ok () w' := fun w' hw => by
            have hsz : (Value.agg vs).cells.size = m := htr.1
            simp [storeVar, Sem.run_bind, run_sizeOf hs, hsz]
            exact hw
          cases hq : Nat.beq n m with
          | true =>
            rw [hq] at h5
            obtain rfl : n = m := Nat.eq_of_beq_eq_true hq
            rw [iteK_eq, hsetK_eq] at h5
            obtain rfl : o = 0 := by omega
            obtain ⟨w', e1, e2, e3⟩ := wr_ok hm (t' := tv) hx hr (o := 0) (vs := vs.toList) htr.2.1 (by omega) (fun c hc hf hcv j u hj => by
              obtain ⟨hj1, hj2⟩ := htr.2.2 j u hj
              refine ⟨hj1, ?_⟩
              unfold over
              rw [(foldl_cells vs.toList c 0 0).2 j (by omega), if_pos (by omega)]
              simpa [Array.getD_eq_getD_getElem?] using hj2)
            exact ⟨_, w', h5, e2, e3, _, rfl, hrun _ e1⟩
          | false =>
            rw [hq] at h5
            rw [iteK_eq] at h5
            obtain ⟨t', hmv, h6⟩ := moveK_true h5
            rw [hsetK_eq] at h6
            obtain ⟨w', e1, e2, e3⟩ := wr_ok hm (t' := t') hx hr (o := o) (vs := vs.toList) htr.2.1 (by omega) (fun c hc hf hcv => (over_ok (so := 0) hc hf hcv hlen htr.2.1 (fun j u hj hg => by
              rw [Nat.zero_add] at hg
              simpa [Array.getD_eq_getD_getElem?] using (htr.2.2 j u hg).2) hle hmv).2.2)
            exact ⟨_, w', h6, e2, e3, _, rfl, hrun _ e1⟩
      | false =>
        rcases sz with _ | _ | sz
        · simp only [hag, hs] at hk; cases hk
        · simp only [hag, hs] at hk
          obtain ⟨x, o, rfl, h1⟩ := asP_true hk
          obtain ⟨hcell, h2⟩ := cellK_true h1
          obtain ⟨n, g, s, tr, hx, h3⟩ := hcellsK_true h2
          obtain ⟨hle, h4⟩ := iteK_true h3
          have hle : o + 1 ≤ n := Nat.le_of_ble_eq_true hle
          rw [PT.setK_eq, hsetK_eq] at h4
          obtain ⟨hc1, hc2⟩ := hv.not_agg hcell
          cases ha with
          | p _ _ r hr =>
            obtain ⟨w', e1, e2, e3⟩ := wr_ok hm (t' := tr.set o v) hx hr (o := o) (vs := [cv]) (by simpa using hc2) (by simpa using hle) (fun c hc hf hcv j u hj => by
              have f2 := (foldl_cells [cv] c o 0).2
              rw [PT.get_set] at hj
              by_cases e : j = o
              · subst e
                rw [if_pos rfl] at hj
                obtain rfl : v = u := by simpa using hj
                refine ⟨by omega, ?_⟩
                unfold over
                rw [f2 j (by omega), if_pos (by simp)]
                simpa using hv
              · rw [if_neg e] at hj
                obtain ⟨g1, g2⟩ := hcv j u hj
                refine ⟨g1, ?_⟩
                unfold over
                rw [f2 j (by omega), if_neg (by simp only [List.length_cons, List.length_nil]; omega)]
                exact g2)
            refine ⟨_, w', h4, e2, e3, _, rfl, ?_⟩
            simp [storeVar, Sem.run_bind, run_sizeOf hs, hc1]
            exact e1
        · simp only [hag, hs] at hk; cases hk
end Go.Ax

namespace Go.Ax
variable {P : Program}

/-- what an operation that may touch memory brings -/
def OpOk (P : Program) (θ : Th) (h : Hp) (nx : A) (ds : List D) (rnd : Option A) (w : World) (s : Sem Next) (k : V → Cx → Bool) : Prop :=
  ∃ θ' h' nx' v cv nt w', k v ⟨h', nx', ds, rnd⟩ = true ∧ VR θ' v cv ∧ MRx P θ' h' nx' w' ∧ Fm θ (hget h) w θ' (hget h') w' ∧ s.run P w = .ok nt w' ∧ (nt = .value cv ∨ (nt = .skip ∧ cv = Go.undef))

section
variable {θ : Th} {e : Env} {a : Act} {h : Hp} {nx : A} {ds : List D} {rnd : Option A} {w : World} {o : Oper} {k : V → Cx → Bool}

theorem OpOk.of_pure (hm : MRx P θ h nx w) (hp : PureOk P θ a o (fun v => k v ⟨h, nx, ds, rnd⟩)) : OpOk P θ h nx ds rnd w (execOp a.eval o) k := by
  obtain ⟨v, cv, h1, h2, h3⟩ := hp
  exact ⟨θ, h, nx, v, cv, _, w, h1, h2, hm, Fm.refl _ _ _, h3 w, .inl rfl⟩

/-- what an operation that only reads brings -/
def RdOk (P : Program) (θ : Th) (w : World) (s : Sem Next) (k : V → Bool) : Prop := ∃ v cv, k v = true ∧ VR θ v cv ∧ s.run P w = .ok (.value cv) w
theorem OpOk.of_rd {s : Sem Next} (hm : MRx P θ h nx w) (hr : RdOk P θ w s (fun v => k v ⟨h, nx, ds, rnd⟩)) : OpOk P θ h nx ds rnd w s k := by
  obtain ⟨v, cv, h1, h2, h3⟩ := hr
  exact ⟨θ, h, nx, v, cv, _, w, h1, h2, hm, Fm.refl _ _ _, h3, .inl rfl⟩
theorem RdOk.of_pure {k : V → Bool} (hp : PureOk P θ a o k) : RdOk P θ w (execOp a.eval o) k := by
  obtain ⟨v, cv, h1, h2, h3⟩ := hp
  exact ⟨v, cv, h1, h2, h3 w⟩
theorem RdOk.of_val {s : Sem Value} {k : V → Bool} {v : V} {cv : Value} (hk : k v = true) (hv : VR θ v cv) (hs : s.run P w = .ok cv w) (he : execOp a.eval o = (do pure (.value (← s)))) : RdOk P θ w (execOp a.eval o) k :=
  ⟨v, cv, hk, hv, by rw [he]; simp [hs]⟩

theorem OpOk.of_val {s : Sem Value} {θ' : Th} {h' : Hp} {nx' : A} {v : V} {cv : Value} {w' : World} (hk : k v ⟨h', nx', ds, rnd⟩ = true) (hv : VR θ' v cv) (hm : MRx P θ' h' nx' w') (hf : Fm θ (hget h) w θ' (hget h') w')
    (hs : s.run P w = .ok cv w') (he : execOp a.eval o = (do pure (.value (← s)))) : OpOk P θ h nx ds rnd w (execOp a.eval o) k :=
  ⟨θ', h', nx', v, cv, _, w', hk, hv, hm, hf, by rw [he]; simp [hs], .inl rfl⟩

/-- a new row of cells -/
theorem new_cellsT (hm : MRx P θ h nx w) {ny : A} (hy : nx.next = some ny) {n : Nat} {tr : PT V} {c : Array Value} (el : TypeId) {tg : Nat} (htg : Tag false tg el) (ht : TR θ n tr c) :
    MRx P (θ.add nx w.heap.size 0) (hset h nx (some (.cells n false tg tr))) ny (World.put w (.cells c el)) ∧
    Fm θ (hget h) w (θ.add nx w.heap.size 0) (hget (hset h nx (some (.cells n false tg tr)))) (World.put w (.cells c el)) ∧
    (newRow el c).run P w = .ok ⟨w.heap.size, 0, none⟩ (World.put w (.cells c el)) := by
  have hle := Th.le_add (hm.fresh nx (Nat.le_refl _)) w.heap.size 0
  obtain ⟨h1, h2, h3⟩ := ht
  have hb : BR (θ.add nx w.heap.size 0) nx (.cells n false tg tr) (.cells c el (0, 0)) :=
    ⟨c, ⟨el, htg⟩, rfl, h2, fun j v hj => ⟨(h3 j v hj).1, (h3 j v hj).2.mono hle⟩, by omega, fun _ => h1, fun e => by cases e⟩
  have := MR.new hm hy 0 hb
  simp only [MRx, hget_hset_some]
  exact ⟨this.1, this.2, by simp [newRow, newObj, Sem.run, World.put]⟩

theorem new_cells (hm : MRx P θ h nx w) {ny : A} (hy : nx.next = some ny) {n : Nat} {tr : PT V} {c : Array Value} (el : TypeId) (ht : TR θ n tr c) :
    MRx P (θ.add nx w.heap.size 0) (hset h nx (some (.cells n false 0 tr))) ny (World.put w (.cells c el)) ∧
    Fm θ (hget h) w (θ.add nx w.heap.size 0) (hget (hset h nx (some (.cells n false 0 tr)))) (World.put w (.cells c el)) ∧
    (newRow el c).run P w = .ok ⟨w.heap.size, 0, none⟩ (World.put w (.cells c el)) := new_cellsT hm hy el (Tag.none el) ht

theorem new_p (θ : Th) (nx : A) (r : Nat) : VR (θ.add nx r 0) (.p nx 0) (.pointer (some ⟨r, 0, none⟩)) := VR.p _ _ _ (Th.add_self _ _ _ _)

theorem ok_alloc {t : TypeId} (ho : o.op = .alloc t) (hm : MRx P θ h nx w) (hk : (allocC P t).f ⟨h, nx, ds, rnd⟩ k = true) : OpOk P θ h nx ds rnd w (execOp a.eval o) k := by
  unfold allocC at hk
  cases hz : zeroT P t with
  | none => simp only [hz] at hk; cases hk
  | some nz =>
    obtain ⟨n, tr⟩ := nz
    simp only [hz] at hk
    obtain ⟨ny, hy, h1⟩ := newK_true hk
    obtain ⟨i, z, hi, hzv, htr⟩ := zeroT_some (θ := θ) hz
    obtain ⟨g1, g2, g3⟩ := new_cellsT hm hy t (Tag.same t) htr
    refine OpOk.of_val (s := Instr.alloc t true (.tuple #[])) h1 (new_p _ _ _) g1 g2 ?_ (by unfold execOp; rw [ho])
    simp [Instr.alloc, Sem.run_bind, run_zero hi hzv, newVar, g3]

theorem ok_box {t : TypeId} {x : Operand} (ho : o.op = .box t x) (hm : MRx P θ h nx w) {v : V} (hv : VR θ v (a.eval x)) (hk : boxV v ⟨h, nx, ds, rnd⟩ k = true) : OpOk P θ h nx ds rnd w (execOp a.eval o) k := by
  unfold boxV at hk
  obtain ⟨n, tr, hc, h0⟩ := cellsK_true hk
  obtain ⟨ny, hy, h1⟩ := newK_true h0
  obtain ⟨g1, g2, g3⟩ := new_cells hm hy t (cells_ok hv hc)
  refine OpOk.of_val (s := Instr.box t (a.eval x)) h1 (new_p _ _ _) g1 g2 ?_ (by unfold execOp; rw [ho])
  simp [Instr.box, Sem.run_bind, newVar, g3]

theorem ok_makeMap {t : TypeId} (ho : o.op = .makeMap t none) (hm : MRx P θ h nx w) (hk : newK h nx (.map []) (fun h' nx' => k (.m nx) ⟨h', nx', ds, rnd⟩) false = true) : OpOk P θ h nx ds rnd w (execOp a.eval o) k := by
  obtain ⟨ny, hy, h1⟩ := newK_true hk
  have hb : BR (θ.add nx w.heap.size 0) nx (.map []) (.map #[] 0) := ⟨#[], 0, rfl, ER.nil⟩
  have := MR.new hm hy 0 hb
  refine OpOk.of_val (s := Instr.makeMap t none) (θ' := θ.add nx w.heap.size 0) (w' := World.put w (.map #[] 0)) h1 (VR.m _ _ (Th.add_self _ _ _ _)) (by simp only [MRx, hget_hset_some]; exact this.1) (by simp only [hget_hset_some]; exact this.2) ?_ (by unfold execOp; rw [ho]; rfl)
  simp [Instr.makeMap, newObj, Sem.run, World.put]

theorem rd_load {t : TypeId} {x : Operand} (ho : o.op = .load t x) (hm : MRx P θ h nx w) {v : V} (hv : VR θ v (a.eval x)) {k : V → Bool} (hk : (loadC P false t).f v h k = true) : RdOk P θ w (execOp a.eval o) k := by
  obtain ⟨u, cu, h1, h2, ad, h3, h4⟩ := loadC_ok hm hv (fun _ _ => id) hk
  refine RdOk.of_val (s := Instr.loadAt t (a.eval x)) h1 h2 ?_ (by unfold execOp; rw [ho])
  simp [Instr.loadAt, Sem.run_bind, h3, Instr.sureAddr, h4]

theorem ok_store {t : TypeId} {x y : Operand} (ho : o.op = .store t x y) (hm : MRx P θ h nx w) {u v : V} (hu : VR θ u (a.eval x)) (hv : VR θ v (a.eval y)) (hk : (storeC P t).f u v ⟨h, nx, ds, rnd⟩ (fun cx => k .undef cx) = true) : OpOk P θ h nx ds rnd w (execOp a.eval o) k := by
  obtain ⟨h', w', h1, h2, h3, ad, h4, h5⟩ := storeC_ok hm hu hv hk
  refine ⟨θ, h', nx, .undef, Go.undef, .skip, w', h1, VR.undef _, h2, h3, ?_, .inr ⟨rfl, rfl⟩⟩
  unfold execOp
  rw [ho]
  simp [Instr.storeAt, Sem.run_bind, h4, Instr.sureAddr, h5]
end

/-! ### zero cells, many times -/
theorem repK_ok {zn : Nat} {z : PT V} : ∀ (n at_ : Nat) (t : PT V) (k : PT V → Bool), repK zn z n at_ t k false = true →
    ∃ t', k t' = true ∧ ∀ j, t'.get j = if at_ ≤ j ∧ j < at_ + n * zn then z.get ((j - at_) % zn) else t.get j := by
  intro n
  induction n with
  | zero => intro at_ t k h; exact ⟨t, h, fun j => by rw [if_neg (by omega)]⟩
  | succ n ih =>
    intro at_ t k h
    have h' : moveK zn z 0 t at_ (fun t => forceN (Nat.add at_ zn) fun at_ => repK zn z n at_ t k false) false = true := h
    obtain ⟨t1, hm, h1⟩ := moveK_true h'
    rw [forceN_eq] at h1
    obtain ⟨t', h2, h3⟩ := ih _ _ _ h1
    refine ⟨t', h2, fun j => ?_⟩
    rw [h3 j, PT.get_move _ _ _ _ _ _ hm j]
    have e : (n + 1) * zn = n * zn + zn := Nat.succ_mul n zn
    have ea : Nat.add at_ zn = at_ + zn := rfl
    rw [e, ea]
    by_cases c1 : at_ + zn ≤ j ∧ j < at_ + zn + n * zn
    · rw [if_pos c1, if_pos (by omega)]
      congr 1
      have : j - at_ = (j - (at_ + zn)) + zn := by omega
      rw [this, Nat.add_mod_right]
    · rw [if_neg c1]
      by_cases c2 : at_ ≤ j ∧ j < at_ + zn
      · rw [if_pos c2, if_pos (by omega), Nat.zero_add, Nat.mod_eq_of_lt (by omega)]
      · rw [if_neg c2, if_neg (by omega)]

theorem fillT_get {v : V} : ∀ (f n j : Nat) (u : V), (fillT v f n).get j = some u → j < n ∧ u = v := by
  intro f
  induction f with
  | zero => intro n j u h; exact absurd h (by rw [show fillT v 0 n = PT.nil from rfl, PT.get_nil]; simp)
  | succ f ih =>
    intro n j u h
    cases n with
    | zero => exact absurd h (by rw [show fillT v (f + 1) 0 = PT.nil from rfl, PT.get_nil]; simp)
    | succ m =>
      have e : fillT v (f + 1) (m + 1) = .node (fillT v f ((m + 1) / 2)) (some v) (fillT v f (m / 2)) := rfl
      rw [e] at h
      cases j with
      | zero => simp only [PT.get, Option.some.injEq] at h; exact ⟨by omega, h.symm⟩
      | succ j =>
        simp only [PT.get] at h
        cases hq : Nat.beq (j % 2) 0 with
        | true =>
          rw [hq, cond_true] at h
          have hq := Nat.eq_of_beq_eq_true hq
          obtain ⟨h1, h2⟩ := ih _ _ _ h
          exact ⟨by omega, h2⟩
        | false =>
          rw [hq, cond_false] at h
          have hq := Nat.ne_of_beq_eq_false hq
          obtain ⟨h1, h2⟩ := ih _ _ _ h
          exact ⟨by omega, h2⟩

/-- the zero cells, many times -/
def reps (z : Array Value) (n : Nat) : Array Value := (Array.range n).map (z[· % z.size]!)
theorem reps_ok {θ : Th} {zn : Nat} {z t : PT V} {cs : Array Value} (h : TR θ zn z cs) {n : Nat} (ht : ∀ j v, t.get j = some v → j < n * zn ∧ z.get (j % zn) = some v) : TR θ (n * zn) t (reps cs (n * zn)) := by
  obtain ⟨h1, h2, h3⟩ := h
  refine ⟨by simp [reps], fun v hv => ?_, fun j v hj => ?_⟩
  · simp only [reps, Array.toList_map, List.mem_map, Array.mem_toList_iff, Array.mem_range] at hv
    obtain ⟨i, hi, rfl⟩ := hv
    have hz : 0 < zn := Nat.pos_of_ne_zero fun e => by rw [e] at hi; omega
    have hlt : i % cs.size < cs.size := Nat.mod_lt _ (by omega)
    rw [getElem!_pos cs _ hlt]
    exact h2 _ (by simp)
  · obtain ⟨g1, g2⟩ := ht j v hj
    refine ⟨g1, ?_⟩
    obtain ⟨g3, g4⟩ := h3 _ _ g2
    have hlt : j % cs.size < cs.size := by rw [h1]; exact g3
    have e : (reps cs (n * zn)).getD j Go.undef = cs.getD (j % zn) Go.undef := by
      rw [Array.getD_eq_getD_getElem?, Array.getD_eq_getD_getElem?]
      simp only [reps, Array.getElem?_map, Array.getElem?_range, if_pos g1, Option.map_some, Option.getD_some]
      rw [getElem!_pos cs _ hlt]
      simp only [h1]
      rw [Array.getElem?_eq_getElem (by rw [h1]; exact g3)]; rfl
    rw [e]; exact g4
end Go.Ax

namespace Go.Ax
variable {P : Program}
section
variable {θ : Th} {e : Env} {a : Act} {h : Hp} {nx : A} {ds : List D} {rnd : Option A} {w : World} {o : Oper} {k : V → Cx → Bool}

theorem zeroIs_true {t : TypeId} {sz : Nat} (h : zeroIs P t sz = true) : ∃ z, zeroT P t = some (sz, z) := by
  unfold zeroIs at h
  split at h
  · rename_i zn z hz
    obtain rfl : zn = sz := Nat.eq_of_beq_eq_true h
    exact ⟨z, hz⟩
  · cases h

theorem fill_ok {θ : Th} {zn : Nat} {z v : V} {cs : Array Value} (h : TR θ 1 (.node .nil (some v) .nil) cs) (f n : Nat) : TR θ (n * 1) (fillT v f n) (reps cs (n * 1)) :=
  reps_ok h fun j u hj => by
    obtain ⟨h1, rfl⟩ := fillT_get _ _ _ _ hj
    exact ⟨by omega, by rw [Nat.mod_one]; rfl⟩

theorem rep_ok {θ : Th} {zn : Nat} {z : PT V} {cs : Array Value} (h : TR θ zn z cs) {n : Nat} {k : PT V → Bool} (hk : repK zn z n 0 .nil k false = true) : ∃ t, k t = true ∧ TR θ (n * zn) t (reps cs (n * zn)) := by
  obtain ⟨t, h1, h2⟩ := repK_ok _ _ _ _ hk
  refine ⟨t, h1, reps_ok h fun j u hj => ?_⟩
  rw [h2 j] at hj
  by_cases c : 0 ≤ j ∧ j < 0 + n * zn
  · rw [if_pos c, Nat.sub_zero] at hj
    exact ⟨by omega, hj⟩
  · rw [if_neg c, PT.get_nil] at hj; cases hj

theorem moveK_f (cnt : Nat) (s : PT V) (so : Nat) (d : PT V) (at_ : Nat) (q : PT V → OC) (ev : Ev) (e : Env) (cx : Cx) (k : V → Cx → Bool) : (moveK cnt s so d at_ q badO).f ev e cx k = moveK cnt s so d at_ (fun t => (q t).f ev e cx k) false := by
  rw [moveK_eq, moveK_eq]
  cases s.move cnt so d at_ <;> rfl
theorem repK_f (zn : Nat) (z : PT V) (q : PT V → OC) (ev : Ev) (e : Env) (cx : Cx) (k : V → Cx → Bool) : ∀ (n at_ : Nat) (t : PT V), (repK zn z n at_ t q badO).f ev e cx k = repK zn z n at_ t (fun t => (q t).f ev e cx k) false := by
  intro n
  induction n with
  | zero => intro at_ t; rfl
  | succ n ih =>
    intro at_ t
    show (moveK zn z 0 t at_ (fun t => forceN (Nat.add at_ zn) fun at_ => repK zn z n at_ t q badO) badO).f ev e cx k = moveK zn z 0 t at_ (fun t => forceN (Nat.add at_ zn) fun at_ => repK zn z n at_ t (fun t => (q t).f ev e cx k) false) false
    rw [moveK_f]
    congr 1
    funext t
    rw [forceN_eq, forceN_eq]
    exact ih _ _

/-- the same, where what is made is a closure -/
theorem repC_ok {θ : Th} {zn : Nat} {z : PT V} {cs : Array Value} (h : TR θ zn z cs) {n : Nat} {q : PT V → OC} {ev : Ev} {e : Env} {cx : Cx} {k : V → Cx → Bool} (hk : (repK zn z n 0 .nil q badO).f ev e cx k = true) : ∃ t, (q t).f ev e cx k = true ∧ TR θ (n * zn) t (reps cs (n * zn)) := by
  have hh : repK zn z n 0 .nil (fun t => (q t).f ev e cx k) false = true := by
    rw [← hk]; exact (repK_f zn z q ev e cx k n 0 .nil).symm
  exact rep_ok h hh

theorem zerosC_ok {t : TypeId} {zn : Nat} {z : PT V} {cs : Array Value} (hz : zeroT P t = some (zn, z)) (ht : TR θ zn z cs) {n : Nat} {k : PT V → Bool} (hk : (zerosC P t).f n k = true) : ∃ tr, k tr = true ∧ TR θ (n * zn) tr (reps cs (n * zn)) := by
  unfold zerosC at hk
  rw [hz] at hk
  split at hk
  · rename_i v he
    simp only [Option.some.injEq, Prod.mk.injEq] at he
    obtain ⟨rfl, rfl⟩ := he
    exact ⟨_, hk, fill_ok (zn := 1) (z := v) ht _ _⟩
  · rename_i zn' z' _ he
    simp only [Option.some.injEq, Prod.mk.injEq] at he
    obtain ⟨rfl, rfl⟩ := he
    exact rep_ok ht hk
  · cases hk

theorem run_zeros {t : TypeId} {i : TypeInfo} {z : Value} (hi : P.info? t = some i) (hz : i.zero = some z) (n : Nat) (w : World) :
    ((if n = 0 then pure #[] else do pure (← zeroValue t).cells : Sem (Array Value))).run P w = .ok (if n = 0 then #[] else z.cells) w := by
  split
  · rfl
  · simp [run_zero hi hz]
theorem reps_if (z : Array Value) (n : Nat) : reps (if n = 0 then #[] else z) n = reps z n := by
  split
  · rename_i h; subst h; simp [reps]
  · rfl

theorem ok_makeSlice {t : TypeId} {l c : Operand} (ho : o.op = .makeSlice t l c) (hm : MRx P θ h nx w) (hl : VR θ (opnd e l) (a.eval l)) (hc : VR θ (opnd e c) (a.eval c)) {ev : Ev} (hk : (makeSliceC P t l c).f ev e ⟨h, nx, ds, rnd⟩ k = true) : OpOk P θ h nx ds rnd w (execOp a.eval o) k := by
  unfold makeSliceC at hk
  cases hd : undF P t with
  | none => simp only [hd] at hk; cases hk
  | some d =>
    cases d with
    | slice el =>
      simp only [hd] at hk
      cases hs : sizeT P el with
      | none => simp only [hs] at hk; cases hk
      | some sz =>
        simp only [hs] at hk
        cases hzi : zeroIs P el sz with
        | false => rw [hzi] at hk; cases hk
        | true =>
          rw [hzi, cond_true] at hk
          simp only [Clo.on_f, opndC_eq] at hk
          obtain ⟨kc, ci, hce, hci, h1⟩ := idxK_true hc hk
          obtain ⟨kl, li, hle, hli, h2⟩ := idxK_true hl h1
          rw [forceN_eq] at h2
          obtain ⟨h3, h4⟩ := iteK_true h2
          have h3 := ble_le h3
          obtain ⟨z, hz⟩ := zeroIs_true hzi
          obtain ⟨i, zv, hi, hzv, htr⟩ := zeroT_some (θ := θ) hz
          obtain ⟨tr, h5, htr2⟩ := zerosC_ok hz htr h4
          obtain ⟨ny, hy, h6⟩ := newK_true h5
          obtain ⟨g1, g2, g3⟩ := new_cells hm hy el htr2
          have hby : bytesT P el = i.bytes := by
            unfold bytesT
            have : infoF P el = some i := by
              cases hq : infoF P el with
              | none => unfold sizeT at hs; rw [hq] at hs; cases hs
              | some j => have := infoF_some hq; rw [hi] at this; exact this.symm
            rw [this]; rfl
          rw [hby] at h3
          have h3' : i.bytes * ci ≤ 1048576 := h3
          refine OpOk.of_val (s := Instr.makeSlice t (a.eval l) (a.eval c)) h6 (VR.slk _ _ _ _ _ (Th.add_self _ _ _ _) hli) g1 g2 ?_ (by unfold execOp; rw [ho])
          have hwc : IntKind.i64.wrap (ci : Int) = ci := by rw [wrap_i64]; omega
          have hwl : IntKind.i64.wrap (li : Int) = li := by rw [wrap_i64]; omega
          have hmul : ((i.bytes : Int) * (ci : Int)) ≤ 1048576 := by rw [← Int.natCast_mul]; exact Int.ofNat_le.2 h3'
          have hno : ¬ ((decide ((ci : Int) < 0) || decide ((i.bytes : Int) * (ci : Int) > 2 ^ 48) || decide ((li : Int) < 0) || decide ((li : Int) > ci)) = true) := by
            simp only [Bool.or_eq_true, decide_eq_true_eq]; omega
          have hti : (typeInfo el).run P w = .ok i w := by simp [typeInfo, hi]
          have hroom : ¬ (ci * i.bytes > roomBytes) := by unfold roomBytes; rw [Nat.mul_comm]; omega
          simp only [Instr.makeSlice, Sem.run_bind, run_under hd, Result.andThen_ok, hle, hce, asInt, asIntOf, Sem.run_pure, hti, hwc, hwl]
          rw [if_neg hno]
          simp only [Int.toNat_natCast, Sem.run_bind, askRoom, if_neg hroom, Sem.run_pure, Result.andThen_ok, run_sizeOf hs]
          by_cases h0 : ci * sz = 0
          · rw [if_pos h0]
            have e : Array.map (fun x => (#[] : Array Value)[x % (#[] : Array Value).size]!) (Array.range (ci * sz)) = reps zv.cells (ci * sz) := by rw [h0]; simp [reps]
            simp only [Sem.run_bind, Sem.run_pure, Result.andThen_ok, e, g3]
          · rw [if_neg h0]
            have e : Array.map (fun x => zv.cells[x % zv.cells.size]!) (Array.range (ci * sz)) = reps zv.cells (ci * sz) := rfl
            simp only [Sem.run_bind, run_zero hi hzv, Sem.run_pure, Result.andThen_ok, e, g3]
    | _ => simp only [hd] at hk; cases hk

theorem ok_buildSlice {t : TypeId} {len : Nat} {parts : Array (Nat × Operand)} (ho : o.op = .buildSlice t len parts) (hm : MRx P θ h nx w) (hp : ∀ p ∈ parts.toList, VR θ (opnd e p.2) (a.eval p.2)) {ev : Ev} (hk : (buildSliceC P t len parts.toList).f ev e ⟨h, nx, ds, rnd⟩ k = true) : OpOk P θ h nx ds rnd w (execOp a.eval o) k := by
  unfold buildSliceC at hk
  cases hd : undF P t with
  | none => simp only [hd] at hk; cases hk
  | some d =>
    cases d with
    | slice el =>
      simp only [hd] at hk
      cases hs : sizeT P el with
      | none => simp only [hs] at hk; cases hk
      | some sz =>
        cases hz : zeroT P el with
        | none => simp only [hs, hz] at hk; cases hk
        | some nz =>
          obtain ⟨zn, z⟩ := nz
          simp only [hs, hz] at hk
          cases hb : (Nat.beq sz zn && Nat.ble (Nat.mul len sz) 65536) with
          | false => rw [hb] at hk; cases hk
          | true =>
            rw [hb, cond_true] at hk
            rw [Bool.and_eq_true] at hb
            obtain rfl : sz = zn := Nat.eq_of_beq_eq_true hb.1
            have hle : len * sz ≤ 65536 := ble_le hb.2
            obtain ⟨i, zv, hi, hzv, htr⟩ := zeroT_some (θ := θ) hz
            obtain ⟨t0, h1, ht0⟩ := repC_ok htr hk
            simp only [Clo.on_f] at h1
            obtain ⟨t', cs', hfill, htr', h2⟩ := puts_ok (θ := θ) (e := e) (a := a) (fun i => some (i * sz, sz)) parts.toList (parts.toList.map fun (i, x) => (i * sz, sz, x)) (by simp) (fun j i' x' hj =>
              ⟨hp (i', x') (List.mem_of_getElem? hj), i' * sz, sz, rfl, by simp [List.getElem?_map, hj]⟩) t0 _ _ ht0 h1
            obtain ⟨ny, hy, h3⟩ := newK_true h2
            obtain ⟨g1, g2, g3⟩ := new_cells hm hy el htr'
            refine OpOk.of_val (s := Instr.buildSlice t len (parts.map fun (i, x) => (i, a.eval x))) h3 (VR.slk _ _ _ _ _ (Th.add_self _ _ _ _) (Nat.le_refl _)) g1 g2 ?_ (by unfold execOp; rw [ho])
            have hno : ¬ (len * sz > 2 ^ 24) := by omega
            have e1 : (parts.map fun x => match x with | (i, x) => (i, a.eval x)).toList = parts.toList.map fun p => (p.1, a.eval p.2) := by simp
            simp only [Instr.buildSlice, Sem.run_bind, run_under hd, Result.andThen_ok, run_sizeOf hs, if_neg hno]
            by_cases h0 : len * sz = 0
            · rw [if_pos h0]
              have e2 : Array.map (fun x => (#[] : Array Value)[x % (#[] : Array Value).size]!) (Array.range (len * sz)) = reps zv.cells (len * sz) := by rw [h0]; simp [reps]
              simp only [Sem.run_bind, Sem.run_pure, Result.andThen_ok, e2, e1, hfill, g3]
            · rw [if_neg h0]
              have e2 : Array.map (fun x => zv.cells[x % zv.cells.size]!) (Array.range (len * sz)) = reps zv.cells (len * sz) := rfl
              simp only [Sem.run_bind, run_zero hi hzv, Sem.run_pure, Result.andThen_ok, e2, e1, hfill, g3]
    | _ => simp only [hd] at hk; cases hk
end
end Go.Ax
