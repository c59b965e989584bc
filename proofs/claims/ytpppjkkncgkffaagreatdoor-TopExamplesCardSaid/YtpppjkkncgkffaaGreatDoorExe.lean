/-
  The executor is right, part 4: regions whose operations may come in another order.
-/
import Derived.Test.YtpppjkkncgkffaaGreatDoorExd
set_option linter.unusedVariables false
set_option linter.unusedSimpArgs false
namespace Go.Ax
variable {P : Program}

/-! ### masks -/
theorem bit_eq (m i : Nat) : bit m i = m.testBit i := by
  unfold bit Nat.testBit
  have e : Nat.land (Nat.shiftRight m i) 1 = (m >>> i) % 2 := Nat.and_one_is_mod (m >>> i)
  have e2 : 1 &&& (m >>> i) = (m >>> i) % 2 := by rw [Nat.and_comm]; exact Nat.and_one_is_mod (m >>> i)
  rw [e, e2]
  rcases Nat.mod_two_eq_zero_or_one (m >>> i) with h | h <;> rw [h] <;> rfl
theorem sub01_bits {a b : Nat} (h : sub01 a b = true) {j : Nat} (hj : a.testBit j = true) : b.testBit j = true := by
  unfold sub01 at h
  have h : a &&& b = a := Nat.eq_of_beq_eq_true h
  rw [← h, Nat.testBit_and, Bool.and_eq_true] at hj
  exact hj.2
theorem lor_bit (X i j : Nat) : (Nat.lor X (Nat.shiftLeft 1 i)).testBit j = (X.testBit j || decide (i = j)) := by
  show (X ||| 1 <<< i).testBit j = _
  rw [Nat.testBit_or, Nat.one_shiftLeft, Nat.testBit_two_pow]
theorem lor_bits (a b j : Nat) : (Nat.lor a b).testBit j = (a.testBit j || b.testBit j) := Nat.testBit_or a b j
theorem land_bits (a b j : Nat) : (Nat.land a b).testBit j = (a.testBit j && b.testBit j) := Nat.testBit_and a b j

theorem edgeMask_bits {bs : List Nat} : ∀ (es : List Edge) (m : Nat) (j : Nat), (edgeMask bs es m).testBit j = true → m.testBit j = true ∨ ∃ e ∈ es, bindsAny e = true ∧ (j = e.on ∨ ∃ m', bs[e.on]? = some m' ∧ m'.testBit j = true) := by
  intro es
  induction es with
  | nil => intro m j h; exact .inl h
  | cons e es ih =>
    intro m j h
    rcases ih _ j h with h1 | ⟨e', h1, h2, h3⟩
    · cases hb : bindsAny e with
      | false => rw [hb, cond_false] at h1; exact .inl h1
      | true =>
        rw [hb, cond_true, lor_bits, lor_bits, Bool.or_eq_true, Bool.or_eq_true] at h1
        rcases h1 with h1 | h1 | h1
        · exact .inl h1
        · have : (1 <<< e.on).testBit j = true := h1
          rw [Nat.one_shiftLeft, Nat.testBit_two_pow, decide_eq_true_iff] at this
          exact .inr ⟨e, by simp, hb, .inl this.symm⟩
        · rw [nthL_eq] at h1
          cases hm : bs[e.on]? with
          | none => rw [hm] at h1; simp at h1
          | some m' => rw [hm] at h1; exact .inr ⟨e, by simp, hb, .inr ⟨m', hm, h1⟩⟩
    · exact .inr ⟨e', by simp [h1], h2, h3⟩

theorem masksOf_spec : ∀ (l : List Oper) (acc : List Nat), ∃ tail, masksOf l acc = acc ++ tail ∧ tail.length = l.length ∧
    ∀ (i : Nat) (o : Oper), l[i]? = some o → ∃ m : Nat, tail[i]? = some m ∧ ∀ j : Nat, m.testBit j = true → ∃ e ∈ o.after.toList, bindsAny e = true ∧ (j = e.on ∨ ∃ m' : Nat, (masksOf l acc)[e.on]? = some m' ∧ m'.testBit j = true) := by
  intro l
  induction l with
  | nil => intro acc; exact ⟨[], by simp [masksOf], rfl, fun i o h => by simp at h⟩
  | cons o l ih =>
    intro acc
    have e : masksOf (o :: l) acc = masksOf l (acc ++ [edgeMask acc o.after.toList 0]) := by simp only [masksOf, forceN_eq]
    obtain ⟨tail, h1, h2, h3⟩ := ih (acc ++ [edgeMask acc o.after.toList 0])
    refine ⟨edgeMask acc o.after.toList 0 :: tail, by rw [e, h1]; simp, by simp [h2], fun i o' hi => ?_⟩
    cases i with
    | zero =>
      simp only [List.getElem?_cons_zero, Option.some.injEq] at hi
      subst hi
      refine ⟨_, rfl, fun j hj => ?_⟩
      rcases edgeMask_bits _ _ _ hj with h | ⟨e', g1, g2, g3⟩
      · simp at h
      · refine ⟨e', g1, g2, g3.imp id fun ⟨m', g4, g5⟩ => ⟨m', ?_, g5⟩⟩
        rw [e, h1, List.append_assoc, List.getElem?_append_left (List.getElem?_eq_some_iff.1 g4).1]
        exact g4
    | succ i =>
      obtain ⟨m, g1, g2⟩ := h3 i o' (by simpa using hi)
      exact ⟨m, by simpa using g1, fun j hj => by rw [e]; exact g2 j hj⟩

/-- the mask of an operation -/
def mkB (bs : List Nat) (i : Nat) : Nat := (bs[i]?).getD 0

section
variable {L : List Oper}
theorem masks_length : (masksOf L []).length = L.length := by
  obtain ⟨t, h1, h2, _⟩ := masksOf_spec L []
  rw [h1]; simpa using h2
theorem masks_bits {i : Nat} {o : Oper} (hi : L[i]? = some o) {j : Nat} (hj : (mkB (masksOf L []) i).testBit j = true) : ∃ e ∈ o.after.toList, bindsAny e = true ∧ (j = e.on ∨ (mkB (masksOf L []) e.on).testBit j = true) := by
  obtain ⟨t, h1, h2, h3⟩ := masksOf_spec L []
  obtain ⟨m, g1, g2⟩ := h3 i o hi
  have e : (masksOf L [])[i]? = some m := by rw [h1]; simpa using g1
  unfold mkB at hj
  rw [e] at hj
  obtain ⟨e', q1, q2, q3⟩ := g2 j hj
  refine ⟨e', q1, q2, q3.imp id fun ⟨m', q4, q5⟩ => ?_⟩
  unfold mkB; rw [q4]; exact q5

theorem binds_any {e : Edge} (h : bindsAny e = true) (md : Region.Mode) : Region.binds md e = true := by
  unfold bindsAny at h
  unfold Region.binds
  cases hg : e.ground <;> rw [hg] at h <;> first | rfl | cases h
end

/-- the model has done what an operation stands behind -/
def Cl (bs : List Nat) (listed : Array Bool) : Prop := ∀ i j, listed.getD i false = true → (mkB bs i).testBit j = true → listed.getD j false = true

section
variable {ops : Array Oper} {md : Region.Mode} {listed : Array Bool}
theorem ready_closed (hc : Cl (masksOf ops.toList []) listed) {i : Nat} (hr : i ∈ Region.ready md ops listed) {j : Nat} (hj : (mkB (masksOf ops.toList []) i).testBit j = true) : listed.getD j false = true := by
  obtain ⟨_, o, ho, hall⟩ := mem_ready.1 hr
  obtain ⟨e, h1, h2, h3⟩ := masks_bits (by simpa using ho) hj
  have he := hall e (by simpa using h1) (binds_any h2 md)
  rcases h3 with rfl | h3
  · exact he
  · exact hc _ _ he h3

/-! ### what the check of a region says -/
theorem okReg_spec {w : Bool} {i b t : Nat} : ∀ (l : List Oper) (bs : List Nat) (j0 : Nat), okReg w i b t l bs j0 = true → l.length ≤ bs.length → ∀ j o, l[j]? = some o → o.dst = some t →
    (b.testBit (j0 + j) = true ∧ j0 + j ≠ i) ∨ (w = false ∧ (j0 + j = i ∨ (mkB bs j).testBit i = true)) := by
  intro l
  induction l with
  | nil => intro bs j0 _ _ j o hj; simp at hj
  | cons x l ih =>
    intro bs j0 h hl j o hj hd
    cases bs with
    | nil => simp at hl
    | cons m bs =>
      simp only [okReg, Bool.and_eq_true] at h
      obtain ⟨h1, h2⟩ := h
      cases j with
      | zero =>
        simp only [List.getElem?_cons_zero, Option.some.injEq] at hj
        subst hj
        rw [hd] at h1
        simp only [Nat.beq_refl, cond_true, Bool.or_eq_true, Bool.and_eq_true, Bool.not_eq_true', bit_eq] at h1
        rw [Nat.add_zero]
        rcases h1 with ⟨g1, g2⟩ | ⟨g1, g2⟩
        · exact .inl ⟨g1, Nat.ne_of_beq_eq_false g2⟩
        · exact .inr ⟨g1, g2.imp (fun g => Nat.eq_of_beq_eq_true g) (fun g => by simpa [mkB] using g)⟩
      | succ j =>
        have := ih bs (j0 + 1) h2 (by simpa using hl) j o (by simpa using hj) hd
        have e : j0 + 1 + j = j0 + (j + 1) := by omega
        rw [e] at this
        simpa [mkB] using this

theorem okRegs_spec {w : Bool} {L : List Oper} {bs : List Nat} {i b : Nat} (hl : L.length ≤ bs.length) : ∀ {ts : List Nat}, okRegs w L bs i b ts = true → ∀ t ∈ ts, ∀ j o, L[j]? = some o → o.dst = some t →
    (b.testBit j = true ∧ j ≠ i) ∨ (w = false ∧ (j = i ∨ (mkB bs j).testBit i = true)) := by
  intro ts
  induction ts with
  | nil => intro _ t ht; cases ht
  | cons t ts ih =>
    intro h t' ht' j o hj hd
    simp only [okRegs, Bool.and_eq_true] at h
    rcases List.mem_cons.1 ht' with rfl | ht'
    · have := okReg_spec L bs 0 h.1 hl j o hj hd
      simpa using this
    · exact ih h.2 t' ht' j o hj hd

theorem noDst_spec {d : Nat} : ∀ {l : List Oper}, noDst d l = true → ∀ (j : Nat) o, l[j]? = some o → o.dst ≠ some d := by
  intro l
  induction l with
  | nil => intro _ j o hj; simp at hj
  | cons x l ih =>
    intro h j o hj
    simp only [noDst, Bool.and_eq_true] at h
    cases j with
    | zero =>
      simp only [List.getElem?_cons_zero, Option.some.injEq] at hj
      subst hj
      intro hd
      rw [hd] at h
      have := h.1
      simp at this
    | succ j => exact ih h.2 j o (by simpa using hj)
theorem dsts_spec : ∀ {l : List Oper}, dstsOk l = true → ∀ (i j : Nat) o o' d, l[i]? = some o → l[j]? = some o' → o.dst = some d → o'.dst = some d → i = j := by
  intro l
  induction l with
  | nil => intro _ i j o o' d hi; simp at hi
  | cons x l ih =>
    intro h i j o o' d hi hj hd hd'
    simp only [dstsOk, Bool.and_eq_true] at h
    cases i with
    | zero =>
      cases j with
      | zero => rfl
      | succ j =>
        simp only [List.getElem?_cons_zero, Option.some.injEq] at hi
        subst hi
        rw [hd] at h
        exact absurd hd' (noDst_spec h.1 j o' (by simpa using hj))
    | succ i =>
      cases j with
      | zero =>
        simp only [List.getElem?_cons_zero, Option.some.injEq] at hj
        subst hj
        rw [hd'] at h
        exact absurd hd (noDst_spec h.1 i o (by simpa using hi))
      | succ j => rw [ih h.2 i j o o' d (by simpa using hi) (by simpa using hj) hd hd']

theorem chk_cons {L : List Oper} {bs : List Nat} {EM full X : Nat} {t : I3} {l : List I3} (h : chkD L bs EM full X (t :: l) = true) : ∃ o, L[t.i]? = some o ∧ mkB bs t.i = t.b ∧ X.testBit t.i = false ∧ kindO o.op = t.k ∧
    (∀ j, t.b.testBit j = true → X.testBit j = true) ∧ (∀ j, X.testBit j = true → EM.testBit j = true → t.b.testBit j = true) ∧ okRegs false L bs t.i t.b (looks L o) = true ∧ (t.k = 3 → EM.testBit t.i = true) ∧ chkD L bs EM full (Nat.lor X (Nat.shiftLeft 1 t.i)) l = true := by
  simp only [chkD, forceN_eq, Bool.and_eq_true] at h
  obtain ⟨h1, h2⟩ := h
  rw [nthL_eq, nthL_eq] at h1
  cases ho : L[t.i]? with
  | none => rw [ho] at h1; cases h1
  | some o =>
    cases hm : bs[t.i]? with
    | none => rw [ho, hm] at h1; cases h1
    | some m =>
      rw [ho, hm] at h1
      simp only [Bool.and_eq_true, Bool.not_eq_true', bit_eq] at h1
      obtain ⟨⟨⟨⟨⟨⟨g1, g2⟩, g3⟩, g4⟩, g5⟩, g6⟩, g7⟩ := h1
      obtain rfl : m = t.b := Nat.eq_of_beq_eq_true g2
      refine ⟨o, rfl, by unfold mkB; rw [hm]; rfl, g1, Nat.eq_of_beq_eq_true g3, fun j hj => sub01_bits g4 hj, fun j hj hj' => sub01_bits g5 (by rw [land_bits, hj, hj']; rfl), g6, fun hk => ?_, h2⟩
      rw [hk] at g7
      exact g7

/-- what comes later stands behind what acts now -/
theorem chk_later {L : List Oper} {bs : List Nat} {EM full : Nat} : ∀ {l : List I3} {X : Nat}, chkD L bs EM full X l = true → ∀ {i E : Nat}, X.testBit E = true → EM.testBit E = true → full.testBit i = true → X.testBit i = false → (mkB bs i).testBit E = true := by
  intro l
  induction l with
  | nil =>
    intro X h i E _ _ hi hx
    have : X = full := Nat.eq_of_beq_eq_true h
    rw [this, hi] at hx; cases hx
  | cons t l ih =>
    intro X h i E hE hEM hi hx
    obtain ⟨o, g1, g2, g3, g4, g5, g6, g7, g8, g9⟩ := chk_cons h
    by_cases e : t.i = i
    · subst e
      rw [g2]; exact g6 E hE hEM
    · refine ih g9 (by rw [lor_bit, hE]; rfl) hEM hi ?_
      rw [lor_bit, hx]; simpa using e

/-! ### each order comes to an end -/
theorem pass1_le {md : Region.Mode} : ∀ (l : List Oper) (i X : Nat) (listed : Array Bool), (∀ j, X.testBit j = true → listed.getD j false = true) →
    (∀ j o, l[j]? = some o → (∀ e ∈ o.after.toList, Region.binds md e = true → listed.getD e.on false = true) → listed.getD (i + j) false = true) → ∀ j, (pass1 md l i X).testBit j = true → listed.getD j false = true := by
  intro l
  induction l with
  | nil => intro i X listed h _ j hj; exact h j hj
  | cons o l ih =>
    intro i X listed h hr j hj
    simp only [pass1, forceN_eq] at hj
    refine ih (i + 1) _ listed (fun j hj => ?_) (fun j o' hj' hall => ?_) j hj
    · cases hq : (o.after.toList.all fun e => !Region.binds md e || bit X e.on) with
      | false => rw [hq, cond_false] at hj; exact h j hj
      | true =>
        rw [hq, cond_true, lor_bit, Bool.or_eq_true, decide_eq_true_iff] at hj
        rcases hj with hj | rfl
        · exact h j hj
        · have := hr 0 o rfl (fun e he hb => by
            have := List.all_eq_true.1 hq e he
            rw [hb, bit_eq] at this
            exact h _ (by simpa using this))
          simpa using this
    · have := hr (j + 1) o' (by simpa using hj') hall
      have e : i + (j + 1) = i + 1 + j := by omega
      rwa [e] at this
theorem passN_le {md : Region.Mode} {L : List Oper} {listed : Array Bool} (hr : ∀ j o, L[j]? = some o → (∀ e ∈ o.after.toList, Region.binds md e = true → listed.getD e.on false = true) → listed.getD j false = true) :
    ∀ (n X : Nat), (∀ j, X.testBit j = true → listed.getD j false = true) → ∀ j, (passN md L n X).testBit j = true → listed.getD j false = true := by
  intro n
  induction n with
  | zero => intro X h j hj; exact h j hj
  | succ n ih =>
    intro X h j hj
    simp only [passN, forceN_eq] at hj
    exact ih _ (pass1_le L 0 X listed h fun j o hj hall => by rw [Nat.zero_add]; exact hr j o hj hall) j hj

theorem all_listed {full : Nat} (hsz : listed.size = ops.size) (hc : complete md ops.toList full = true) (hr : Region.ready md ops listed = []) : ∀ j, full.testBit j = true → listed.getD j false = true := by
  intro j hj
  have e : passN md ops.toList 4 0 = full := Nat.eq_of_beq_eq_true hc
  refine passN_le (listed := listed) (fun j o ho hall => ?_) 4 0 (fun j hj => by simp at hj) j (by rw [e]; exact hj)
  cases hq : listed.getD j false with
  | true => rfl
  | false =>
    have hlt : j < listed.size := by
      have := (List.getElem?_eq_some_iff.1 ho).1
      rw [hsz]; simpa using this
    have hq' : listed.getD j true = false := by
      rw [Array.getD_eq_getD_getElem?, Array.getElem?_eq_getElem hlt] at hq ⊢
      exact hq
    have : j ∈ Region.ready md ops listed := mem_ready.2 ⟨hq', o, by simpa using ho, fun e he hb => hall e (by simpa using he) hb⟩
    rw [hr] at this; cases this
end

/-! ### the same value -/
theorem sameV1_eq (x y : V) (k : Bool) : sameV1 x y k = match x with
  | .i n => asI y (fun b => iteK (Nat.beq n b) k false) false
  | .u kd n => asU y (fun kb b => kindK kd kb (iteK (Nat.beq n b) k false) false) false
  | .b x => asB y (fun b => iteK (x == b) k false) false
  | .s l v => asS y (fun m b => iteK (Nat.beq l m) (iteK (Nat.beq v b) k false) false) false
  | .p x o => asPtr y (fun q j => iteK (A.beq x q) (iteK (Nat.beq o j) k false) false) false false
  | .pn  => asPtr y (fun _ _ => false) k false
  | .sl x o l u c => asSl y (fun q j m v d => iteK (A.beq x q) (iteK (Nat.beq o j) (iteK (Nat.beq l m) (iteK (u == v) (iteK (Nat.beq c d) k false) false) false) false) false) false false false
  | .sln  => asSl y (fun _ _ _ _ _ => false) k false false
  | .slz  => asSl y (fun _ _ _ _ _ => false) false k false
  | .m x => asM y (fun q => iteK (A.beq x q) k false) false false
  | .mn  => asM y (fun _ => false) k false
  | .fy x => asF y (fun _ _ _ => false) (fun q => iteK (A.beq x q) k false) false false
  | _ => false := by cases x <;> rfl
theorem sameV1_true {x y : V} {k : Bool} (h : sameV1 x y k = true) : x = y ∧ k = true := by
  rw [sameV1_eq] at h
  cases x <;> simp only [asI_eq, asU_eq, asB_eq, asS_eq, asPtr_eq, asSl_eq, asM_eq, asF_eq] at h <;> first
    | (cases h; done)
    | skip
  all_goals cases y <;> simp only at h <;> first
    | (cases h; done)
    | skip
  · obtain ⟨h1, h2⟩ := iteK_true h
    rw [Nat.eq_of_beq_eq_true h1]; exact ⟨rfl, h2⟩
  · obtain ⟨rfl, h1⟩ := kindK_true h
    obtain ⟨h2, h3⟩ := iteK_true h1
    rw [Nat.eq_of_beq_eq_true h2]; exact ⟨rfl, h3⟩
  · obtain ⟨h1, h2⟩ := iteK_true h
    exact ⟨by rw [eq_of_beq h1], h2⟩
  · obtain ⟨h1, h2⟩ := iteK_true h
    obtain ⟨h3, h4⟩ := iteK_true h2
    rw [Nat.eq_of_beq_eq_true h1, Nat.eq_of_beq_eq_true h3]; exact ⟨rfl, h4⟩
  · obtain ⟨h1, h2⟩ := iteK_true h
    obtain ⟨h3, h4⟩ := iteK_true h2
    rw [A.beq_iff.1 h1, Nat.eq_of_beq_eq_true h3]; exact ⟨rfl, h4⟩
  · exact ⟨rfl, h⟩
  · obtain ⟨h1, h2⟩ := iteK_true h
    obtain ⟨h3, h4⟩ := iteK_true h2
    obtain ⟨h5, h6⟩ := iteK_true h4
    obtain ⟨h7, h8⟩ := iteK_true h6
    obtain ⟨h9, h10⟩ := iteK_true h8
    rw [A.beq_iff.1 h1, Nat.eq_of_beq_eq_true h3, Nat.eq_of_beq_eq_true h5, eq_of_beq h7, Nat.eq_of_beq_eq_true h9]; exact ⟨rfl, h10⟩
  · exact ⟨rfl, h⟩
  · exact ⟨rfl, h⟩
  · obtain ⟨h1, h2⟩ := iteK_true h
    rw [A.beq_iff.1 h1]; exact ⟨rfl, h2⟩
  · exact ⟨rfl, h⟩
  · obtain ⟨h1, h2⟩ := iteK_true h
    rw [A.beq_iff.1 h1]; exact ⟨rfl, h2⟩
theorem asL_eq {R : Type} (v : V) (k : V → V → R) (n z : R) : asL v k n z = match v with | .cons h t => k h t | .nil => n | _ => z := by cases v <;> rfl
theorem sameL_true {same : V → V → Bool → Bool} (hs : ∀ {x y k}, same x y k = true → x = y ∧ k = true) : ∀ {l m : V} {k : Bool}, sameL same l m k = true → l = m ∧ k = true
  | .nil, m, k, h => by
    have h : asL m (fun _ _ => false) k false = true := h
    rw [asL_eq] at h
    cases m <;> first | (cases h; done) | exact ⟨rfl, h⟩
  | .cons x t, m, k, h => by
    have h : asL m (fun h2 t2 => same x h2 (sameL same t t2 k)) false false = true := h
    rw [asL_eq] at h
    cases m <;> first | (cases h; done) | skip
    obtain ⟨rfl, h1⟩ := hs h
    obtain ⟨rfl, h2⟩ := sameL_true hs h1
    exact ⟨rfl, h2⟩
  | .i _, _, _, h => by cases h
  | .u _ _, _, _, h => by cases h
  | .b _, _, _, h => by cases h
  | .s _ _, _, _, h => by cases h
  | .p _ _, _, _, h => by cases h
  | .pn, _, _, h => by cases h
  | .sl _ _ _ _ _, _, _, h => by cases h
  | .sln, _, _, h => by cases h
  | .slz, _, _, h => by cases h
  | .m _, _, _, h => by cases h
  | .mn, _, _, h => by cases h
  | .f _ _ _, _, _, h => by cases h
  | .fy _, _, _, h => by cases h
  | .fn, _, _, h => by cases h
  | .ifn, _, _, h => by cases h
  | .ifc _ _, _, _, h => by cases h
  | .agg _ _, _, _, h => by cases h
  | .tup _, _, _, h => by cases h
theorem sameV0_true {x y : V} {k : Bool} (h : sameV0 x y k = true) : x = y ∧ k = true := by
  cases x with
  | f g a b =>
    have h : asF y (fun h c d => iteK (Nat.beq g h) (sameL sameV1 a c (sameL sameV1 b d k)) false) (fun _ => false) false false = true := h
    rw [asF_eq] at h
    cases y <;> first | (cases h; done) | skip
    obtain ⟨h1, h2⟩ := iteK_true h
    obtain ⟨rfl, h3⟩ := sameL_true sameV1_true h2
    obtain ⟨rfl, h4⟩ := sameL_true sameV1_true h3
    rw [Nat.eq_of_beq_eq_true h1]; exact ⟨rfl, h4⟩
  | fn =>
    have h : asF y (fun _ _ _ => false) (fun _ => false) k false = true := h
    rw [asF_eq] at h
    cases y <;> first | (cases h; done) | exact ⟨rfl, h⟩
  | ifc t v =>
    have h : asIf y (fun u b => iteK (Nat.beq t u) (sameV1 v b k) false) false false = true := h
    rw [asIf_eq] at h
    cases y <;> first | (cases h; done) | skip
    obtain ⟨h1, h2⟩ := iteK_true h
    obtain ⟨rfl, h3⟩ := sameV1_true h2
    rw [Nat.eq_of_beq_eq_true h1]; exact ⟨rfl, h3⟩
  | ifn =>
    have h : asIf y (fun _ _ => false) k false = true := h
    rw [asIf_eq] at h
    cases y <;> first | (cases h; done) | exact ⟨rfl, h⟩
  | _ => exact sameV1_true h
theorem sameT_true : ∀ {s t : PT V} {k : Bool}, sameT s t k = true → s = t ∧ k = true := by
  intro s
  induction s with
  | nil =>
    intro t k h
    cases t with
    | nil => exact ⟨rfl, h⟩
    | node _ _ _ => cases h
  | node l v r ihl ihr =>
    intro t k h
    cases t with
    | nil => cases h
    | node l' w r' =>
      obtain ⟨rfl, h1⟩ := ihl (k := sameT r r' (Option.rec (motive := fun _ => Bool) (Option.rec (motive := fun _ => Bool) k (fun _ => false) w) (fun a => Option.rec (motive := fun _ => Bool) false (fun b => sameV0 a b k) w) v)) h
      obtain ⟨rfl, h2⟩ := ihr h1
      cases v with
      | none =>
        cases w with
        | none => exact ⟨rfl, h2⟩
        | some _ => cases h2
      | some a =>
        cases w with
        | none => cases h2
        | some b => obtain ⟨rfl, h3⟩ := sameV0_true h2; exact ⟨rfl, h3⟩
theorem sameV_true {x y : V} {k : Bool} (h : sameV x y k = true) : x = y ∧ k = true := by
  cases x with
  | agg n s =>
    obtain ⟨m, t, rfl, h1⟩ := asAgg_true (k := fun m t => iteK (Nat.beq n m) (sameT s t k) false) (show asAgg y (fun m t => iteK (Nat.beq n m) (sameT s t k) false) false = true from h)
    obtain ⟨h2, h3⟩ := iteK_true h1
    obtain ⟨rfl, h4⟩ := sameT_true h3
    rw [Nat.eq_of_beq_eq_true h2]; exact ⟨rfl, h4⟩
  | _ => exact sameV0_true h
end Go.Ax

namespace Go.Ax
variable {P : Program}

/-! ### guards, operands -/
/-- whether an operation is wanted, as the executor sees it -/
def GuardV (L : List Oper) (o : Oper) (e : Env) : Option Bool := match o.guard with
  | none => some true
  | some (j, want) => match (L[j]?).bind (·.dst) with
    | some d => if d < 256 then some ((e.at d).isB want) else none
    | none => none

def epd (e : Env) (dst : Option Nat) (v : V) : Env := match dst with
  | none => e
  | some d => e.put d v

theorem putC_eq {fr : Fr} {e : Env} {dst : Option Nat} {v : V} {K : Env → Bool} (h : (putC fr dst).f e v K = true) : (∀ d, dst = some d → d < fr.n ∧ fr.n ≤ 256) ∧ K (epd e dst v) = true := by
  obtain ⟨e', h1, _, h2⟩ := putC_true h
  rcases h2 with ⟨rfl, rfl⟩ | ⟨d, rfl, h3, h4, rfl⟩
  · exact ⟨fun d hd => (by cases hd), h1⟩
  · exact ⟨fun d' hd => by simp only [Option.some.injEq] at hd; subst hd; exact ⟨h3, h4⟩, h1⟩

section
variable {fr : Fr} {L : List Oper} {o : Oper} {e : Env} {cx : Cx} {ev : Ev}

theorem oneC_true {K : KN} (h : (oneC P fr L o).f ev e cx K = true) : okOper P o = true ∧
    ((GuardV L o e = some true ∧ (operC P o).f ev e cx (fun v cx => (putC fr o.dst).f e v fun e => K e cx) = true) ∨ (GuardV L o e = some false ∧ (putC fr o.dst).f e .undef (fun e => K e cx) = true)) := by
  unfold oneC at h
  cases hok : okOper P o with
  | false => rw [hok] at h; cases h
  | true =>
    rw [hok, cond_true] at h
    simp only [Clo.on_f] at h
    refine ⟨rfl, ?_⟩
    unfold GuardV
    cases hg : o.guard with
    | none => rw [hg] at h; exact .inl ⟨rfl, h⟩
    | some jw =>
      obtain ⟨j, want⟩ := jw
      rw [hg] at h
      simp only at h
      cases hd : (L[j]?).bind (·.dst) with
      | none => rw [hd] at h; cases h
      | some d =>
        rw [hd] at h
        simp only at h
        cases hlt : Nat.blt d 256 with
        | false => rw [hlt] at h; cases h
        | true =>
          rw [hlt, cond_true] at h
          simp only [Clo.on_f, getC_eq] at h
          have hd256 : d < 256 := by rwa [Nat.blt_eq] at hlt
          simp only [hd, if_pos hd256]
          rw [asB_eq] at h
          generalize e.at d = v at h
          cases v with
          | b x =>
            simp only [V.isB] at h ⊢
            rw [iteK_eq] at h
            cases hq : (x == want) with
            | true => rw [hq, cond_true] at h; exact .inl ⟨rfl, h⟩
            | false => rw [hq, cond_false] at h; exact .inr ⟨rfl, h⟩
          | _ => exact .inr ⟨rfl, h⟩

theorem tmpsL_mem {t : Nat} : ∀ {l : List Operand}, Operand.tmp t ∈ l → t ∈ tmpsL l := by
  intro l
  induction l with
  | nil => intro h; cases h
  | cons x l ih =>
    intro h
    rcases List.mem_cons.1 h with h' | h'
    · subst h'; simp [tmpsL]
    · have := ih h'
      cases x <;> simp [tmpsL, this]
theorem looks_tmp {t : Nat} (h : Operand.tmp t ∈ o.op.operands.toList) : t ∈ looks L o := by
  unfold looks
  have := tmpsL_mem h
  split
  · exact this
  · split
    · exact List.mem_cons_of_mem _ this
    · exact this

theorem opnds_VR {θ : Th} {a : Act} (hok : okOper P o = true) (hg : ∀ g, g < P.globals.size → θ.ρ (A.ofNat g) = some g) (h : ∀ t ∈ looks L o, t < 256 → VR θ (e.at t) (a.tmps.getD t Go.undef)) : ∀ x ∈ o.op.operands.toList, VR θ (opnd e x) (a.eval x) := by
  intro x hx
  have hk := List.all_eq_true.1 hok x hx
  cases x with
  | tmp t => exact h t (looks_tmp hx) (by simpa [okOpnd, Nat.blt_eq] using hk)
  | const v =>
    simp only [okOpnd, Option.isSome_iff_exists] at hk
    obtain ⟨c, hc⟩ := hk
    simp only [opnd, hc, Option.getD_some]
    exact constV_ok θ hc
  | global g => exact .p _ _ _ (hg g (by simpa [okOpnd, Nat.blt_eq] using hk))
  | func f => exact .f f .nil .nil #[] #[] .nil .nil

theorem want_model {θ : Th} {a : Act} {ops : Array Oper} {q : Bool} (hg : GuardV ops.toList o e = some q) (h : ∀ t ∈ looks ops.toList o, t < 256 → VR θ (e.at t) (a.tmps.getD t Go.undef)) : Region.wanted o (yielded ops a.tmps) = q := by
  unfold GuardV at hg
  cases hgd : o.guard with
  | none => rw [hgd] at hg; simp only [Option.some.injEq] at hg; subst hg; unfold Region.wanted; rw [hgd]
  | some jw =>
    obtain ⟨j, want⟩ := jw
    rw [hgd] at hg
    simp only at hg
    cases hd : (ops.toList[j]?).bind (·.dst) with
    | none => rw [hd] at hg; cases hg
    | some d =>
      rw [hd] at hg
      simp only at hg
      by_cases hlt : d < 256
      · rw [if_pos hlt, Option.some.injEq] at hg
        have hmem : d ∈ looks ops.toList o := by
          unfold looks
          rw [hgd]
          simp only [nthL_eq, hd]
          simp
        have hv := h d hmem hlt
        by_cases hsz : d < a.tmps.size
        · rw [wanted_iff hgd (guard_dst hd) hsz hv, hg]
        · have hun : a.tmps.getD d Go.undef = Go.undef := by
            rw [Array.getD_eq_getD_getElem?, Array.getElem?_eq_none (Nat.le_of_not_lt hsz)]; rfl
          have hnw : Region.wanted o (yielded ops a.tmps) = false := by
            unfold Region.wanted yielded
            simp only [hgd, guard_dst hd, Option.bind_some, Array.getElem?_eq_none (Nat.le_of_not_lt hsz)]
            cases want <;> rfl
          rw [hun] at hv
          rw [hnw, ← hg]
          generalize e.at d = v at hv
          cases v with
          | b x => cases hv
          | _ => rfl
      · rw [if_neg hlt] at hg; cases hg
end

/-! ### a drawn region on its way -/
def OpndOk (L : List Oper) (bs : List Nat) (e0 e : Env) (i : Nat) (o : Oper) (ei : Env) : Prop := ∀ t ∈ looks L o, t < 256 →
  ((∃ j oj, L[j]? = some oj ∧ oj.dst = some t ∧ (mkB bs i).testBit j = true) ∧ ei.at t = e.at t) ∨
  ((∀ (j : Nat) oj, L[j]? = some oj → oj.dst = some t → (mkB bs i).testBit j = false ∧ (j = i ∨ (mkB bs j).testBit i = true)) ∧ ei.at t = e0.at t)

def R2 (L : List Oper) (e0 e : Env) (θ : Th) (listed : Array Bool) (a : Act) : Prop := ∀ t, t < 256 →
  ((∃ (j : Nat) (oj : Oper), L[j]? = some oj ∧ oj.dst = some t ∧ listed.getD j false = true) → VR θ (e.at t) (a.tmps.getD t Go.undef)) ∧
  ((∀ (j : Nat) oj, L[j]? = some oj → oj.dst = some t → listed.getD j false = false) → VR θ (e0.at t) (a.tmps.getD t Go.undef))

theorem R2.mono {L : List Oper} {e0 e : Env} {θ θ' : Th} {listed : Array Bool} {a : Act} (hl : θ.le θ') (h : R2 L e0 e θ listed a) : R2 L e0 e θ' listed a :=
  fun t ht => ⟨fun hh => ((h t ht).1 hh).mono hl, fun hh => ((h t ht).2 hh).mono hl⟩

theorem opnd_model {L : List Oper} {bs : List Nat} {e0 e : Env} {θ : Th} {listed : Array Bool} {a : Act} {i : Nat} {o : Oper} {ei : Env} (hr : R2 L e0 e θ listed a) (hc : Cl bs listed) (hi : listed.getD i false = false) (hrd : ∀ j, (mkB bs i).testBit j = true → listed.getD j false = true)
    (ho : OpndOk L bs e0 e i o ei) : ∀ t ∈ looks L o, t < 256 → VR θ (ei.at t) (a.tmps.getD t Go.undef) := by
  intro t ht hlt
  rcases ho t ht hlt with ⟨⟨j, oj, h1, h2, h3⟩, h4⟩ | ⟨h1, h2⟩
  · rw [h4]; exact (hr t hlt).1 ⟨j, oj, h1, h2, hrd j h3⟩
  · rw [h2]
    refine (hr t hlt).2 fun j oj hj hd => ?_
    obtain ⟨_, h3⟩ := h1 j oj hj hd
    cases hq : listed.getD j false with
    | false => rfl
    | true =>
      rcases h3 with rfl | h3
      · rw [hi] at hq; cases hq
      · rw [hc j i hq h3] at hi; cases hi

/-- what the executor knows of an operation that it has done and the model may not have done -/
def Fact (P : Program) (ev : Ev) (L : List Oper) (bs : List Nat) (e0 : Env) (lim0 : Nat) (e : Env) (cx : Cx) (θ : Th) (ad : Nat → Option A) (i : Nat) (o : Oper) : Prop :=
  okOper P o = true ∧ ∃ ei, OpndOk L bs e0 e i o ei ∧
    ((GuardV L o ei = some false ∧ ∀ d, o.dst = some d → e.at d = .undef) ∨
     (GuardV L o ei = some true ∧ ∃ v, (∀ d, o.dst = some d → e.at d = v) ∧
       ((kindO o.op = 0 ∧ ∀ κ : V → Bool, κ v = true → (pureC P o.op).f ei κ = true) ∨
        (kindO o.op = 1 ∧ ∃ hi, (∀ x blk, hget hi x = some blk → hget cx.h x = some blk) ∧ ∀ κ : V → Bool, κ v = true → readR P o ei hi κ = true) ∨
        (kindO o.op = 2 ∧ ∃ x blk hi dsi rndi ny, ad i = some x ∧ hget cx.h x = some blk ∧ θ.ρ x = none ∧ lim0 ≤ x.toNat ∧ x.next = some ny ∧
          ∀ k : V → Cx → Bool, k v ⟨hset hi x (some blk), ny, dsi, rndi⟩ = true → (operC P o).f ev ei ⟨hi, x, dsi, rndi⟩ k = true))))

section
variable (P : Program) (ev : Ev) (fr : Fr) (ops : Array Oper) (EM full : Nat) (e0 : Env) (b : Frame) (θ0 : Th) (m0 : A → Option B) (w0 : World) (k : KN)

structure Sim (X : Nat) (ls l : List I3) (e : Env) (cx : Cx) (ad : Nat → Option A) (θ : Th) (listed : Array Bool) (a : Act) (w : World) : Prop where
  run : (drawK P fr ops.toList (masksOf ops.toList []) ls l).f ev e cx k = true
  chk : chkD ops.toList (masksOf ops.toList []) EM full X l = true
  dst : dstsOk ops.toList = true
  r1 : ∀ t, t < 256 → (∀ (j : Nat) o, ops.toList[j]? = some o → o.dst = some t → X.testBit j = false) → e.at t = e0.at t
  xcl : ∀ i j, X.testBit i = true → (mkB (masksOf ops.toList []) i).testBit j = true → X.testBit j = true
  xem : ∀ (i : Nat) o, ops.toList[i]? = some o → kindO o.op = 3 → X.testBit i = true → EM.testBit i = true
  lds : ∀ (i : Nat) o, ops.toList[i]? = some o → kindO o.op = 1 → X.testBit i = true → ∃ t ∈ ls, t.i = i
  ldk : ∀ t ∈ ls, ∃ o, ops.toList[t.i]? = some o ∧ kindO o.op = 1 ∧ X.testBit t.i = true ∧ t.b = mkB (masksOf ops.toList []) t.i
  dlt : ∀ (i : Nat) o, ops.toList[i]? = some o → X.testBit i = true → ∀ d, o.dst = some d → d < fr.n
  lsz : listed.size = ops.size
  lx : ∀ i, listed.getD i false = true → X.testBit i = true
  cl : Cl (masksOf ops.toList []) listed
  eff : ∀ (i : Nat) o, ops.toList[i]? = some o → kindO o.op = 3 → X.testBit i = true → listed.getD i false = true
  sz : a.tmps.size = fr.n
  n256 : fr.n ≤ 256
  r2 : R2 ops.toList e0 e θ listed a
  mr : MRx P θ cx.h cx.nx w
  dr : DR θ cx.ds a.defers
  rnd : RndR θ cx.rnd b.roundOf
  fm : Fm θ0 m0 w0 θ (hget cx.h) w
  adx : ∀ i x, ad i = some x → X.testBit i = true ∧ x.toNat < cx.nx.toNat
  adi : ∀ i i' x, ad i = some x → ad i' = some x → i = i'
  fact : ∀ (i : Nat) o, ops.toList[i]? = some o → kindO o.op ≠ 3 → X.testBit i = true → listed.getD i false = false → Fact P ev ops.toList (masksOf ops.toList []) e0 θ0.lim e cx θ ad i o
end

theorem epd_at {e : Env} {dst : Option Nat} {v : V} {t : Nat} (hd : ∀ d, dst = some d → d < 256) (ht : t < 256) : (epd e dst v).at t = if dst = some t then v else e.at t := by
  cases dst with
  | none => simp [epd]
  | some d =>
    simp only [epd]
    rw [E16.at_put _ _ _ _ (hd d rfl) ht]
    by_cases h : t = d
    · subst h; simp
    · rw [if_neg h, if_neg (by intro e; apply h; simp only [Option.some.injEq] at e; exact e.symm)]

/-- facts stay, where one register more is written -/
theorem Fact.env {ev : Ev} {L : List Oper} {bs : List Nat} {e0 : Env} {lim0 : Nat} {e : Env} {cx : Cx} {θ : Th} {ad : Nat → Option A} {i : Nat} {o : Oper} (h : Fact P ev L bs e0 lim0 e cx θ ad i o)
    {X : Nat} (hcl : ∀ i j, X.testBit i = true → (mkB bs i).testBit j = true → X.testBit j = true) (hdst : dstsOk L = true) (hLi : L[i]? = some o) (hXi : X.testBit i = true)
    {j : Nat} {oj : Oper} (hLj : L[j]? = some oj) (hXj : X.testBit j = false) (hd : ∀ d, oj.dst = some d → d < 256) (hdi : ∀ d, o.dst = some d → d < 256) (v : V) : Fact P ev L bs e0 lim0 (epd e oj.dst v) cx θ ad i o := by
  have hne : ∀ (t : Nat) j' oj', t < 256 → L[j']? = some oj' → oj'.dst = some t → X.testBit j' = true → (epd e oj.dst v).at t = e.at t := fun t j' oj' ht hj' hd' hx => by
    rw [epd_at hd ht, if_neg]
    intro hh
    have := dsts_spec hdst j j' oj oj' t hLj hj' hh hd'
    subst this
    rw [hx] at hXj; cases hXj
  obtain ⟨h1, ei, h2, h3⟩ := h
  refine ⟨h1, ei, fun t ht hlt => ?_, ?_⟩
  · rcases h2 t ht hlt with ⟨⟨j', oj', g1, g2, g3⟩, g4⟩ | g
    · exact .inl ⟨⟨j', oj', g1, g2, g3⟩, by rw [hne t j' oj' hlt g1 g2 (hcl i j' hXi g3)]; exact g4⟩
    · exact .inr g
  · rcases h3 with ⟨g1, g2⟩ | ⟨g1, u, g2, g3⟩
    · exact .inl ⟨g1, fun d hd' => by rw [hne d i o (hdi d hd') hLi hd' hXi]; exact g2 d hd'⟩
    · exact .inr ⟨g1, u, fun d hd' => by rw [hne d i o (hdi d hd') hLi hd' hXi]; exact g2 d hd', g3⟩
end Go.Ax

namespace Go.Ax
variable {P : Program}

theorem OpndOk.env {L : List Oper} {bs : List Nat} {e0 e : Env} {i : Nat} {o : Oper} {ei : Env} (h : OpndOk L bs e0 e i o ei) {X : Nat} (hsub : ∀ j, (mkB bs i).testBit j = true → X.testBit j = true) (hdst : dstsOk L = true)
    {j : Nat} {oj : Oper} (hLj : L[j]? = some oj) (hXj : X.testBit j = false) (hd : ∀ d, oj.dst = some d → d < 256) (v : V) : OpndOk L bs e0 (epd e oj.dst v) i o ei := by
  intro t ht hlt
  rcases h t ht hlt with ⟨⟨j', oj', g1, g2, g3⟩, g4⟩ | g
  · refine .inl ⟨⟨j', oj', g1, g2, g3⟩, ?_⟩
    rw [epd_at hd hlt, if_neg, g4]
    intro hh
    have := dsts_spec hdst j j' oj oj' t hLj g1 hh g2
    subst this
    rw [hsub j g3] at hXj; cases hXj
  · exact .inr g

/-- the executor makes a block: nothing of it is in the model yet -/
theorem MR.reserve {θ : Th} {m : A → Option B} {nx ny : A} {w : World} (h : MR P θ m nx w) (hn : nx.next = some ny) (blk : B) :
    MR P { θ with lim := nx.toNat + 1 } (madd m nx blk) ny w ∧ θ.le { θ with lim := nx.toNat + 1 } := by
  have hx : θ.ρ nx = none := h.fresh nx (Nat.le_refl _)
  have hle : θ.le { θ with lim := nx.toNat + 1 } := fun y r hy => ⟨hy, rfl⟩
  have hnx := A.next_toNat hn
  have hold : ∀ y c r, madd m nx blk y = some c → θ.ρ y = some r → m y = some c := fun y c r hc hr => by
    simp only [madd] at hc
    by_cases e : y = nx
    · subst e; rw [hx] at hr; cases hr
    · rw [if_neg e] at hc; exact hc
  refine ⟨⟨fun y c r hc hr => ?_, fun y z c d r hc hd hr hr' => h.inj y z c d r (hold y c r hc hr) (hold z d r hd hr') hr hr', fun y hy => h.fresh y (by omega), h.glob, hnx.symm, fun y c hc => ?_⟩, hle⟩
  · obtain ⟨o, h1, h2⟩ := h.blk y c r (hold y c r hc hr) hr
    exact ⟨o, h1, h2.mono hle hr⟩
  · simp only [madd] at hc
    by_cases e : y = nx
    · subst e; omega
    · rw [if_neg e] at hc; have := h.bd y c hc; omega

theorem Fm.reserve {θ0 θ : Th} {m0 m : A → Option B} {w0 w : World} {nx : A} (f : Fm θ0 m0 w0 θ m w) (hx : θ.ρ nx = none) (h0 : θ0.lim ≤ nx.toNat) (hl : θ.lim ≤ nx.toNat + 1) (blk : B) : Fm θ0 m0 w0 { θ with lim := nx.toNat + 1 } (madd m nx blk) w where
  le := f.le
  tape := f.tape
  os := f.os
  out := f.out
  size := f.size
  same := f.same
  lim := Nat.le_trans f.lim hl
  res := fun y hy h => by
    obtain ⟨g1, g2⟩ := f.res y hy h
    have ne : y ≠ nx := fun e => by subst e; omega
    refine ⟨g1, ?_⟩
    simp only [madd, if_neg ne]; exact g2
  foot := fun y c r hc hr => by
    have ne : y ≠ nx := fun e => by subst e; have hr : θ.ρ y = some r := hr; rw [hx] at hr; cases hr
    simp only [madd, if_neg ne] at hc
    exact f.foot y c r hc hr

section
variable {ev : Ev} {fr : Fr} {ops : Array Oper} {EM full : Nat} {e0 : Env} {b : Frame} {θ0 : Th} {m0 : A → Option B} {w0 : World} {k : KN}
variable {X : Nat} {ls l : List I3} {t : I3} {e : Env} {cx : Cx} {ad : Nat → Option A} {θ : Th} {listed : Array Bool} {a : Act} {w : World}

theorem drawK_cons {L : List Oper} {bs : List Nat} {o : Oper} (ho : L[t.i]? = some o) : (drawK P fr L bs ls (t :: l)).f ev e cx k =
    bif Nat.beq t.k 3 then (oneC P fr L o).f ev e cx (fun e cx => (againsC P L bs t.b ls).f ev e cx ((drawK P fr L bs ls l).f ev e cx k))
    else (oneC P fr L o).f ev e cx (fun e cx => (drawK P fr L bs (bif Nat.beq t.k 1 then t :: ls else ls) l).f ev e cx k) := by
  simp only [drawK, nthL_eq, ho]
  cases Nat.beq t.k 3 <;> simp only [Clo.on_f, cond_true, cond_false]

/-- the operands of what the executor does next -/
theorem Sim.opnd (hs : Sim P ev fr ops EM full e0 b θ0 m0 w0 k X ls (t :: l) e cx ad θ listed a w) {o : Oper} (ho : ops.toList[t.i]? = some o) : OpndOk ops.toList (masksOf ops.toList []) e0 e t.i o e := by
  obtain ⟨o', ho', hb, hX, hkd, hsub, heff, hregs, hem, hchk⟩ := chk_cons hs.chk
  rw [ho] at ho'
  obtain rfl : o = o' := by simpa using ho'
  intro t' ht' hlt
  by_cases hw : ∃ j oj, ops.toList[j]? = some oj ∧ oj.dst = some t' ∧ (mkB (masksOf ops.toList []) t.i).testBit j = true
  · exact .inl ⟨hw, rfl⟩
  · have key : ∀ (j : Nat) oj, ops.toList[j]? = some oj → oj.dst = some t' → (mkB (masksOf ops.toList []) t.i).testBit j = false ∧ (j = t.i ∨ (mkB (masksOf ops.toList []) j).testBit t.i = true) := fun j oj hj hd => by
      have h0 : (mkB (masksOf ops.toList []) t.i).testBit j = false := by
        cases hq : (mkB (masksOf ops.toList []) t.i).testBit j with
        | false => rfl
        | true => exact absurd ⟨j, oj, hj, hd, hq⟩ hw
      refine ⟨h0, ?_⟩
      rcases okRegs_spec (by rw [masks_length]; exact Nat.le_refl _) hregs t' ht' j oj hj hd with ⟨g1, _⟩ | ⟨_, g⟩
      · rw [← hb, h0] at g1; cases g1
      · exact g
    refine .inr ⟨key, hs.r1 t' hlt fun j oj hj hd => ?_⟩
    rcases (key j oj hj hd).2 with rfl | g
    · exact hX
    · cases hq : X.testBit j with
      | false => rfl
      | true => rw [hs.xcl j t.i hq g] at hX; cases hX

/-- the executor has done one operation more that does not act -/
theorem Sim.push (hs : Sim P ev fr ops EM full e0 b θ0 m0 w0 k X ls (t :: l) e cx ad θ listed a w) (hk3 : t.k ≠ 3) {o : Oper} (ho : ops.toList[t.i]? = some o) {v : V} {cx' : Cx} {θ' : Th} {ad' : Nat → Option A}
    (hrun : (drawK P fr ops.toList (masksOf ops.toList []) (bif Nat.beq t.k 1 then t :: ls else ls) l).f ev (epd e o.dst v) cx' k = true) (hdd : ∀ d, o.dst = some d → d < fr.n)
    (hmr : MRx P θ' cx'.h cx'.nx w) (hle : θ.le θ') (hds : cx'.ds = cx.ds) (hrnd : cx'.rnd = cx.rnd) (hfm : Fm θ0 m0 w0 θ' (hget cx'.h) w)
    (hold : ∀ i o' e', Fact P ev ops.toList (masksOf ops.toList []) e0 θ0.lim e' cx θ ad i o' → X.testBit i = true → Fact P ev ops.toList (masksOf ops.toList []) e0 θ0.lim e' cx' θ' ad' i o')
    (hnew : Fact P ev ops.toList (masksOf ops.toList []) e0 θ0.lim (epd e o.dst v) cx' θ' ad' t.i o)
    (hadx : ∀ i x, ad' i = some x → (X.testBit i = true ∨ i = t.i) ∧ x.toNat < cx'.nx.toNat) (hadi : ∀ i i' x, ad' i = some x → ad' i' = some x → i = i') :
    Sim P ev fr ops EM full e0 b θ0 m0 w0 k (Nat.lor X (Nat.shiftLeft 1 t.i)) (bif Nat.beq t.k 1 then t :: ls else ls) l (epd e o.dst v) cx' ad' θ' listed a w := by
  obtain ⟨o', ho', hb, hX, hkd, hsub, heff, hregs, hem, hchk⟩ := chk_cons hs.chk
  rw [ho] at ho'
  obtain rfl : o = o' := by simpa using ho'
  have hd256 : ∀ d, o.dst = some d → d < 256 := fun d hd => Nat.lt_of_lt_of_le (hdd d hd) hs.n256
  have hbits : ∀ j, (Nat.lor X (Nat.shiftLeft 1 t.i)).testBit j = true ↔ X.testBit j = true ∨ t.i = j := fun j => by rw [lor_bit, Bool.or_eq_true, decide_eq_true_iff]
  have hmono : ∀ j, X.testBit j = true → (Nat.lor X (Nat.shiftLeft 1 t.i)).testBit j = true := fun j h => (hbits j).2 (.inl h)
  have hdi : ∀ (i : Nat) oi, ops.toList[i]? = some oi → ∀ d, oi.dst = some d → X.testBit i = true → ∀ t', t' < 256 → oi.dst = some t' → (epd e o.dst v).at t' = e.at t' := fun i oi hi d hd hx t' ht' hdt => by
    rw [epd_at hd256 ht', if_neg]
    intro hh
    have := dsts_spec hs.dst t.i i o oi t' ho hi hh hdt
    subst this
    rw [hx] at hX; cases hX
  refine ⟨hrun, hchk, hs.dst, fun t' ht' hw => ?_, fun i j hi hj => ?_, fun i o' hi h3 hx => ?_, fun i o' hi h1 hx => ?_, fun t' ht' => ?_, fun i o' hi hx d hd => ?_, hs.lsz, fun i hi => hmono i (hs.lx i hi), hs.cl, fun i o' hi h3 hx => ?_, hs.sz, hs.n256, fun t' ht' => ⟨fun ⟨j, oj, g1, g2, g3⟩ => ?_, fun h => ((hs.r2 t' ht').2 h).mono hle⟩, hmr, by rw [hds]; exact hs.dr.mono hle, by rw [hrnd]; exact hs.rnd.mono hle, hfm, fun i x hx => ?_, hadi, fun i o' hi h3 hx hl => ?_⟩
  · rw [epd_at hd256 ht', if_neg]
    · exact hs.r1 t' ht' fun j oj hj hd => by
        cases hq : X.testBit j with
        | false => rfl
        | true => have := hw j oj hj hd; rw [hmono j hq] at this; exact this
    · intro hh
      have := hw t.i o ho hh
      rw [(hbits t.i).2 (.inr rfl)] at this; cases this
  · rcases (hbits i).1 hi with hi | rfl
    · exact hmono j (hs.xcl i j hi hj)
    · exact hmono j (hsub j (by rw [← hb]; exact hj))
  · rcases (hbits i).1 hx with hx | rfl
    · exact hs.xem i o' hi h3 hx
    · rw [ho] at hi
      obtain rfl : o = o' := by simpa using hi
      exact absurd (hkd.symm.trans h3) hk3
  · rcases (hbits i).1 hx with hx | rfl
    · obtain ⟨u, hu, rfl⟩ := hs.lds i o' hi h1 hx
      refine ⟨u, ?_, rfl⟩
      cases Nat.beq t.k 1
      · exact hu
      · exact List.mem_cons_of_mem _ hu
    · rw [ho] at hi
      obtain rfl : o = o' := by simpa using hi
      refine ⟨t, ?_, rfl⟩
      have : t.k = 1 := hkd.symm.trans h1
      rw [this]; simp
  · have hcase : t' = t ∧ t.k = 1 ∨ t' ∈ ls := by
      cases hq : Nat.beq t.k 1 with
      | false => rw [hq] at ht'; exact .inr ht'
      | true =>
        rw [hq, cond_true] at ht'
        rcases List.mem_cons.1 ht' with rfl | h
        · exact .inl ⟨rfl, Nat.eq_of_beq_eq_true hq⟩
        · exact .inr h
    rcases hcase with ⟨rfl, h1⟩ | h
    · exact ⟨o, ho, hkd.trans h1, (hbits t'.i).2 (.inr rfl), hb.symm⟩
    · obtain ⟨o', g1, g2, g3, g4⟩ := hs.ldk t' h
      exact ⟨o', g1, g2, hmono _ g3, g4⟩
  · rcases (hbits i).1 hx with hx | rfl
    · exact hs.dlt i o' hi hx d hd
    · rw [ho] at hi
      obtain rfl : o = o' := by simpa using hi
      exact hdd d hd
  · rcases (hbits i).1 hx with hx | rfl
    · exact hs.eff i o' hi h3 hx
    · rw [ho] at hi
      obtain rfl : o = o' := by simpa using hi
      exact absurd (hkd.symm.trans h3) hk3
  · rw [hdi j oj g1 t' g2 (hs.lx j g3) t' ht' g2]
    exact ((hs.r2 t' ht').1 ⟨j, oj, g1, g2, g3⟩).mono hle
  · obtain ⟨h1, h2⟩ := hadx i x hx
    exact ⟨(hbits i).2 (h1.imp id Eq.symm), h2⟩
  · rcases (hbits i).1 hx with hx | rfl
    · exact (hold i o' e (hs.fact i o' hi h3 hx hl) hx).env hs.xcl hs.dst hi hx ho hX hd256 (fun d hd => Nat.lt_of_lt_of_le (hs.dlt i o' hi hx d hd) hs.n256) v
    · rw [ho] at hi
      obtain rfl : o = o' := by simpa using hi
      exact hnew

theorem Fact.keep {L : List Oper} {bs : List Nat} {lim0 : Nat} {cx' : Cx} {θ' : Th} {ad' : Nat → Option A} {i : Nat} {o : Oper} (h : Fact P ev L bs e0 lim0 e cx θ ad i o)
    (h1 : ∀ x blk, hget cx.h x = some blk → hget cx'.h x = some blk) (h2 : ∀ x, ad i = some x → θ.ρ x = none → θ'.ρ x = none) (h3 : ∀ x, ad i = some x → ad' i = some x) : Fact P ev L bs e0 lim0 e cx' θ' ad' i o := by
  obtain ⟨f1, ei, f2, f3⟩ := h
  refine ⟨f1, ei, f2, ?_⟩
  rcases f3 with g | ⟨g1, v, g2, g3⟩
  · exact .inl g
  · refine .inr ⟨g1, v, g2, ?_⟩
    rcases g3 with g | ⟨k1, hi, k2, k3⟩ | ⟨k1, x, blk, hi, dsi, rndi, ny, k2, k3, k4, k5, k6, k7⟩
    · exact .inl g
    · exact .inr (.inl ⟨k1, hi, fun x blk hx => h1 x blk (k2 x blk hx), k3⟩)
    · exact .inr (.inr ⟨k1, x, blk, hi, dsi, rndi, ny, h3 x k2, h1 x blk k3, h2 x k2 k4, k5, k6, k7⟩)

open Classical in
/-- the executor does what does not act, before the model -/
theorem Sim.step (hs : Sim P ev fr ops EM full e0 b θ0 m0 w0 k X ls (t :: l) e cx ad θ listed a w) (hk3 : t.k ≠ 3) :
    ∃ X' ls' e' cx' ad' θ', Sim P ev fr ops EM full e0 b θ0 m0 w0 k X' ls' l e' cx' ad' θ' listed a w := by
  obtain ⟨o, ho, hb, hX, hkd, hsub, heff, hregs, hem, hchk⟩ := chk_cons hs.chk
  have hOp := hs.opnd ho
  have hrun := hs.run
  rw [drawK_cons ho] at hrun
  have hq3 : Nat.beq t.k 3 = false := by
    cases hq : Nat.beq t.k 3 with
    | false => rfl
    | true => exact absurd (Nat.eq_of_beq_eq_true hq) hk3
  rw [hq3, cond_false] at hrun
  obtain ⟨hok, hcase⟩ := oneC_true hrun
  have hsubB : ∀ j, (mkB (masksOf ops.toList []) t.i).testBit j = true → X.testBit j = true := fun j hj => hsub j (by rw [← hb]; exact hj)
  have hlim0 : θ0.lim ≤ cx.nx.toNat := by rw [← hs.mr.lim]; exact hs.fm.lim
  -- the same memory
  have same : ∀ v, (GuardV ops.toList o e = some false ∧ v = V.undef ∨ GuardV ops.toList o e = some true ∧ ((kindO o.op = 0 ∧ ∀ κ : V → Bool, κ v = true → (pureC P o.op).f e κ = true) ∨ (kindO o.op = 1 ∧ ∀ κ : V → Bool, κ v = true → readR P o e cx.h κ = true))) →
      (putC fr o.dst).f e v (fun e => (drawK P fr ops.toList (masksOf ops.toList []) (bif Nat.beq t.k 1 then t :: ls else ls) l).f ev e cx k) = true →
      ∃ X' ls' e' cx' ad' θ', Sim P ev fr ops EM full e0 b θ0 m0 w0 k X' ls' l e' cx' ad' θ' listed a w := fun v hv hp => by
    obtain ⟨hdd, hr⟩ := putC_eq hp
    have hd256 : ∀ d, o.dst = some d → d < 256 := fun d hd => Nat.lt_of_lt_of_le (hdd d hd).1 hs.n256
    have hself : ∀ d, o.dst = some d → (epd e o.dst v).at d = v := fun d hd => by rw [epd_at hd256 (hd256 d hd), if_pos hd]
    refine ⟨_, _, _, cx, ad, θ, hs.push hk3 ho hr (fun d hd => (hdd d hd).1) hs.mr (Th.le.refl _) rfl rfl hs.fm (fun _ _ _ h _ => h) ⟨hok, e, hOp.env hsubB hs.dst ho hX hd256 v, ?_⟩ (fun i x hx => ⟨.inl (hs.adx i x hx).1, (hs.adx i x hx).2⟩) hs.adi⟩
    rcases hv with ⟨g1, rfl⟩ | ⟨g1, g2 | g2⟩
    · exact .inl ⟨g1, hself⟩
    · exact .inr ⟨g1, v, hself, .inl g2⟩
    · exact .inr ⟨g1, v, hself, .inr (.inl ⟨g2.1, cx.h, fun _ _ h => h, g2.2⟩)⟩
  rcases hcase with ⟨hg, hop⟩ | ⟨hg, hp⟩
  · have hk012 : kindO o.op = 0 ∨ kindO o.op = 1 ∨ kindO o.op = 2 := by
      have h3 : kindO o.op ≠ 3 := fun h => hk3 (by rw [← hkd]; exact h)
      have hle : kindO o.op ≤ 3 := by
        unfold kindO
        split <;> first | omega | (split <;> omega) | (rename_i s d x _; cases bytesStr s d <;> decide)
      omega
    rcases hk012 with h0 | h1 | h2
    · rw [operC_pure h0] at hop
      obtain ⟨v, g1, g2⟩ := det_pure (P := P) (e := e) o.op _ hop
      exact same v (.inr ⟨hg, .inl ⟨h0, g2⟩⟩) g1
    · rw [operC_read h1] at hop
      obtain ⟨v, g1, g2⟩ := det_read (P := P) (o := o) (e := e) (h := cx.h) _ hop
      exact same v (.inr ⟨hg, .inr ⟨h1, g2⟩⟩) g1
    · obtain ⟨s1, s2⟩ := alloc_shape (P := P) (o := o) (e := e) (ev := ev) (h := cx.h) (nx := cx.nx) (ds := cx.ds) (rnd := cx.rnd) h2
      obtain ⟨⟨v, cx'⟩, g1, g2⟩ := s1 (fun p => (putC fr o.dst).f e p.1 fun e => (drawK P fr ops.toList (masksOf ops.toList []) (bif Nat.beq t.k 1 then t :: ls else ls) l).f ev e p.2 k) hop
      obtain ⟨v2, blk, ny, hy, g3⟩ := s2 (k := fun u cx2 => decide ((u, cx2) = (v, cx'))) (g2 (fun p => decide (p = (v, cx'))) (by simp))
      have g3 := of_decide_eq_true g3
      simp only [Prod.mk.injEq] at g3
      obtain ⟨rfl, rfl⟩ := g3
      obtain ⟨hdd, hr⟩ := putC_eq g1
      have hd256 : ∀ d, o.dst = some d → d < 256 := fun d hd => Nat.lt_of_lt_of_le (hdd d hd).1 hs.n256
      have hself : ∀ d, o.dst = some d → (epd e o.dst v2).at d = v2 := fun d hd => by rw [epd_at hd256 (hd256 d hd), if_pos hd]
      obtain ⟨r1, r2⟩ := hs.mr.reserve hy blk
      have hnx : θ.ρ cx.nx = none := hs.mr.fresh cx.nx (Nat.le_refl _)
      have hNy := A.next_toNat hy
      have hkeep : ∀ x blk', hget cx.h x = some blk' → hget (hset cx.h cx.nx (some blk)) x = some blk' := fun x blk' hx => by
        have ne : x ≠ cx.nx := fun e => by subst e; exact absurd (hs.mr.bd cx.nx blk' hx) (Nat.lt_irrefl _)
        rw [hget_hset_ne _ _ _ ne]; exact hx
      refine ⟨_, _, _, ⟨hset cx.h cx.nx (some blk), ny, cx.ds, cx.rnd⟩, fun j => if j = t.i then some cx.nx else ad j, { θ with lim := cx.nx.toNat + 1 },
        hs.push hk3 ho hr (fun d hd => (hdd d hd).1) (by simp only [MRx, hget_hset_some]; exact r1) r2 rfl rfl (by simp only [hget_hset_some]; exact hs.fm.reserve hnx hlim0 (by rw [hs.mr.lim]; exact Nat.le_succ _) blk)
          (fun i o' e' h hx => h.keep hkeep (fun x _ h => h) (fun x hx' => by
            have : i ≠ t.i := fun e => by subst e; rw [hx] at hX; cases hX
            simp only [if_neg this]; exact hx')) ⟨hok, e, hOp.env hsubB hs.dst ho hX hd256 v2, .inr ⟨hg, v2, hself, .inr (.inr ⟨h2, cx.nx, blk, cx.h, cx.ds, cx.rnd, ny, by simp, hget_hset_same _ _ _, hnx, hlim0, hy, fun k' hk' => g2 (fun p => k' p.1 p.2) hk'⟩)⟩⟩
          (fun i x hx => ?_) (fun i i' x hi hi' => ?_)⟩
      · by_cases e : i = t.i
        · rw [if_pos e, Option.some.injEq] at hx
          subst hx
          exact ⟨.inr e, by show cx.nx.toNat < ny.toNat; omega⟩
        · rw [if_neg e] at hx
          have := hs.adx i x hx
          exact ⟨.inl this.1, by show x.toNat < ny.toNat; omega⟩
      · by_cases e : i = t.i
        · by_cases e' : i' = t.i
          · rw [e, e']
          · rw [if_pos e, Option.some.injEq] at hi
            rw [if_neg e'] at hi'
            subst hi
            have := (hs.adx i' cx.nx hi').2
            omega
        · by_cases e' : i' = t.i
          · rw [if_pos e', Option.some.injEq] at hi'
            rw [if_neg e] at hi
            subst hi'
            have := (hs.adx i cx.nx hi).2
            omega
          · rw [if_neg e] at hi
            rw [if_neg e'] at hi'
            exact hs.adi i i' x hi hi'
  · exact same .undef (.inl ⟨hg, rfl⟩) hp

/-- .. until something acts -/
theorem Sim.forward : ∀ (l : List I3) {X : Nat} {ls : List I3} {e : Env} {cx : Cx} {ad : Nat → Option A} {θ : Th}, Sim P ev fr ops EM full e0 b θ0 m0 w0 k X ls l e cx ad θ listed a w →
    ∃ X' ls' l' e' cx' ad' θ', Sim P ev fr ops EM full e0 b θ0 m0 w0 k X' ls' l' e' cx' ad' θ' listed a w ∧ (l' = [] ∨ ∃ t l2, l' = t :: l2 ∧ t.k = 3) := by
  intro l
  induction l with
  | nil => intro X ls e cx ad θ hs; exact ⟨_, _, _, _, _, _, _, hs, .inl rfl⟩
  | cons t l ih =>
    intro X ls e cx ad θ hs
    by_cases h3 : t.k = 3
    · exact ⟨_, _, _, _, _, _, _, hs, .inr ⟨t, l, rfl, h3⟩⟩
    · obtain ⟨X', ls', e', cx', ad', θ', h⟩ := hs.step h3
      exact ih h
end
end Go.Ax

namespace Go.Ax
variable {P : Program}

theorem MR.of_sub {θ : Th} {m m' : A → Option B} {nx : A} {w : World} (h : MR P θ m nx w) (hs : ∀ x b, m' x = some b → m x = some b) : MR P θ m' nx w :=
  ⟨fun x b r hx hr => h.blk x b r (hs x b hx) hr, fun x y b c r hx hy => h.inj x y b c r (hs _ _ hx) (hs _ _ hy), h.fresh, h.glob, h.lim, fun x b hx => h.bd x b (hs _ _ hx)⟩

theorem Fm.bind {θ0 θ θ' : Th} {m0 m : A → Option B} {w0 w : World} {x : A} {obj : Obj} (f : Fm θ0 m0 w0 θ m w) (h0 : θ0.lim ≤ x.toNat) (hle : θ.le θ') (hx : θ'.ρ x = some w.heap.size) (hy : ∀ y, y ≠ x → θ'.ρ y = θ.ρ y) (hl : θ'.lim = θ.lim) : Fm θ0 m0 w0 θ' m (World.put w obj) where
  le := f.le.trans hle
  tape := f.tape
  os := f.os
  out := f.out
  size := by show w0.heap.size ≤ (w.heap.push obj).size; have := f.size; simp; omega
  same := fun r hr hh => by
    have := f.size
    show (w.heap.push obj)[r]? = _
    rw [Array.getElem?_push, if_neg (by omega)]
    exact f.same r hr hh
  lim := by rw [hl]; exact f.lim
  res := fun y hy' h => by
    obtain ⟨g1, g2⟩ := f.res y hy' h
    have ne : y ≠ x := fun e => by subst e; omega
    exact ⟨by rw [hy y ne]; exact g1, g2⟩
  foot := fun y c r hc hr => by
    by_cases e : y = x
    · subst e
      rw [hx] at hr
      obtain rfl : w.heap.size = r := by simpa using hr
      exact .inr f.size
    · rw [hy y e] at hr
      exact f.foot y c r hc hr

theorem getD_put {a : Act} {dst : Option Nat} {v : Value} {t : Nat} : (a.put dst v).tmps.getD t Go.undef = if dst = some t ∧ t < a.tmps.size then v else a.tmps.getD t Go.undef := by
  cases dst with
  | none => simp [Act.put]
  | some d =>
    simp only [Act.put, Array.getD_eq_getD_getElem?, Array.getElem?_setIfInBounds, Option.some.injEq]
    by_cases h : d = t
    · subst h
      by_cases hs : d < a.tmps.size
      · simp [hs]
      · simp [hs]
    · simp [h]

theorem size_put {a : Act} {dst : Option Nat} {v : Value} : (a.put dst v).tmps.size = a.tmps.size := by
  cases dst <;> simp [Act.put]

theorem set_listed {listed : Array Bool} {i : Nat} (hi : i < listed.size) (j : Nat) : (listed.setIfInBounds i true).getD j false = true ↔ listed.getD j false = true ∨ j = i := by
  by_cases h : i = j
  · subst h
    simp [Array.getD_eq_getD_getElem?, hi]
  · rw [getD_set_ne false h]
    exact ⟨.inl, fun hh => hh.resolve_right fun e => h e.symm⟩

section
variable {ev : Ev} {fr : Fr} {ops : Array Oper} {EM full : Nat} {e0 : Env} {b : Frame} {θ0 : Th} {m0 : A → Option B} {w0 : World} {k : KN}
variable {X : Nat} {ls l : List I3} {t : I3} {e : Env} {cx : Cx} {ad : Nat → Option A} {θ : Th} {listed : Array Bool} {a : Act} {w : World}
variable {cs : List Frame} {rest : List Nat} {K : List Item}

/-- registers, where the model has done one operation more -/
theorem r2_list {L : List Oper} {bs : List Nat} (hr : R2 L e0 e θ listed a) (hdst : dstsOk L = true) {i : Nat} {o : Oper} (ho : L[i]? = some o) (hi : i < listed.size) {θ' : Th} (hle : θ.le θ') {e' : Env} {v : V} {cv : Value} {a' : Act} (ha : a'.tmps = (a.put o.dst cv).tmps)
    (hdd : ∀ d, o.dst = some d → d < a.tmps.size) (hv : VR θ' v cv) (he : ∀ d, o.dst = some d → d < 256 → e'.at d = v) (hne : ∀ (j : Nat) oj t, t < 256 → L[j]? = some oj → oj.dst = some t → listed.getD j false = true → j ≠ i → e'.at t = e.at t) : R2 L e0 e' θ' (listed.setIfInBounds i true) a' := by
  intro t ht
  rw [ha, getD_put]
  refine ⟨fun ⟨j, oj, g1, g2, g3⟩ => ?_, fun h => ?_⟩
  · by_cases hji : j = i
    · subst hji
      rw [ho] at g1
      obtain rfl : o = oj := by simpa using g1
      rw [if_pos ⟨g2, hdd t g2⟩, he t g2 ht]
      exact hv
    · have g3 := ((set_listed hi j).1 g3).resolve_right hji
      have : ¬ (o.dst = some t ∧ t < a.tmps.size) := fun ⟨h1, _⟩ => hji (dsts_spec hdst i j o oj t ho g1 h1 g2).symm
      rw [if_neg this, hne j oj t ht g1 g2 g3 hji]
      exact ((hr t ht).1 ⟨j, oj, g1, g2, g3⟩).mono hle
  · have hnw : o.dst ≠ some t := fun hd => by
      have h1 := h i o ho hd
      have h2 := (set_listed hi i).2 (.inr rfl)
      rw [h1] at h2; cases h2
    rw [if_neg fun hh => hnw hh.1]
    refine ((hr t ht).2 fun j oj hj hd => ?_).mono hle
    cases hq : listed.getD j false with
    | false => rfl
    | true =>
      have h1 := h j oj hj hd
      have h2 := (set_listed hi j).2 (.inl hq)
      rw [h1] at h2; cases h2

theorem cl_list {bs : List Nat} (hc : Cl bs listed) {i : Nat} (hi : i < listed.size) (hrd : ∀ j, (mkB bs i).testBit j = true → listed.getD j false = true) : Cl bs (listed.setIfInBounds i true) := by
  intro i' j h1 h2
  rw [set_listed hi] at h1 ⊢
  rcases h1 with h1 | rfl
  · exact .inl (hc i' j h1 h2)
  · exact .inl (hrd j h2)

/-- the model does an operation that the executor has done -/
theorem Sim.list (hs : Sim P ev fr ops EM full e0 b θ0 m0 w0 k X ls l e cx ad θ listed a w) {i : Nat} {o : Oper} (ho : ops.toList[i]? = some o) (h3 : kindO o.op ≠ 3) (hX : X.testBit i = true) (hrd : ∀ j, (mkB (masksOf ops.toList []) i).testBit j = true → listed.getD j false = true)
    {v : V} {cv : Value} {θ' : Th} {w' : World} (hle : θ.le θ') (hv : VR θ' v cv) (he : ∀ d, o.dst = some d → e.at d = v) (hm : MRx P θ' cx.h cx.nx w') (hf : Fm θ0 m0 w0 θ' (hget cx.h) w') (hres : ∀ i' x, i' ≠ i → ad i' = some x → θ.ρ x = none → θ'.ρ x = none) :
    Sim P ev fr ops EM full e0 b θ0 m0 w0 k X ls l e cx ad θ' (listed.setIfInBounds i true) (a.put o.dst cv) w' := by
  have hlt : i < listed.size := by
    rw [hs.lsz]
    have := (List.getElem?_eq_some_iff.1 ho).1
    simpa using this
  refine ⟨hs.run, hs.chk, hs.dst, hs.r1, hs.xcl, hs.xem, hs.lds, hs.ldk, hs.dlt, by simp [hs.lsz], fun j hj => ?_, cl_list hs.cl hlt hrd, fun j oj hj h3' hx => (set_listed hlt j).2 (.inl (hs.eff j oj hj h3' hx)), by rw [size_put]; exact hs.sz, hs.n256,
    r2_list (bs := masksOf ops.toList []) hs.r2 hs.dst ho hlt hle rfl (fun d hd => by rw [hs.sz]; exact hs.dlt i o ho hX d hd) hv (fun d hd _ => he d hd) (fun _ _ _ _ _ _ _ _ => rfl), hm, by rw [Act.put_defers']; exact hs.dr.mono hle, hs.rnd.mono hle, hf, hs.adx, hs.adi, fun j oj hj h3' hx hl => ?_⟩
  · rcases (set_listed hlt j).1 hj with hj | rfl
    · exact hs.lx j hj
    · exact hX
  · have hne : j ≠ i := fun e => by subst e; rw [(set_listed hlt j).2 (.inr rfl)] at hl; cases hl
    have hl' : listed.getD j false = false := by
      cases hq : listed.getD j false with
      | false => rfl
      | true => rw [(set_listed hlt j).2 (.inl hq)] at hl; cases hl
    exact (hs.fact j oj hj h3' hx hl').keep (fun _ _ h => h) (fun x hx' h0 => hres j x hne hx' h0) (fun _ h => h)

theorem not_defer {o : Oper} (h : kindO o.op ≠ 3) : ∀ c, o.op ≠ .defer c := fun c hc => h (by rw [hc]; rfl)

open Classical in
theorem Sim.take (hs : Sim P ev fr ops EM full e0 b θ0 m0 w0 k X ls l e cx ad θ listed a w) {i : Nat} {o : Oper} (ho : ops.toList[i]? = some o) (h3 : kindO o.op ≠ 3) (hX : X.testBit i = true) (hun : listed.getD i false = false) (hrd : ∀ j, (mkB (masksOf ops.toList []) i).testBit j = true → listed.getD j false = true) :
    ∃ θ' a' w', Sim P ev fr ops EM full e0 b θ0 m0 w0 k X ls l e cx ad θ' (listed.setIfInBounds i true) a' w' ∧ Steps P (lone (b.atR a (.inRegion ops (i :: rest) :: K)) cs w) (lone (b.atR a' (.inRegion ops rest :: K)) cs w') := by
  obtain ⟨hok, ei, hOp, hcase⟩ := hs.fact i o ho h3 hX hun
  have hvr := opnd_model hs.r2 hs.cl hun hrd hOp
  have hoi : ops[i]? = some o := by simpa using ho
  have hopv := opnds_VR hok hs.mr.glob hvr
  rcases hcase with ⟨hg, hd⟩ | ⟨hg, v, hd, hk⟩
  · have hw := want_model hg hvr
    have hst := stepR_op_skip (P := P) (b := b) (a := a) (k := K) (cs := cs) (w := w) (ops := ops) (i := i) (rest := rest) (by rw [hoi]; simpa using hw)
    rw [hoi] at hst
    exact ⟨θ, _, w, hs.list ho h3 hX hrd (Th.le.refl _) (VR.undef _) hd hs.mr hs.fm (fun _ _ _ _ h => h), .one hst⟩
  · have hw := want_model hg hvr
    rcases hk with ⟨h0, hf⟩ | ⟨h1, hi, hsub, hf⟩ | ⟨h2, x, blk, hi, dsi, rndi, ny, q1, q2, q3, q4, q5, q6⟩
    · obtain ⟨v', cv, g1, g2, g3⟩ := rd_ok (o := o) (ev := ev) (ds := cx.ds) (rnd := cx.rnd) (k := fun u _ => decide (u = v)) (.inl h0) hs.mr hopv (by rw [operC_pure h0]; exact hf _ (by simp))
      have g1 := of_decide_eq_true g1
      subst g1
      exact ⟨θ, _, w, hs.list ho h3 hX hrd (Th.le.refl _) g2 hd hs.mr hs.fm (fun _ _ _ _ h => h), .one (step_value hoi hw (not_defer h3) g3)⟩
    · have hm' : MRx P θ hi cx.nx w := MR.of_sub hs.mr hsub
      obtain ⟨v', cv, g1, g2, g3⟩ := rd_ok (o := o) (ev := ev) (ds := cx.ds) (rnd := cx.rnd) (k := fun u _ => decide (u = v)) (.inr h1) hm' hopv (by rw [operC_read h1]; exact hf _ (by simp))
      have g1 := of_decide_eq_true g1
      subst g1
      exact ⟨θ, _, w, hs.list ho h3 hX hrd (Th.le.refl _) g2 hd hs.mr hs.fm (fun _ _ _ _ h => h), .one (step_value hoi hw (not_defer h3) g3)⟩
    · obtain ⟨v', blk', ny', p1, p2, p3⟩ := made_ok (o := o) (ev := ev) (k := fun u cx2 => decide (u = v ∧ cx2 = ⟨hset hi x (some blk), ny, dsi, rndi⟩)) h2 hopv (q6 _ (by simp))
      have p2 := of_decide_eq_true p2
      obtain ⟨rfl, p4⟩ := p2
      have p5 : hset hi x (some blk') = hset hi x (some blk) := by injection p4
      have p6 : blk' = blk := by
        have := congrArg (fun h => hget h x) p5
        simp only [hget_hset_same, Option.some.injEq] at this
        exact this
      subst p6
      obtain ⟨⟨obj, cvf, r1, r2⟩, r3⟩ := p3
      have hxlt : x.toNat < cx.nx.toNat := (hs.adx i x q1).2
      obtain ⟨θ', s1, s2, s3, s4, s5⟩ := hs.mr.bind q3 hxlt q2 (obj := obj) (fun θ' hl hr => (r2 θ' _ hl hr).1)
      exact ⟨θ', _, _, hs.list ho h3 hX hrd s1 (r2 θ' _ s1 s2).2 hd s5 (hs.fm.bind q4 s1 s2 s3 s4) (fun i' x' hne hx' h0 => by
        rw [s3 x' fun e => hne (by subst e; exact hs.adi i' i x' hx' q1)]; exact h0), .one (step_value hoi hw (not_defer h3) (r1 w))⟩

/-- reads done again -/
theorem againsC_true {L : List Oper} {bs : List Nat} {bE : Nat} : ∀ {ls : List I3} {Kb : Bool}, (∀ t ∈ ls, ∃ o, L[t.i]? = some o ∧ kindO o.op = 1) → (againsC P L bs bE ls).f ev e cx Kb = true →
    Kb = true ∧ ∀ t ∈ ls, bE.testBit t.i = false → ∃ o, L[t.i]? = some o ∧ okRegs true L bs t.i t.b (looks L o) = true ∧
      (GuardV L o e = some false ∨ (GuardV L o e = some true ∧ ∃ v, (∀ d, o.dst = some d → e.at d = v) ∧ ∀ κ : V → Bool, κ v = true → readR P o e cx.h κ = true)) := by
  intro ls
  induction ls with
  | nil => intro Kb _ h; exact ⟨h, fun t ht => by cases ht⟩
  | cons t ls ih =>
    intro Kb hk h
    have hk' : ∀ t ∈ ls, ∃ o, L[t.i]? = some o ∧ kindO o.op = 1 := fun u hu => hk u (by simp [hu])
    simp only [againsC] at h
    cases hb : bit bE t.i with
    | true =>
      rw [hb, cond_true] at h
      obtain ⟨h1, h2⟩ := ih hk' h
      refine ⟨h1, fun u hu hne => ?_⟩
      rcases List.mem_cons.1 hu with rfl | hu
      · rw [bit_eq, hne] at hb; cases hb
      · exact h2 u hu hne
    | false =>
      rw [hb, cond_false, nthL_eq] at h
      obtain ⟨o, ho, h1k⟩ := hk t (by simp)
      rw [ho] at h
      simp only at h
      cases hr : okRegs true L bs t.i t.b (looks L o) with
      | false => rw [hr] at h; cases h
      | true =>
        rw [hr, cond_true] at h
        simp only [Clo.on_f] at h
        obtain ⟨hh, nx, ds, rnd⟩ := cx
        -- the read itself
        have one : ∀ {Q : Bool}, (againC P L o).f ev e ⟨hh, nx, ds, rnd⟩ Q = true → Q = true ∧ (GuardV L o e = some false ∨ (GuardV L o e = some true ∧ ∃ v, (∀ d, o.dst = some d → e.at d = v) ∧ ∀ κ : V → Bool, κ v = true → readR P o e hh κ = true)) := fun {Q} hq => by
          unfold againC at hq
          simp only [Clo.on_f] at hq
          -- the comparison
          have cmp : ∀ {Q : Bool}, (match o.dst with | some d => bif Nat.blt d 256 then (getC d).on fun g => (⟨fun ev e cx k => (operC P o).f ev e cx fun v _ => g e fun u => sameV v u k⟩ : Clo (Ev → Env → Cx → Bool → Bool)) else ⟨fun _ _ _ _ => false⟩ | none => ⟨fun ev e cx k => (operC P o).f ev e cx fun _ _ => k⟩).f ev e ⟨hh, nx, ds, rnd⟩ Q = true →
              Q = true ∧ ∃ v, (∀ d, o.dst = some d → e.at d = v) ∧ ∀ κ : V → Bool, κ v = true → readR P o e hh κ = true := fun {Q} hq => by
            cases hd : o.dst with
            | none =>
              rw [hd] at hq
              simp only at hq
              rw [operC_read h1k] at hq
              obtain ⟨v, g1, g2⟩ := det_read (P := P) (o := o) (e := e) (h := hh) _ hq
              exact ⟨g1, v, fun d hd' => (by cases hd'), g2⟩
            | some d =>
              rw [hd] at hq
              simp only at hq
              cases hlt : Nat.blt d 256 with
              | false => rw [hlt] at hq; cases hq
              | true =>
                rw [hlt, cond_true] at hq
                simp only [Clo.on_f, getC_eq] at hq
                rw [operC_read h1k] at hq
                obtain ⟨v, g1, g2⟩ := det_read (P := P) (o := o) (e := e) (h := hh) _ hq
                obtain ⟨g3, g4⟩ := sameV_true g1
                exact ⟨g4, v, fun d' hd' => by simp only [Option.some.injEq] at hd'; subst hd'; exact g3.symm, g2⟩
          cases hg : o.guard with
          | none =>
            rw [hg] at hq
            obtain ⟨g1, g2⟩ := cmp hq
            exact ⟨g1, .inr ⟨by unfold GuardV; rw [hg], g2⟩⟩
          | some jw =>
            obtain ⟨j, want⟩ := jw
            rw [hg] at hq
            simp only [nthL_eq] at hq
            cases hd : (L[j]?).bind (·.dst) with
            | none => rw [hd] at hq; cases hq
            | some d =>
              rw [hd] at hq
              simp only at hq
              cases hlt : Nat.blt d 256 with
              | false => rw [hlt] at hq; cases hq
              | true =>
                rw [hlt, cond_true] at hq
                simp only [Clo.on_f, getC_eq] at hq
                have hd256 : d < 256 := by rwa [Nat.blt_eq] at hlt
                have hGV : GuardV L o e = some ((e.at d).isB want) := by unfold GuardV; rw [hg]; simp only [hd, if_pos hd256]
                rw [asB_eq] at hq
                rw [hGV]
                generalize e.at d = u at hq
                cases u with
                | b x =>
                  simp only [V.isB] at hq ⊢
                  rw [iteK_eq] at hq
                  cases hxw : (x == want) with
                  | true =>
                    rw [hxw, cond_true] at hq
                    obtain ⟨g1, g2⟩ := cmp hq
                    exact ⟨g1, .inr ⟨rfl, g2⟩⟩
                  | false => rw [hxw, cond_false] at hq; exact ⟨hq, .inl rfl⟩
                | _ => exact ⟨hq, .inl rfl⟩
        obtain ⟨g1, g2⟩ := one h
        obtain ⟨g3, g4⟩ := ih hk' g1
        refine ⟨g3, fun u hu hne => ?_⟩
        rcases List.mem_cons.1 hu with rfl | hu
        · exact ⟨o, ho, hr, g2⟩
        · exact g4 u hu hne
end
end Go.Ax

namespace Go.Ax
variable {P : Program}
section
variable {ev : Ev} {fr : Fr} {ops : Array Oper} {EM full : Nat} {e0 : Env} {b : Frame} {θ0 : Th} {m0 : A → Option B} {w0 : World} {k : KN}
variable {X : Nat} {ls l : List I3} {t : I3} {e : Env} {cx : Cx} {ad : Nat → Option A} {θ : Th} {listed : Array Bool} {a : Act} {w : World}
variable {cs : List Frame} {rest : List Nat} {K : List Item}

/-- an operation that acts: both do it -/
theorem Sim.act (hs : Sim P ev fr ops EM full e0 b θ0 m0 w0 k X ls (t :: l) e cx ad θ listed a w) (h3 : t.k = 3) (hE : EvOk P ev) (hn : NoRec b.kind cs) (hun : listed.getD t.i false = false) (hrd : ∀ j, (mkB (masksOf ops.toList []) t.i).testBit j = true → listed.getD j false = true) :
    ∃ X' ls' e' cx' ad' θ' a' w', Sim P ev fr ops EM full e0 b θ0 m0 w0 k X' ls' l e' cx' ad' θ' (listed.setIfInBounds t.i true) a' w' ∧ Steps P (lone (b.atR a (.inRegion ops (t.i :: rest) :: K)) cs w) (lone (b.atR a' (.inRegion ops rest :: K)) cs w') := by
  obtain ⟨o, ho, hb, hX, hkd, hsub, heff, hregs, hem, hchk⟩ := chk_cons hs.chk
  have hk3 : kindO o.op = 3 := hkd.trans h3
  have hOp := hs.opnd ho
  have hvr := opnd_model hs.r2 hs.cl hun hrd hOp
  have hoi : ops[t.i]? = some o := by simpa using ho
  have hlt : t.i < listed.size := by
    rw [hs.lsz]
    have := (List.getElem?_eq_some_iff.1 ho).1
    simpa using this
  have hrun := hs.run
  rw [drawK_cons ho, h3] at hrun
  simp only [Nat.beq_refl, cond_true] at hrun
  obtain ⟨hok, hcase⟩ := oneC_true hrun
  have hbits : ∀ j, (Nat.lor X (Nat.shiftLeft 1 t.i)).testBit j = true ↔ X.testBit j = true ∨ t.i = j := fun j => by rw [lor_bit, Bool.or_eq_true, decide_eq_true_iff]
  have hmono : ∀ j, X.testBit j = true → (Nat.lor X (Nat.shiftLeft 1 t.i)).testBit j = true := fun j h => (hbits j).2 (.inl h)
  -- both have done it
  have fin : ∀ {θ' : Th} {v : V} {cv : Value} {cx1 : Cx} {ds' : List Deferred} {w' : World}, VR θ' v cv → MRx P θ' cx1.h cx1.nx w' → Fm θ (hget cx.h) w θ' (hget cx1.h) w' → DR θ' cx1.ds ds' → cx1.rnd = cx.rnd →
      Steps P (lone (b.atR a (.inRegion ops (t.i :: rest) :: K)) cs w) (lone (b.atR (({ a with defers := ds' } : Act).put o.dst cv) (.inRegion ops rest :: K)) cs w') →
      (putC fr o.dst).f e v (fun e => (againsC P ops.toList (masksOf ops.toList []) t.b ls).f ev e cx1 ((drawK P fr ops.toList (masksOf ops.toList []) ls l).f ev e cx1 k)) = true →
      ∃ X' ls' e' cx' ad' θ' a' w', Sim P ev fr ops EM full e0 b θ0 m0 w0 k X' ls' l e' cx' ad' θ' (listed.setIfInBounds t.i true) a' w' ∧ Steps P (lone (b.atR a (.inRegion ops (t.i :: rest) :: K)) cs w) (lone (b.atR a' (.inRegion ops rest :: K)) cs w') := fun {θ' v cv cx1 ds' w'} hv hm hF hD hR hst hp => by
    obtain ⟨hdd, hr⟩ := putC_eq hp
    have hd256 : ∀ d, o.dst = some d → d < 256 := fun d hd => Nat.lt_of_lt_of_le (hdd d hd).1 hs.n256
    obtain ⟨hr1, hr2⟩ := againsC_true (fun u hu => let ⟨o', g1, g2, _, _⟩ := hs.ldk u hu; ⟨o', g1, g2⟩) hr
    have hne : ∀ (j : Nat) oj t', t' < 256 → ops.toList[j]? = some oj → oj.dst = some t' → j ≠ t.i → (epd e o.dst v).at t' = e.at t' := fun j oj t' ht' hj hd hji => by
      rw [epd_at hd256 ht', if_neg]
      intro hh
      exact hji (dsts_spec hs.dst t.i j o oj t' ho hj hh hd).symm
    have hr1' : ∀ t', t' < 256 → (∀ (j : Nat) oj, ops.toList[j]? = some oj → oj.dst = some t' → (Nat.lor X (Nat.shiftLeft 1 t.i)).testBit j = false) → (epd e o.dst v).at t' = e0.at t' := fun t' ht' hw => by
      rw [epd_at hd256 ht', if_neg]
      · exact hs.r1 t' ht' fun j oj hj hd => by
          cases hq : X.testBit j with
          | false => rfl
          | true => have := hw j oj hj hd; rw [hmono j hq] at this; exact this
      · intro hh
        have := hw t.i o ho hh
        rw [(hbits t.i).2 (.inr rfl)] at this; cases this
    have hlim : θ.lim ≤ θ'.lim := hF.lim
    refine ⟨Nat.lor X (Nat.shiftLeft 1 t.i), ls, epd e o.dst v, cx1, ad, θ', _, w', ⟨hr1, hchk, hs.dst, hr1', fun i j hi hj => ?_, fun i o' hi h3' hx => ?_, fun i o' hi h1 hx => ?_, fun t' ht' => ?_, fun i o' hi hx d hd => ?_, by simp [hs.lsz], fun i hi => ?_, cl_list hs.cl hlt hrd, fun i o' hi h3' hx => ?_, by rw [size_put]; exact hs.sz, hs.n256,
      r2_list (bs := masksOf ops.toList []) (a' := ({ a with defers := ds' } : Act).put o.dst cv) hs.r2 hs.dst ho hlt hF.le (by cases o.dst <;> rfl) (fun d hd => by rw [hs.sz]; exact (hdd d hd).1) hv (fun d hd hlt' => by rw [epd_at hd256 hlt', if_pos hd]) (fun j oj t' ht' hj hd _ hji => hne j oj t' ht' hj hd hji),
      hm, by rw [Act.put_defers']; exact hD, by rw [hR]; exact hs.rnd.mono hF.le, hs.fm.trans hF, fun i x hx => ⟨hmono i (hs.adx i x hx).1, by have := (hs.adx i x hx).2; rw [← hs.mr.lim] at this; rw [← hm.lim]; omega⟩, hs.adi, fun i o' hi h3' hx hl => ?_⟩, hst⟩
    · rcases (hbits i).1 hi with hi | rfl
      · exact hmono j (hs.xcl i j hi hj)
      · exact hmono j (hsub j (by rw [← hb]; exact hj))
    · rcases (hbits i).1 hx with hx | rfl
      · exact hs.xem i o' hi h3' hx
      · exact hem h3
    · rcases (hbits i).1 hx with hx | rfl
      · exact hs.lds i o' hi h1 hx
      · rw [ho] at hi
        obtain rfl : o = o' := by simpa using hi
        rw [hk3] at h1; cases h1
    · obtain ⟨o', g1, g2, g3, g4⟩ := hs.ldk t' ht'
      exact ⟨o', g1, g2, hmono _ g3, g4⟩
    · rcases (hbits i).1 hx with hx | rfl
      · exact hs.dlt i o' hi hx d hd
      · rw [ho] at hi
        obtain rfl : o = o' := by simpa using hi
        exact (hdd d hd).1
    · rcases (set_listed hlt i).1 hi with hi | rfl
      · exact hmono i (hs.lx i hi)
      · exact (hbits _).2 (.inr rfl)
    · rcases (hbits i).1 hx with hx | rfl
      · exact (set_listed hlt i).2 (.inl (hs.eff i o' hi h3' hx))
      · exact (set_listed hlt _).2 (.inr rfl)
    · -- the facts
      have hne_i : i ≠ t.i := fun e => by subst e; rw [(set_listed hlt t.i).2 (.inr rfl)] at hl; cases hl
      have hxi : X.testBit i = true := ((hbits i).1 hx).resolve_right fun e => hne_i e.symm
      have hl' : listed.getD i false = false := by
        cases hq : listed.getD i false with
        | false => rfl
        | true => rw [(set_listed hlt i).2 (.inl hq)] at hl; cases hl
      obtain ⟨f1, ei, f2, f3⟩ := (hs.fact i o' hi h3' hxi hl').env hs.xcl hs.dst hi hxi ho hX hd256 (fun d hd => Nat.lt_of_lt_of_le (hs.dlt i o' hi hxi d hd) hs.n256) v
      refine ⟨f1, ?_⟩
      rcases f3 with g | ⟨g1, u, g2, g3⟩
      · exact ⟨ei, f2, .inl g⟩
      · rcases g3 with g | ⟨k1, hi', k2, k3⟩ | ⟨k1, x, blk, hi', dsi, rndi, ny, k2, k3, k4, k5, k6, k7⟩
        · exact ⟨ei, f2, .inr ⟨g1, u, g2, .inl g⟩⟩
        · -- a read: it was done again
          obtain ⟨t', ht', rfl⟩ := hs.lds i o' hi k1 hxi
          have hbE : t.b.testBit t'.i = false := by
            cases hq : t.b.testBit t'.i with
            | false => rfl
            | true => rw [hrd t'.i (by rw [hb]; exact hq)] at hl'; cases hl'
          obtain ⟨o2, p1, p2, p3⟩ := hr2 t' ht' hbE
          rw [hi] at p1
          obtain rfl : o' = o2 := by simpa using p1
          obtain ⟨_, _, _, _, ht'b⟩ := hs.ldk t' ht'
          have strict : ∀ t2 ∈ looks ops.toList o', ∀ (j : Nat) oj, ops.toList[j]? = some oj → oj.dst = some t2 → (mkB (masksOf ops.toList []) t'.i).testBit j = true := fun t2 ht2 j oj hj hd => by
            rcases okRegs_spec (by rw [masks_length]; exact Nat.le_refl _) p2 t2 ht2 j oj hj hd with ⟨q1, _⟩ | ⟨q1, _⟩
            · rw [← ht'b]; exact q1
            · cases q1
          have now : OpndOk ops.toList (masksOf ops.toList []) e0 (epd e o.dst v) t'.i o' (epd e o.dst v) := fun t2 ht2 hlt2 => by
            by_cases hw : ∃ (j : Nat) (oj : Oper), ops.toList[j]? = some oj ∧ oj.dst = some t2
            · obtain ⟨j, oj, hj, hd⟩ := hw
              exact .inl ⟨⟨j, oj, hj, hd, strict t2 ht2 j oj hj hd⟩, rfl⟩
            · exact .inr ⟨fun j oj hj hd => absurd ⟨j, oj, hj, hd⟩ hw, hr1' t2 hlt2 fun j oj hj hd => absurd ⟨j, oj, hj, hd⟩ hw⟩
          -- what it was guarded by is what it was
          have hgv : GuardV ops.toList o' (epd e o.dst v) = GuardV ops.toList o' ei := by
            unfold GuardV
            cases hg : o'.guard with
            | none => rfl
            | some jw =>
              obtain ⟨j, want⟩ := jw
              simp only
              cases hd : (ops.toList[j]?).bind (·.dst) with
              | none => rfl
              | some d =>
                simp only
                by_cases hlt2 : d < 256
                · rw [if_pos hlt2, if_pos hlt2]
                  have hmem : d ∈ looks ops.toList o' := by
                    unfold looks
                    rw [hg]
                    simp only [nthL_eq, hd]
                    simp
                  rcases f2 d hmem hlt2 with ⟨_, q⟩ | ⟨q1, q2⟩
                  · rw [q]
                  · rw [q2, hr1' d hlt2 fun j' oj hj hd' => absurd (strict d hmem j' oj hj hd') (by rw [(q1 j' oj hj hd').1]; exact Bool.false_ne_true)]
                · rw [if_neg hlt2, if_neg hlt2]
          rcases p3 with p3 | ⟨p3, u', p4, p5⟩
          · rw [hgv, g1] at p3; cases p3
          · exact ⟨epd e o.dst v, now, .inr ⟨p3, u', p4, .inr (.inl ⟨k1, cx1.h, fun _ _ h => h, p5⟩)⟩⟩
        · obtain ⟨q1, q2⟩ := hF.res x (by rw [hs.mr.lim]; exact (hs.adx i x k2).2) k4
          exact ⟨ei, f2, .inr ⟨g1, u, g2, .inr (.inr ⟨k1, x, blk, hi', dsi, rndi, ny, k2, by rw [q2]; exact k3, q1, k5, k6, k7⟩)⟩⟩
  rcases hcase with ⟨hg, hop⟩ | ⟨hg, hp⟩
  · obtain ⟨θ', v, cv, cx1, ds', w', g1, g2, g3, g4, g5, g6, g7⟩ := oper_ok (rest := rest) (K := K) hE hs.mr hs.dr hs.rnd hn hoi (want_model hg hvr) (opnds_VR hok hs.mr.glob hvr) hop
    exact fin g2 g3 g4 g5 g6 g7 g1
  · have hst := stepR_op_skip (P := P) (b := b) (a := a) (k := K) (cs := cs) (w := w) (ops := ops) (i := t.i) (rest := rest) (by rw [hoi]; simpa using want_model hg hvr)
    rw [hoi] at hst
    exact fin (VR.undef _) hs.mr (Fm.refl _ _ _) hs.dr rfl (.one hst) hp

theorem countP_set (l : List Nat) (p q : Nat → Bool) (h : ∀ x, q x = true → p x = true) {i : Nat} (hi : i ∈ l) (hp : p i = true) (hq : q i = false) : l.countP q < l.countP p := by
  induction l with
  | nil => cases hi
  | cons x l ih =>
    have hle : l.countP q ≤ l.countP p := List.countP_mono_left fun y _ hy => h y hy
    rw [List.countP_cons, List.countP_cons]
    rcases List.mem_cons.1 hi with rfl | hi
    · rw [hp, hq]; simp; omega
    · have := ih hi
      cases hqx : q x with
      | false => cases p x <;> simp <;> omega
      | true => rw [h x hqx]; simp; exact this

/-- how many operations the model has not done -/
def left (n : Nat) (listed : Array Bool) : Nat := (List.range n).countP fun i => !listed.getD i true

theorem chk_sub {L : List Oper} {bs : List Nat} : ∀ {l : List I3} {X : Nat}, chkD L bs EM full X l = true → ∀ i, X.testBit i = true → full.testBit i = true := by
  intro l
  induction l with
  | nil =>
    intro X h i hi
    have : X = full := Nat.eq_of_beq_eq_true h
    rw [← this]; exact hi
  | cons t l ih =>
    intro X h i hi
    obtain ⟨o, g1, g2, g3, g4, g5, g6, g7, g8, g9⟩ := chk_cons h
    exact ih g9 i (by rw [lor_bit, hi]; rfl)

/-- the operations of a drawn region, up to where all of 'full' are done -/
theorem go_ok {md : Region.Mode} {allM : Nat} (hE : EvOk P ev) (hn : NoRec b.kind cs) (hfn : b.fn = fr.fn) (hc : complete md ops.toList allM = true) (hall : ∀ i, allM.testBit i = true ↔ i < ops.size) (hsub : ∀ i, full.testBit i = true → i < ops.size)
    (hpre : ∀ listed : Array Bool, Cl (masksOf ops.toList []) listed → ∀ i ∈ Region.ready md ops listed, (∃ j, full.testBit j = true ∧ listed.getD j false = false) → full.testBit i = true) : ∀ (fuel tape : Nat) {X : Nat} {ls l : List I3} {e : Env} {cx : Cx} {ad : Nat → Option A} {θ : Th} {listed : Array Bool} {a : Act} {w : World},
    Sim P ev fr ops EM full e0 b θ0 m0 w0 k X ls l e cx ad θ listed a w → (l = [] ∨ ∃ t l2, l = t :: l2 ∧ t.k = 3) → left ops.size listed ≤ fuel →
    ∃ fuel' tape' listed' θ' a' e' cx' w', k e' cx' = true ∧ St P θ' fr b a' cs e' cx' w' ∧ Fm θ0 m0 w0 θ' (hget cx'.h) w' ∧ (∀ j, listed'.getD j false = true ↔ full.testBit j = true) ∧ listed'.size = ops.size ∧ left ops.size listed' ≤ fuel' ∧
      Steps P (lone (b.atR a (.inRegion ops (Region.linearise.go md ops fuel tape listed []) :: K)) cs w) (lone (b.atR a' (.inRegion ops (Region.linearise.go md ops fuel' tape' listed' []) :: K)) cs w') := by
  intro fuel
  -- the end
  have fin : ∀ (fuel tape : Nat) {X : Nat} {ls l : List I3} {e : Env} {cx : Cx} {ad : Nat → Option A} {θ : Th} {listed : Array Bool} {a : Act} {w : World}, Sim P ev fr ops EM full e0 b θ0 m0 w0 k X ls l e cx ad θ listed a w → (l = [] ∨ ∃ t l2, l = t :: l2 ∧ t.k = 3) → (∀ j, full.testBit j = true → listed.getD j false = true) → left ops.size listed ≤ fuel →
      ∃ fuel' tape' listed' θ' a' e' cx' w', k e' cx' = true ∧ St P θ' fr b a' cs e' cx' w' ∧ Fm θ0 m0 w0 θ' (hget cx'.h) w' ∧ (∀ j, listed'.getD j false = true ↔ full.testBit j = true) ∧ listed'.size = ops.size ∧ left ops.size listed' ≤ fuel' ∧
        Steps P (lone (b.atR a (.inRegion ops (Region.linearise.go md ops fuel tape listed []) :: K)) cs w) (lone (b.atR a' (.inRegion ops (Region.linearise.go md ops fuel' tape' listed' []) :: K)) cs w') := fun fuel tape {X ls l e cx ad θ listed a w} hs hhd hdone hle => by
    have hl : l = [] := by
      rcases hhd with h | ⟨t, l2, rfl, h3⟩
      · exact h
      · obtain ⟨o, ho, hb, hX, _, _, _, _, _, hchk⟩ := chk_cons hs.chk
        have := hs.lx t.i (hdone t.i (chk_sub hchk t.i (by rw [lor_bit]; simp)))
        rw [hX] at this; cases this
    subst hl
    have hXf : X = full := Nat.eq_of_beq_eq_true hs.chk
    refine ⟨fuel, tape, listed, θ, a, e, cx, w, hs.run, ⟨⟨hs.sz, hs.n256, fun t ht => ?_⟩, hs.mr, hs.dr, hs.rnd, hfn, hn⟩, hs.fm, fun j => ⟨fun h => by rw [← hXf]; exact hs.lx j h, hdone j⟩, hs.lsz, hle, .refl _ _⟩
    by_cases hw : ∃ (j : Nat) (oj : Oper), ops.toList[j]? = some oj ∧ oj.dst = some t ∧ full.testBit j = true
    · obtain ⟨j, oj, hj, hd, hf⟩ := hw
      exact (hs.r2 t ht).1 ⟨j, oj, hj, hd, hdone j hf⟩
    · rw [hs.r1 t ht fun j oj hj hd => by
        cases hq : X.testBit j with
        | false => rfl
        | true => exact absurd ⟨j, oj, hj, hd, by rw [← hXf]; exact hq⟩ hw]
      exact (hs.r2 t ht).2 fun j oj hj hd => by
        cases hq : listed.getD j false with
        | false => rfl
        | true => exact absurd ⟨j, oj, hj, hd, by rw [← hXf]; exact hs.lx j hq⟩ hw
  induction fuel with
  | zero =>
    intro tape X ls l e cx ad θ listed a w hs hhd hle
    refine fin 0 tape hs hhd (fun j hj => ?_) hle
    cases hq : listed.getD j false with
    | true => rfl
    | false =>
      have hlt := hsub j hj
      have hltl : j < listed.size := by rw [hs.lsz]; exact hlt
      have h0 : listed.getD j true = false := by
        rw [Array.getD_eq_getD_getElem?, Array.getElem?_eq_getElem hltl] at hq ⊢
        exact hq
      have : 0 < left ops.size listed := List.countP_pos_iff.2 ⟨j, List.mem_range.2 hlt, by rw [h0]; rfl⟩
      omega
  | succ fuel ih =>
    intro tape X ls l e cx ad θ listed a w hs hhd hle
    by_cases hdone : ∀ j, full.testBit j = true → listed.getD j false = true
    · exact fin (fuel + 1) tape hs hhd hdone hle
    · have hnot : ∃ j, full.testBit j = true ∧ listed.getD j false = false := by
        obtain ⟨j, hj⟩ := Classical.not_forall.1 hdone
        obtain ⟨h1, h2⟩ := Classical.not_imp.1 hj
        exact ⟨j, h1, by simpa using h2⟩
      simp only [Region.linearise.go]
      change ∃ fuel' tape' listed' θ' a' e' cx' w', k e' cx' = true ∧ St P θ' fr b a' cs e' cx' w' ∧ Fm θ0 m0 w0 θ' (hget cx'.h) w' ∧ (∀ j, listed'.getD j false = true ↔ full.testBit j = true) ∧ listed'.size = ops.size ∧ left ops.size listed' ≤ fuel' ∧
        Steps P (lone (b.atR a (.inRegion ops (match (Region.ready md ops listed)[tape % (Region.ready md ops listed).length]? with
          | some i => Region.linearise.go md ops fuel (tape / (Region.ready md ops listed).length) (listed.setIfInBounds i true) [i]
          | none => [].reverse) :: K)) cs w) (lone (b.atR a' (.inRegion ops (Region.linearise.go md ops fuel' tape' listed' []) :: K)) cs w')
      cases hi : (Region.ready md ops listed)[tape % (Region.ready md ops listed).length]? with
      | none =>
        exfalso
        have hnil : Region.ready md ops listed = [] := by
          cases hr : Region.ready md ops listed with
          | nil => rfl
          | cons x xs =>
            rw [hr] at hi
            have hlt : tape % (x :: xs).length < (x :: xs).length := Nat.mod_lt _ (by simp)
            simp at hi
            simp at hlt
            omega
        obtain ⟨j, h1, h2⟩ := hnot
        rw [all_listed hs.lsz hc hnil j ((hall j).2 (hsub j h1))] at h2; cases h2
      | some i =>
        simp only []
        rw [linearise_go_acc, List.reverse_singleton, List.singleton_append]
        have hmem := List.mem_of_getElem? hi
        obtain ⟨h0, o, hoi, _⟩ := mem_ready.1 hmem
        have ho : ops.toList[i]? = some o := by simpa using hoi
        have hlt : i < ops.size := (Array.getElem?_eq_some_iff.1 hoi).1
        have hfi : full.testBit i = true := hpre listed hs.cl i hmem hnot
        have hltl : i < listed.size := by rw [hs.lsz]; exact hlt
        have hun : listed.getD i false = false := by
          rw [Array.getD_eq_getD_getElem?, Array.getElem?_eq_getElem hltl] at h0 ⊢
          exact h0
        have hrd : ∀ j, (mkB (masksOf ops.toList []) i).testBit j = true → listed.getD j false = true := fun j hj => ready_closed hs.cl hmem hj
        have hleft : left ops.size (listed.setIfInBounds i true) ≤ fuel := by
          have : left ops.size (listed.setIfInBounds i true) < left ops.size listed := by
            refine countP_set _ _ _ (fun x hx => ?_) (List.mem_range.2 hlt) (by rw [h0]; rfl) ?_
            · by_cases e : i = x
              · subst e; rw [h0]; rfl
              · rwa [getD_set_ne true e] at hx
            · simp [Array.getD_eq_getD_getElem?, hltl]
          omega
        by_cases h3 : kindO o.op = 3
        · have hnX : X.testBit i = false := by
            cases hq : X.testBit i with
            | false => rfl
            | true => rw [hs.eff i o ho h3 hq] at hun; cases hun
          rcases hhd with rfl | ⟨t, l2, rfl, ht3⟩
          · have : X = full := Nat.eq_of_beq_eq_true hs.chk
            rw [this, hfi] at hnX; cases hnX
          · have hti : t.i = i := by
              obtain ⟨o', ho', hb, hX, hkd, hsub', heff, hregs, hem, hchk⟩ := chk_cons hs.chk
              by_cases e : t.i = i
              · exact e
              · exfalso
                have := chk_later hchk (i := i) (E := t.i) (by rw [lor_bit]; simp) (hem ht3) hfi (by rw [lor_bit, hnX]; simpa using e)
                have := hs.lx _ (hrd _ this)
                rw [hX] at this; cases this
            subst hti
            obtain ⟨X1, ls1, e1, cx1, ad1, θ1, a1, w1, hs1, hst⟩ := hs.act (cs := cs) (rest := Region.linearise.go md ops fuel (tape / (Region.ready md ops listed).length) (listed.setIfInBounds t.i true) []) (K := K) ht3 hE hn hun hrd
            obtain ⟨X2, ls2, l', e2, cx2, ad2, θ2, hs2, hhd2⟩ := Sim.forward l2 hs1
            obtain ⟨f', t', l'', θ', a', e', cx', w', g1, g2, g3, g5, g6, g7, g4⟩ := ih _ hs2 hhd2 hleft
            exact ⟨f', t', l'', θ', a', e', cx', w', g1, g2, g3, g5, g6, g7, hst.trans g4⟩
        · have hX : X.testBit i = true := by
            cases hq : X.testBit i with
            | true => rfl
            | false =>
              exfalso
              rcases hhd with rfl | ⟨t, l2, rfl, ht3⟩
              · have : X = full := Nat.eq_of_beq_eq_true hs.chk
                rw [this, hfi] at hq; cases hq
              · obtain ⟨o', ho', hb, hX, hkd, hsub', heff, hregs, hem, hchk⟩ := chk_cons hs.chk
                have e : t.i ≠ i := fun e => by
                  subst e
                  rw [ho] at ho'
                  obtain rfl : o = o' := by simpa using ho'
                  exact h3 (hkd.trans ht3)
                have := chk_later hchk (i := i) (E := t.i) (by rw [lor_bit]; simp) (hem ht3) hfi (by rw [lor_bit, hq]; simpa using e)
                have := hs.lx _ (hrd _ this)
                rw [hX] at this; cases this
          obtain ⟨θ1, a1, w1, hs1, hst⟩ := hs.take (cs := cs) (rest := Region.linearise.go md ops fuel (tape / (Region.ready md ops listed).length) (listed.setIfInBounds i true) []) (K := K) ho h3 hX hun hrd
          obtain ⟨f', t', l'', θ', a', e', cx', w', g1, g2, g3, g5, g6, g7, g4⟩ := ih _ hs1 hhd hleft
          exact ⟨f', t', l'', θ', a', e', cx', w', g1, g2, g3, g5, g6, g7, hst.trans g4⟩

/-- where all is done, nothing is left -/
theorem go_done {md : Region.Mode} {listed : Array Bool} (hsz : listed.size = ops.size) (hl : ∀ j, j < ops.size → listed.getD j false = true) (fuel tape : Nat) : Region.linearise.go md ops fuel tape listed [] = [] := by
  have hr : Region.ready md ops listed = [] := by
    cases hq : Region.ready md ops listed with
    | nil => rfl
    | cons i r =>
      have hi : i ∈ Region.ready md ops listed := by rw [hq]; simp
      obtain ⟨h0, o, ho, _⟩ := mem_ready.1 hi
      have hlt : i < ops.size := (Array.getElem?_eq_some_iff.1 ho).1
      have h1 := hl i hlt
      rw [Array.getD_eq_getD_getElem?, Array.getElem?_eq_getElem (by omega)] at h0 h1
      rw [Option.getD_some] at h0 h1
      rw [h0] at h1; cases h1
  cases fuel with
  | zero => rfl
  | succ fuel =>
    simp only [Region.linearise.go]
    change (match (Region.ready md ops listed)[tape % (Region.ready md ops listed).length]? with
      | some i => Region.linearise.go md ops fuel (tape / (Region.ready md ops listed).length) (listed.setIfInBounds i true) [i]
      | none => [].reverse) = []
    rw [hr]; rfl

/-- the beginning -/
theorem sim_start {allM : Nat} {a : Act} {cs : List Frame} {w : World} {cx : Cx} {θ : Th} (hS : St P θ fr b a cs e0 cx w) {s : List I3} (hk : (drawK P fr ops.toList (masksOf ops.toList []) [] s).f ev e0 cx k = true) (hchk : chkD ops.toList (masksOf ops.toList []) EM full 0 s = true) (hd : dstsOk ops.toList = true) :
    Sim P ev fr ops EM full e0 b θ (hget cx.h) w k 0 [] s e0 cx (fun _ => none) θ (Array.replicate ops.size false) a { w with drawn := w.drawn + 1 } := by
  have hget' : ∀ j, (Array.replicate ops.size false).getD j false = false := fun j => by
    rw [Array.getD_eq_getD_getElem?, Array.getElem?_replicate]
    split <;> rfl
  exact ⟨hk, hchk, hd, fun _ _ _ => rfl, fun i j h => (by simp at h), fun i o _ _ h => (by simp at h), fun i o _ _ h => (by simp at h), fun t h => (by cases h), fun i o _ h => (by simp at h), by simp, fun i h => (by rw [hget'] at h; cases h), fun i j h => (by rw [hget'] at h; cases h), fun i o _ _ h => (by simp at h), hS.rr.1, hS.rr.2.1,
    fun t ht => ⟨fun ⟨j, oj, _, _, h⟩ => (by rw [hget'] at h; cases h), fun _ => hS.rr.2.2 t ht⟩, MR.of_heap hS.mr rfl, hS.dr, hS.rnd, Fm.of_heap _ _ rfl rfl rfl rfl, fun i x h => (by cases h), fun i i' x h => (by cases h), fun i o _ _ h => (by simp at h)⟩
end

theorem full_bits (n i : Nat) : (Nat.sub (Nat.shiftLeft 1 n) 1).testBit i = true ↔ i < n := by
  show (1 <<< n - 1).testBit i = true ↔ _
  rw [Nat.one_shiftLeft, Nat.testBit_two_pow_sub_one, decide_eq_true_iff]

theorem left_start (n : Nat) : left n (Array.replicate n false) ≤ n := by
  unfold left
  exact Nat.le_trans (List.countP_le_length) (by simp)

/-- a whole region -/
theorem drawAll_ok {ev : Ev} (hE : EvOk P ev) {fr : Fr} {ops : Array Oper} {θ : Th} {e : Env} {cx : Cx} {k : KN} {w : World} {b : Frame} {a : Act} {cs : List Frame} {EM : Nat} {s : List I3}
    (hS : St P θ fr b a cs e cx w) (hd : dstsOk ops.toList = true) (hchk : chkD ops.toList (masksOf ops.toList []) EM (Nat.sub (Nat.shiftLeft 1 ops.toList.length) 1) 0 s = true) (hk : (drawK P fr ops.toList (masksOf ops.toList []) [] s).f ev e cx k = true)
    (c1 : complete .any ops.toList (Nat.sub (Nat.shiftLeft 1 ops.toList.length) 1) = true) (c2 : complete .text ops.toList (Nat.sub (Nat.shiftLeft 1 ops.toList.length) 1) = true) (c3 : complete .gc ops.toList (Nat.sub (Nat.shiftLeft 1 ops.toList.length) 1) = true) (id : Nat) (K : List Item) (kx : KX) (kr : KN) :
    Out P θ cx.h w fr b cs (lone (b.atR a (.code (.region id ops true) :: K)) cs w) K k kx kr := by
  have hfull : ∀ i, (Nat.sub (Nat.shiftLeft 1 ops.toList.length) 1).testBit i = true ↔ i < ops.size := fun i => by rw [full_bits]; simp
  obtain ⟨X', ls', l', e', cx', ad', θ', hs', hhd⟩ := Sim.forward _ (sim_start (allM := 0) hS hk hchk hd)
  have go : ∀ md tape, complete md ops.toList (Nat.sub (Nat.shiftLeft 1 ops.toList.length) 1) = true → ∃ θ' a' e' cx' w', k e' cx' = true ∧ St P θ' fr b a' cs e' cx' w' ∧ Fm θ (hget cx.h) w θ' (hget cx'.h) w' ∧
      Steps P (lone (b.atR a (.inRegion ops (Region.linearise md ops tape) :: K)) cs { w with drawn := w.drawn + 1 }) (lone (b.atR a' K) cs w') := fun md tape hc => by
    obtain ⟨f', t', l'', θ', a', e', cx', w', g1, g2, g3, g5, g6, g7, g4⟩ := go_ok (K := K) hE hS.nr hS.fn hc hfull (fun i hi => (hfull i).1 hi) (fun listed _ i hi _ => (hfull i).2 (by
      obtain ⟨_, o, ho, _⟩ := mem_ready.1 hi
      exact (Array.getElem?_eq_some_iff.1 ho).1)) ops.size tape hs' hhd (left_start ops.size)
    rw [go_done g6 (fun j hj => (g5 j).2 ((hfull j).2 hj))] at g4
    exact ⟨θ', a', e', cx', w', g1, g2, g3, g4.trans (.one stepR_region_end)⟩
  have all : ∀ tape, ∃ θ' a' e' cx' w', k e' cx' = true ∧ St P θ' fr b a' cs e' cx' w' ∧ Fm θ (hget cx.h) w θ' (hget cx'.h) w' ∧
      Steps P (lone (b.atR a (.inRegion ops (Region.schedule (P.follows .mixedOrders) ops tape) :: K)) cs { w with drawn := w.drawn + 1 }) (lone (b.atR a' K) cs w') := fun tape => by
    unfold Region.schedule
    split
    · exact go .any tape c1
    · split
      · exact go .text _ c2
      · exact go .gc _ c3
  obtain ⟨θ1, a1, e1, cx1, w1, g1, g2, g3, g4⟩ := all (w.tape w.drawn (.order b.fn id))
  exact ⟨θ1, a1, e1, cx1, w1, g2, g3, .inl ⟨g1, .head stepR_region_draw g4⟩⟩
end Go.Ax

namespace Go.Ax
variable {P : Program}

/-- a store looks at one block, and turns it -/
theorem storeC_loc {t : TypeId} {v : V} {x : A} {i : Nat} {h : Hp} {nx : A} {ds : List D} {rnd : Option A} {k : Cx → Bool} (hk : (storeC P t).f (.p x i) v ⟨h, nx, ds, rnd⟩ k = true) :
    ∃ blk blk', hget h x = some blk ∧ k ⟨hset h x (some blk'), nx, ds, rnd⟩ = true ∧ ∀ (h2 : Hp) (nx2 : A) (ds2 : List D) (rnd2 : Option A) (k2 : Cx → Bool), hget h2 x = some blk → k2 ⟨hset h2 x (some blk'), nx2, ds2, rnd2⟩ = true → (storeC P t).f (.p x i) v ⟨h2, nx2, ds2, rnd2⟩ k2 = true := by
  unfold storeC at hk ⊢
  split at hk
  · rename_i sz _ _
    have hk : asAgg v (fun m tv => hcellsK h x (fun n g s tr => iteK (Nat.beq m sz) (iteK (Nat.ble (Nat.add i sz) n) (iteK (Nat.beq n sz) (hsetK h x (some (.cells n g s tv)) fun h' => k ⟨h', nx, ds, rnd⟩) (moveK sz tv 0 tr i (fun tr' => hsetK h x (some (.cells n g s tr')) fun h' => k ⟨h', nx, ds, rnd⟩) false)) false) false) false) false = true := hk
    obtain ⟨m, tv, rfl, h1⟩ := asAgg_true hk
    obtain ⟨n, g, s, tr, hx, h2⟩ := hcellsK_true h1
    obtain ⟨q1, h3⟩ := iteK_true h2
    obtain ⟨q2, h4⟩ := iteK_true h3
    cases hq : Nat.beq n sz with
    | true =>
      rw [hq, iteK_eq, cond_true, hsetK_eq] at h4
      refine ⟨_, _, hx, h4, fun hh nx2 ds2 rnd2 k2 hx2 hk2 => ?_⟩
      show hcellsK hh x (fun n g s tr => iteK (Nat.beq m sz) (iteK (Nat.ble (Nat.add i sz) n) (iteK (Nat.beq n sz) (hsetK hh x (some (.cells n g s tv)) fun h' => k2 ⟨h', nx2, ds2, rnd2⟩) (moveK sz tv 0 tr i (fun tr' => hsetK hh x (some (.cells n g s tr')) fun h' => k2 ⟨h', nx2, ds2, rnd2⟩) false)) false) false) false = true
      rw [hcellsK_eq, hx2]
      simp only [q1, q2, hq, iteK_eq, cond_true, hsetK_eq]
      exact hk2
    | false =>
      rw [hq, iteK_eq, cond_false] at h4
      obtain ⟨tr', hmv, h5⟩ := moveK_true h4
      rw [hsetK_eq] at h5
      refine ⟨_, _, hx, h5, fun hh nx2 ds2 rnd2 k2 hx2 hk2 => ?_⟩
      show hcellsK hh x (fun n g s tr => iteK (Nat.beq m sz) (iteK (Nat.ble (Nat.add i sz) n) (iteK (Nat.beq n sz) (hsetK hh x (some (.cells n g s tv)) fun h' => k2 ⟨h', nx2, ds2, rnd2⟩) (moveK sz tv 0 tr i (fun tr' => hsetK hh x (some (.cells n g s tr')) fun h' => k2 ⟨h', nx2, ds2, rnd2⟩) false)) false) false) false = true
      rw [hcellsK_eq, hx2]
      simp only [q1, q2, hq, iteK_eq, cond_true, cond_false, hsetK_eq, moveK_eq, hmv]
      exact hk2
  · have hk : cellK v (hcellsK h x (fun n g s tr => iteK (Nat.ble (Nat.succ i) n) (PT.setK tr i v fun tr' => hsetK h x (some (.cells n g s tr')) fun h' => k ⟨h', nx, ds, rnd⟩) false) false) false = true := hk
    obtain ⟨hc, h1⟩ := cellK_true hk
    obtain ⟨n, g, s, tr, hx, h2⟩ := hcellsK_true h1
    obtain ⟨q1, h3⟩ := iteK_true h2
    rw [PT.setK_eq, hsetK_eq] at h3
    refine ⟨_, _, hx, h3, fun hh nx2 ds2 rnd2 k2 hx2 hk2 => ?_⟩
    show cellK v (hcellsK hh x (fun n g s tr => iteK (Nat.ble (Nat.succ i) n) (PT.setK tr i v fun tr' => hsetK hh x (some (.cells n g s tr')) fun h' => k2 ⟨h', nx2, ds2, rnd2⟩) false) false) false = true
    rw [cellK_eq, hc, cond_true, hcellsK_eq, hx2]
    simp only [q1, iteK_eq, cond_true, PT.setK_eq, hsetK_eq]
    exact hk2
  · cases hk

section
variable {fr : Fr} {L : List Oper} {o : Oper} {e : Env} {cx : Cx} {ev : Ev} {K : KN}

theorem oneC_store {t : TypeId} {x y : Operand} (ho : o.op = .store t x y) (hg : o.guard = none) (hd : o.dst = none) : (oneC P fr L o).f ev e cx K = bif okOper P o then (storeC P t).f (opnd e x) (opnd e y) cx (fun cx => K e cx) else false := by
  unfold oneC
  cases okOper P o with
  | false => rfl
  | true =>
    simp only [cond_true, Clo.on_f, hg, hd]
    unfold operC
    rw [ho]
    simp only [Clo.on_f, opndC_eq, putC]

theorem oneC_pure (hk : kindO o.op = 0) (hg : o.guard = none) {h : Hp} {nx : A} {ds : List D} {rnd : Option A} : (oneC P fr L o).f ev e ⟨h, nx, ds, rnd⟩ K = bif okOper P o then (pureC P o.op).f e (fun v => (putC fr o.dst).f e v fun e => K e ⟨h, nx, ds, rnd⟩) else false := by
  unfold oneC
  cases okOper P o with
  | false => rfl
  | true =>
    simp only [cond_true, Clo.on_f, hg]
    rw [operC_pure hk]
end

theorem noTmp_spec {d : Option Nat} : ∀ {l : List Nat}, noTmp d l = true → ∀ t ∈ l, d ≠ some t := by
  intro l
  induction l with
  | nil => intro _ t ht; cases ht
  | cons t l ih =>
    intro h t' ht'
    simp only [noTmp, Bool.and_eq_true] at h
    rcases List.mem_cons.1 ht' with rfl | ht'
    · intro hd
      rw [hd] at h
      have := h.1
      simp at this
    · exact ih h.2 t' ht'

theorem opnd_epd {e : Env} {dst : Option Nat} {v : V} {x : Operand} (hd : ∀ d, dst = some d → d < 256) (hx : okOpnd P x = true) (hn : ∀ t, x = .tmp t → dst ≠ some t) : opnd (epd e dst v) x = opnd e x := by
  cases x with
  | tmp t =>
    have : t < 256 := by simpa [okOpnd, Nat.blt_eq] using hx
    simp only [opnd]
    rw [epd_at hd this, if_neg (hn t rfl)]
  | _ => rfl

theorem hset_comm {h : Hp} {x y : A} (hxy : x ≠ y) (u v : Option B) : hget (hset (hset h y v) x u) = hget (hset (hset h x u) y v) := by
  funext z
  rw [hget_hset, hget_hset, hget_hset, hget_hset]
  simp only
  by_cases h1 : z = x
  · subst h1; simp [hxy]
  · by_cases h2 : z = y
    · subst h2; simp [h1]
    · simp [h1, h2]

section
variable {θ : Th} {fr : Fr} {b : Frame} {a : Act} {e : Env} {cx : Cx} {K : List Item} {cs : List Frame} {w : World} {ops : Array Oper} {k : KN} {ev : Ev}

open Classical in
/-- the end of the region: an operation that computes, two stores, in any of the three orders -/
theorem tail_ok (hE : EvOk P ev) (hS : St P θ fr b a cs e cx w) {n : Nat} {o5 o6 o7 : Oper} (h5 : ops.toList[n]? = some o5) (h6 : ops.toList[n + 1]? = some o6) (h7 : ops.toList[n + 2]? = some o7)
    (k5 : kindO o5.op = 0) (g5 : o5.guard = none) (g6 : o6.guard = none) (g7 : o7.guard = none) (d6 : o6.dst = none) (d7 : o7.dst = none) (hnt : noTmp o5.dst (tmpsL o7.op.operands.toList) = true)
    (hk : (tailC P fr ops.toList o5 o6 o7).f ev e cx k = true) {is : List Nat} (his : is = [n, n + 1, n + 2] ∨ is = [n, n + 2, n + 1] ∨ is = [n + 2, n, n + 1]) :
    ∃ θ' a' e' cx' w', k e' cx' = true ∧ St P θ' fr b a' cs e' cx' w' ∧ Fm θ (hget cx.h) w θ' (hget cx'.h) w' ∧ Steps P (lone (b.atR a (.inRegion ops is :: K)) cs w) (lone (b.atR a' K) cs w') := by
  have h5' : ops[n]? = some o5 := by simpa using h5
  have h6' : ops[n + 1]? = some o6 := by simpa using h6
  have h7' : ops[n + 2]? = some o7 := by simpa using h7
  obtain ⟨h, nx, ds, rnd⟩ := cx
  -- what the executor has seen
  obtain ⟨t6, x6, y6, e6, t7, x7, y7, e7⟩ : ∃ t6 x6 y6, o6.op = .store t6 x6 y6 ∧ ∃ t7 x7 y7, o7.op = .store t7 x7 y7 := by
    unfold tailC at hk
    simp only [Clo.on_f] at hk
    split at hk
    · rename_i t6 x6 y6 t7 x7 y7 e6 e7; exact ⟨t6, x6, y6, e6, t7, x7, y7, e7⟩
    · cases hk
  have hk : (oneC P fr ops.toList o5).f ev e ⟨h, nx, ds, rnd⟩ (fun e cx => asP (opnd e x6) (fun x _ => asP (opnd e x7) (fun y _ => iteK (A.beq x y) false ((oneC P fr ops.toList o6).f ev e cx fun e cx => (oneC P fr ops.toList o7).f ev e cx k)) false) false) = true := by
    unfold tailC at hk
    simp only [Clo.on_f] at hk
    rw [e6, e7] at hk
    simp only [Clo.on_f, opndC_eq] at hk
    exact hk
  have hk5 := hk
  rw [oneC_pure k5 g5] at hk5
  obtain ⟨ok5, hk5⟩ := bif_true hk5
  obtain ⟨v5, p1, p2⟩ := det_pure (P := P) (e := e) o5.op _ hk5
  obtain ⟨hdd, p3⟩ := putC_eq p1
  have hd256 : ∀ d, o5.dst = some d → d < 256 := fun d hd => Nat.lt_of_lt_of_le (hdd d hd).1 (hdd d hd).2
  -- the first one, whatever the memory
  have five : ∀ (cx : Cx) (κ : KN), κ (epd e o5.dst v5) cx = true → (oneC P fr ops.toList o5).f ev e cx κ = true := fun cx κ hκ => by
    obtain ⟨h', nx', ds', rnd'⟩ := cx
    rw [oneC_pure k5 g5, ok5, cond_true]
    refine p2 _ ?_
    unfold putC epd at *
    cases hd : o5.dst with
    | none => rw [hd] at hκ; exact hκ
    | some d =>
      rw [hd] at hκ
      obtain ⟨q1, q2⟩ := hdd d hd
      simp only
      have e1 : Nat.blt d fr.n = true := by rw [Nat.blt_eq]; exact q1
      have e2 : Nat.ble fr.n 256 = true := Nat.ble_eq_true_of_le q2
      rw [e1, e2, Bool.true_and, cond_true, setC_eq]
      exact hκ
  obtain ⟨x, i6, hx, p4⟩ := asP_true p3
  obtain ⟨y, i7, hy, p5⟩ := asP_true p4
  obtain ⟨hne, p6⟩ := iteK_false p5
  have hxy : x ≠ y := fun hh => by rw [A.beq_iff.2 hh] at hne; cases hne
  have hp6 := p6
  rw [oneC_store e6 g6 d6, hx] at hp6
  obtain ⟨ok6, hp6⟩ := bif_true hp6
  obtain ⟨b6, b6', q1, q2, q3⟩ := storeC_loc hp6
  have hq2 := q2
  rw [oneC_store e7 g7 d7, hy] at hq2
  obtain ⟨ok7, hq2⟩ := bif_true hq2
  obtain ⟨b7, b7', r1, r2, r3⟩ := storeC_loc hq2
  rw [hget_hset_ne _ _ _ (fun hh => hxy hh.symm)] at r1
  -- the last one sees what it would see behind the first
  have hops7 : ∀ z ∈ o7.op.operands.toList, okOpnd P z = true := fun z hz => List.all_eq_true.1 ok7 z hz
  have hno : ∀ z ∈ o7.op.operands.toList, opnd (epd e o5.dst v5) z = opnd e z := fun z hz => opnd_epd hd256 (hops7 z hz) fun t ht => by subst ht; exact noTmp_spec hnt t (tmpsL_mem hz)
  have hx7 : opnd e x7 = .p y i7 := by rw [← hno x7 (by rw [e7]; simp [Op.operands]), hy]
  have hy7 : opnd (epd e o5.dst v5) y7 = opnd e y7 := hno y7 (by rw [e7]; simp [Op.operands])
  -- the last one first
  have seven : ∀ (e' : Env), opnd e' x7 = .p y i7 → opnd e' y7 = opnd e y7 → ∀ (κ : KN), κ e' ⟨hset h y (some b7'), nx, ds, rnd⟩ = true → (oneC P fr ops.toList o7).f ev e' ⟨h, nx, ds, rnd⟩ κ = true := fun e' he1 he2 κ hκ => by
    rw [oneC_store e7 g7 d7, ok7, cond_true, he1, he2, ← hy7]
    exact r3 h nx ds rnd _ r1 hκ
  have six : ∀ (κ : KN), κ (epd e o5.dst v5) ⟨hset (hset h y (some b7')) x (some b6'), nx, ds, rnd⟩ = true → (oneC P fr ops.toList o6).f ev (epd e o5.dst v5) ⟨hset h y (some b7'), nx, ds, rnd⟩ κ = true := fun κ hκ => by
    rw [oneC_store e6 g6 d6, ok6, cond_true, hx]
    exact q3 (hset h y (some b7')) nx ds rnd _ (by rw [hget_hset_ne _ _ _ hxy]; exact q1) hκ
  have hcomm := hset_comm (h := h) hxy (some b6') (some b7')
  -- the end of the two other orders
  have conv : ∀ {θ' a' w'}, St P θ' fr b a' cs (epd e o5.dst v5) ⟨hset (hset h y (some b7')) x (some b6'), nx, ds, rnd⟩ w' → Fm θ (hget h) w θ' (hget (hset (hset h y (some b7')) x (some b6'))) w' → Steps P (lone (b.atR a (.inRegion ops is :: K)) cs w) (lone (b.atR a' (.inRegion ops [] :: K)) cs w') →
      ∃ θ' a' e' cx' w', k e' cx' = true ∧ St P θ' fr b a' cs e' cx' w' ∧ Fm θ (hget h) w θ' (hget cx'.h) w' ∧ Steps P (lone (b.atR a (.inRegion ops is :: K)) cs w) (lone (b.atR a' K) cs w') := fun {θ' a' w'} hS' hF' hst => by
    refine ⟨θ', a', _, ⟨hset (hset h x (some b6')) y (some b7'), nx, ds, rnd⟩, w', r2, ⟨hS'.rr, ?_, hS'.dr, hS'.rnd, hS'.fn, hS'.nr⟩, ?_, hst.trans (.one stepR_region_end)⟩
    · have := hS'.mr
      simp only [MRx] at this ⊢
      rw [← hcomm]; exact this
    · show Fm θ (hget h) w θ' (hget (hset (hset h x (some b6')) y (some b7'))) w'
      rw [← hcomm]; exact hF'
  rcases his with rfl | rfl | rfl
  · obtain ⟨θ1, a1, e1, cx1, w1, s1, s2, s3, s4⟩ := oneC_ok (rest := [n + 1, n + 2]) (K := K) hE hS h5' (five ⟨h, nx, ds, rnd⟩ (fun e cx => (oneC P fr ops.toList o6).f ev e cx fun e cx => (oneC P fr ops.toList o7).f ev e cx k) p6)
    obtain ⟨θ2, a2, e2, cx2, w2, u1, u2, u3, u4⟩ := oneC_ok (rest := [n + 2]) (K := K) hE s2 h6' s1
    obtain ⟨θ3, a3, e3, cx3, w3, v1, v2, v3, v4⟩ := oneC_ok (rest := []) (K := K) hE u2 h7' u1
    exact ⟨θ3, a3, e3, cx3, w3, v1, v2, (s3.trans u3).trans v3, (s4.trans u4).trans (v4.trans (.one stepR_region_end))⟩
  · obtain ⟨θ1, a1, e1, cx1, w1, s1, s2, s3, s4⟩ := oneC_ok (rest := [n + 2, n + 1]) (K := K) hE hS h5' (five ⟨h, nx, ds, rnd⟩ (fun e' cx' => decide (e' = epd e o5.dst v5 ∧ cx' = ⟨h, nx, ds, rnd⟩)) (by simp))
    obtain ⟨rfl, rfl⟩ := of_decide_eq_true s1
    obtain ⟨θ2, a2, e2, cx2, w2, u1, u2, u3, u4⟩ := oneC_ok (rest := [n + 1]) (K := K) hE s2 h7' (seven _ hy hy7 (fun e' cx' => decide (e' = epd e o5.dst v5 ∧ cx' = ⟨hset h y (some b7'), nx, ds, rnd⟩)) (by simp))
    obtain ⟨rfl, rfl⟩ := of_decide_eq_true u1
    obtain ⟨θ3, a3, e3, cx3, w3, v1, v2, v3, v4⟩ := oneC_ok (rest := []) (K := K) hE u2 h6' (six (fun e' cx' => decide (e' = epd e o5.dst v5 ∧ cx' = ⟨hset (hset h y (some b7')) x (some b6'), nx, ds, rnd⟩)) (by simp))
    obtain ⟨rfl, rfl⟩ := of_decide_eq_true v1
    exact conv v2 ((s3.trans u3).trans v3) ((s4.trans u4).trans v4)
  · obtain ⟨θ1, a1, e1, cx1, w1, s1, s2, s3, s4⟩ := oneC_ok (rest := [n, n + 1]) (K := K) hE hS h7' (seven e hx7 rfl (fun e' cx' => decide (e' = e ∧ cx' = ⟨hset h y (some b7'), nx, ds, rnd⟩)) (by simp))
    obtain ⟨rfl, rfl⟩ := of_decide_eq_true s1
    obtain ⟨θ2, a2, e2, cx2, w2, u1, u2, u3, u4⟩ := oneC_ok (rest := [n + 1]) (K := K) hE s2 h5' (five ⟨hset h y (some b7'), nx, ds, rnd⟩ (fun e' cx' => decide (e' = epd e1 o5.dst v5 ∧ cx' = ⟨hset h y (some b7'), nx, ds, rnd⟩)) (by simp))
    obtain ⟨rfl, rfl⟩ := of_decide_eq_true u1
    obtain ⟨θ3, a3, e3, cx3, w3, v1, v2, v3, v4⟩ := oneC_ok (rest := []) (K := K) hE u2 h6' (six (fun e' cx' => decide (e' = epd e1 o5.dst v5 ∧ cx' = ⟨hset (hset h y (some b7')) x (some b6'), nx, ds, rnd⟩)) (by simp))
    obtain ⟨rfl, rfl⟩ := of_decide_eq_true v1
    exact conv v2 ((s3.trans u3).trans v3) ((s4.trans u4).trans v4)
end
end Go.Ax

namespace Go.Ax
variable {P : Program}
section
variable {ops : Array Oper} {md : Region.Mode} {listed : Array Bool}

/-- one alone may come next -/
theorem go_next {allM : Nat} (hsz : listed.size = ops.size) (hc : complete md ops.toList allM = true) (hall : ∀ i, allM.testBit i = true ↔ i < ops.size) {S : List Nat} {u : Nat} (hu : u < ops.size) (hun : listed.getD u false = false) (honly : ∀ j ∈ Region.ready md ops listed, j ∈ S)
    {fuel tape : Nat} (hle : left ops.size listed ≤ fuel) : ∃ i ∈ S, i ∈ Region.ready md ops listed ∧ ∃ fuel2 tape2, Region.linearise.go md ops fuel tape listed [] = i :: Region.linearise.go md ops fuel2 tape2 (listed.setIfInBounds i true) [] ∧ left ops.size (listed.setIfInBounds i true) ≤ fuel2 := by
  have hul : u < listed.size := by omega
  have h0 : listed.getD u true = false := by
    rw [Array.getD_eq_getD_getElem?, Array.getElem?_eq_getElem hul] at hun ⊢
    exact hun
  cases fuel with
  | zero =>
    exfalso
    have : 0 < left ops.size listed := List.countP_pos_iff.2 ⟨u, List.mem_range.2 hu, by rw [h0]; rfl⟩
    omega
  | succ fuel =>
    simp only [Region.linearise.go]
    cases hi : (Region.ready md ops listed)[tape % (Region.ready md ops listed).length]? with
    | none =>
      exfalso
      have hnil : Region.ready md ops listed = [] := by
        cases hr : Region.ready md ops listed with
        | nil => rfl
        | cons x xs =>
          rw [hr] at hi
          have hlt : tape % (x :: xs).length < (x :: xs).length := Nat.mod_lt _ (by simp)
          simp at hi
          simp at hlt
          omega
      rw [all_listed hsz hc hnil u ((hall u).2 hu)] at hun; cases hun
    | some i =>
      have hmem := List.mem_of_getElem? hi
      obtain ⟨g0, o, hoi, _⟩ := mem_ready.1 hmem
      have hlt : i < ops.size := (Array.getElem?_eq_some_iff.1 hoi).1
      have hltl : i < listed.size := by omega
      refine ⟨i, honly i hmem, hmem, fuel, tape / (Region.ready md ops listed).length, ?_, ?_⟩
      · change (match (Region.ready md ops listed)[tape % (Region.ready md ops listed).length]? with
          | some i => Region.linearise.go md ops fuel (tape / (Region.ready md ops listed).length) (listed.setIfInBounds i true) [i]
          | none => [].reverse) = _
        rw [hi]
        simp only []
        rw [linearise_go_acc, List.reverse_singleton, List.singleton_append]
      · have : left ops.size (listed.setIfInBounds i true) < left ops.size listed := by
          refine countP_set _ _ _ (fun x hx => ?_) (List.mem_range.2 hlt) (by rw [g0]; rfl) ?_
          · by_cases e : i = x
            · subst e; rw [g0]; rfl
            · rwa [getD_set_ne true e] at hx
          · simp [Array.getD_eq_getD_getElem?, hltl]
        omega

theorem ready_un {i : Nat} (hr : i ∈ Region.ready md ops listed) : listed.getD i false = false ∧ i < ops.size := by
  obtain ⟨h0, o, ho, _⟩ := mem_ready.1 hr
  refine ⟨?_, (Array.getElem?_eq_some_iff.1 ho).1⟩
  cases hq : listed.getD i false with
  | false => rfl
  | true =>
    rw [Array.getD_eq_getD_getElem?] at h0 hq
    cases hx : listed[i]? with
    | none => rw [hx] at hq; cases hq
    | some v => rw [hx] at hq h0; rw [Option.getD_some] at hq h0; rw [hq] at h0; cases h0
end

/-- a region that ends in two stores which may come in either order -/
theorem swapC_ok {ev : Ev} (hE : EvOk P ev) {fr : Fr} {ops : Array Oper} {θ : Th} {e : Env} {cx : Cx} {k : KN} {w : World} {b : Frame} {a : Act} {cs : List Frame}
    (hS : St P θ fr b a cs e cx w) (hk : (swapC P fr ops.toList (masksOf ops.toList []) (Nat.sub (Nat.shiftLeft 1 ops.toList.length) 1)).f ev e cx k = true) (id : Nat) (K : List Item) (kx : KX) (kr : KN) :
    Out P θ cx.h w fr b cs (lone (b.atR a (.code (.region id ops true) :: K)) cs w) K k kx kr := by
  have hfull : ∀ i, (Nat.sub (Nat.shiftLeft 1 ops.toList.length) 1).testBit i = true ↔ i < ops.size := fun i => by rw [full_bits]; simp
  unfold swapC at hk
  simp only [nthL_eq] at hk
  split at hk
  · rename_i o5 o6 o7 h5 h6 h7
    generalize hn : Nat.sub ops.toList.length 3 = n at hk h5 h6 h7
    generalize hinf : infoOf (ops.toList.take n) (masksOf ops.toList []) 0 = inf at hk
    generalize hEM : effMask inf 0 = EM at hk
    generalize hs : sched EM (n + 1) 0 inf = s at hk
    cases hq : (Nat.beq (n + 3) ops.toList.length && dstsOk ops.toList && swapOk P (masksOf ops.toList []) n (Nat.sub (Nat.shiftLeft 1 n) 1) o5 o6 o7 && chkD ops.toList (masksOf ops.toList []) EM (Nat.sub (Nat.shiftLeft 1 n) 1) 0 s && complete .any ops.toList (Nat.sub (Nat.shiftLeft 1 ops.toList.length) 1)) with
    | false => rw [hq] at hk; cases hk
    | true =>
      rw [hq, cond_true] at hk
      simp only [Clo.on_f] at hk
      simp only [Bool.and_eq_true] at hq
      obtain ⟨⟨⟨⟨hlen, hd⟩, hsw⟩, hchk⟩, hc⟩ := hq
      have hlen : n + 3 = ops.size := by have := Nat.eq_of_beq_eq_true hlen; simpa using this
      unfold swapOk at hsw
      simp only [Bool.and_eq_true, nthL_eq] at hsw
      obtain ⟨⟨⟨⟨⟨⟨⟨⟨⟨⟨⟨hmix, k5⟩, g5⟩, g6⟩, g7⟩, d6⟩, d7⟩, s5⟩, s6⟩, s7⟩, b6⟩, hnt⟩ := hsw
      have k5 := Nat.eq_of_beq_eq_true k5
      have g5 : o5.guard = none := by simpa using g5
      have g6 : o6.guard = none := by simpa using g6
      have g7 : o7.guard = none := by simpa using g7
      have d6 : o6.dst = none := by simpa using d6
      have d7 : o7.dst = none := by simpa using d7
      have hpre : ∀ i, (Nat.sub (Nat.shiftLeft 1 n) 1).testBit i = true ↔ i < n := fun i => full_bits n i
      have m5 : ∀ j, j < n → (mkB (masksOf ops.toList []) n).testBit j = true := fun j hj => sub01_bits s5 ((hpre j).2 hj)
      have m6 : ∀ j, j < n → (mkB (masksOf ops.toList []) (n + 1)).testBit j = true := fun j hj => sub01_bits s6 ((hpre j).2 hj)
      have m7 : ∀ j, j < n → (mkB (masksOf ops.toList []) (n + 2)).testBit j = true := fun j hj => sub01_bits s7 ((hpre j).2 hj)
      have m65 : (mkB (masksOf ops.toList []) (n + 1)).testBit n = true := by rw [bit_eq] at b6; exact b6
      obtain ⟨X', ls', l', e', cx', ad', θ', hs', hhd⟩ := Sim.forward _ (sim_start (allM := 0) hS hk hchk hd)
      have tape := w.tape w.drawn (.order b.fn id)
      have hgo : ∃ θ' a' e' cx' w', k e' cx' = true ∧ St P θ' fr b a' cs e' cx' w' ∧ Fm θ (hget cx.h) w θ' (hget cx'.h) w' ∧
          Steps P (lone (b.atR a (.inRegion ops (Region.linearise .any ops (w.tape w.drawn (.order b.fn id))) :: K)) cs { w with drawn := w.drawn + 1 }) (lone (b.atR a' K) cs w') := by
        obtain ⟨f', t', L1, θ1, a1, e1, cx1, w1, p1, p2, p3, p4, p5, p6, p7⟩ := go_ok (K := K) hE hS.nr hS.fn hc hfull (fun i hi => by have := (hpre i).1 hi; omega) (fun listed hcl i hi ⟨j, hj, hjl⟩ => by
          refine (hpre i).2 ?_
          have hlt := (ready_un hi).2
          rcases Nat.lt_or_ge i n with h | h
          · exact h
          · exfalso
            have hj' := (hpre j).1 hj
            have : (mkB (masksOf ops.toList []) i).testBit j = true := by
              have : i = n ∨ i = n + 1 ∨ i = n + 2 := by omega
              rcases this with rfl | rfl | rfl
              · exact m5 j hj'
              · exact m6 j hj'
              · exact m7 j hj'
            rw [ready_closed hcl hi this] at hjl; cases hjl) ops.size (w.tape w.drawn (.order b.fn id)) hs' hhd (left_start ops.size)
        have u5 : L1.getD n false = false := by
          cases hq : L1.getD n false with
          | false => rfl
          | true => have := (hpre n).1 ((p4 n).1 hq); omega
        have u6 : L1.getD (n + 1) false = false := by
          cases hq : L1.getD (n + 1) false with
          | false => rfl
          | true => have := (hpre (n + 1)).1 ((p4 (n + 1)).1 hq); omega
        have u7 : L1.getD (n + 2) false = false := by
          cases hq : L1.getD (n + 2) false with
          | false => rfl
          | true => have := (hpre (n + 2)).1 ((p4 (n + 2)).1 hq); omega
        have hcl1 : Cl (masksOf ops.toList []) L1 := by
          intro i j hi hj
          have hin := (hpre i).1 ((p4 i).1 hi)
          -- what the executor's check says of what is done
          have key : ∀ {l : List I3} {X : Nat}, chkD ops.toList (masksOf ops.toList []) EM (Nat.sub (Nat.shiftLeft 1 n) 1) X l = true → (∀ i j, X.testBit i = true → (mkB (masksOf ops.toList []) i).testBit j = true → X.testBit j = true) → ∀ i j, (Nat.sub (Nat.shiftLeft 1 n) 1).testBit i = true → (mkB (masksOf ops.toList []) i).testBit j = true → (Nat.sub (Nat.shiftLeft 1 n) 1).testBit j = true := by
            intro l
            induction l with
            | nil => intro X h hX i j hi hj; have : X = _ := Nat.eq_of_beq_eq_true h; rw [← this] at hi ⊢; exact hX i j hi hj
            | cons t l ih =>
              intro X h hX i j hi hj
              obtain ⟨o, q1, q2, q3, q4, q5, q6, q7, q8, q9⟩ := chk_cons h
              refine ih q9 (fun i j hi hj => ?_) i j hi hj
              rw [lor_bit, Bool.or_eq_true, decide_eq_true_iff] at hi ⊢
              rcases hi with hi | rfl
              · exact .inl (hX i j hi hj)
              · exact .inl (q5 j (by rw [← q2]; exact hj))
          exact (p4 j).2 (key hchk (fun i j hi => by simp at hi) i j ((hpre i).2 hin) hj)
        -- the three that are left
        have sz1 : L1.size = ops.size := p5
        have listed_of : ∀ {L : Array Bool} {i : Nat}, L.size = ops.size → i < ops.size → ∀ j, (L.setIfInBounds i true).getD j false = true ↔ L.getD j false = true ∨ j = i := fun hsz hi j => set_listed (by omega) j
        have only1 : ∀ j ∈ Region.ready .any ops L1, j ∈ [n, n + 2] := fun j hj => by
          obtain ⟨q1, q2⟩ := ready_un hj
          have hjn : n ≤ j := by
            rcases Nat.lt_or_ge j n with h | h
            · rw [(p4 j).2 ((hpre j).2 h)] at q1; cases q1
            · exact h
          have hne : j ≠ n + 1 := fun e => by subst e; rw [ready_closed hcl1 hj m65] at u5; cases u5
          have : j = n ∨ j = n + 2 := by omega
          rcases this with rfl | rfl <;> simp
        obtain ⟨i1, hi1, hr1, f1, t1, go1, le1⟩ := go_next (tape := t') sz1 hc hfull (show n < ops.size by omega) u5 only1 p6
        have order : ∃ is, (is = [n, n + 1, n + 2] ∨ is = [n, n + 2, n + 1] ∨ is = [n + 2, n, n + 1]) ∧ Region.linearise.go .any ops f' t' L1 [] = is := by
          simp only [List.mem_cons, List.not_mem_nil, or_false] at hi1
          rcases hi1 with hi1 | hi1 <;> have hi1 := hi1.symm <;> subst hi1
          · -- first the one that computes
            have hcl2 := cl_list hcl1 (i := n) (by omega) (fun j hj => ready_closed hcl1 hr1 hj)
            have sz2 : (L1.setIfInBounds n true).size = ops.size := by simp [sz1]
            have l2 := listed_of (L := L1) (i := n) sz1 (by omega)
            have v6 : (L1.setIfInBounds n true).getD (n + 1) false = false := by
              cases hq : (L1.setIfInBounds n true).getD (n + 1) false with
              | false => rfl
              | true => rcases (l2 _).1 hq with h | h
                        · rw [h] at u6; cases u6
                        · omega
            have v7 : (L1.setIfInBounds n true).getD (n + 2) false = false := by
              cases hq : (L1.setIfInBounds n true).getD (n + 2) false with
              | false => rfl
              | true => rcases (l2 _).1 hq with h | h
                        · rw [h] at u7; cases u7
                        · omega
            have only2 : ∀ j ∈ Region.ready .any ops (L1.setIfInBounds n true), j ∈ [n + 1, n + 2] := fun j hj => by
              obtain ⟨q1, q2⟩ := ready_un hj
              have : j = n + 1 ∨ j = n + 2 := by
                rcases Nat.lt_or_ge j n with h | h
                · rw [(l2 j).2 (.inl ((p4 j).2 ((hpre j).2 h)))] at q1; cases q1
                · have : j ≠ n := fun e => by subst e; rw [(l2 j).2 (.inr rfl)] at q1; cases q1
                  omega
              rcases this with rfl | rfl <;> simp
            obtain ⟨i2, hi2, hr2, f2, t2, go2, le2⟩ := go_next (tape := t1) sz2 hc hfull (show n + 1 < ops.size by omega) v6 only2 le1
            simp only [List.mem_cons, List.not_mem_nil, or_false] at hi2
            have sz3 : ((L1.setIfInBounds n true).setIfInBounds i2 true).size = ops.size := by simp [sz1]
            have l3 := listed_of (L := L1.setIfInBounds n true) (i := i2) sz2 (by rcases hi2 with rfl | rfl <;> omega)
            -- the one that is left
            have lastly : ∀ u, (u = n + 1 ∨ u = n + 2) → u ≠ i2 → ∃ f3 t3, Region.linearise.go .any ops f2 t2 ((L1.setIfInBounds n true).setIfInBounds i2 true) [] = u :: Region.linearise.go .any ops f3 t3 (((L1.setIfInBounds n true).setIfInBounds i2 true).setIfInBounds u true) [] ∧ Region.linearise.go .any ops f3 t3 (((L1.setIfInBounds n true).setIfInBounds i2 true).setIfInBounds u true) [] = [] := fun u hu hne => by
              have hun : ((L1.setIfInBounds n true).setIfInBounds i2 true).getD u false = false := by
                cases hq : ((L1.setIfInBounds n true).setIfInBounds i2 true).getD u false with
                | false => rfl
                | true => rcases (l3 _).1 hq with h | h
                          · rcases hu with rfl | rfl
                            · rw [h] at v6; cases v6
                            · rw [h] at v7; cases v7
                          · exact absurd h hne
              have only3 : ∀ j ∈ Region.ready .any ops ((L1.setIfInBounds n true).setIfInBounds i2 true), j ∈ [u] := fun j hj => by
                obtain ⟨q1, q2⟩ := ready_un hj
                have : j = u := by
                  rcases Nat.lt_or_ge j n with h | h
                  · rw [(l3 j).2 (.inl ((l2 j).2 (.inl ((p4 j).2 ((hpre j).2 h)))))] at q1; cases q1
                  · have h1 : j ≠ n := fun e => by subst e; rw [(l3 j).2 (.inl ((l2 j).2 (.inr rfl)))] at q1; cases q1
                    have h2 : j ≠ i2 := fun e => by subst e; rw [(l3 j).2 (.inr rfl)] at q1; cases q1
                    omega
                simp [this]
              obtain ⟨i3, hi3, hr3, f3, t3, go3, le3⟩ := go_next (tape := t2) sz3 hc hfull (show u < ops.size by omega) hun only3 le2
              simp only [List.mem_cons, List.not_mem_nil, or_false] at hi3
              subst hi3
              refine ⟨f3, t3, go3, go_done (by simp [sz1]) (fun j hj => ?_) f3 t3⟩
              rw [listed_of sz3 (show i3 < ops.size by omega)]
              by_cases e : j = i3
              · exact .inr e
              · refine .inl ((l3 j).2 ?_)
                by_cases e2 : j = i2
                · exact .inr e2
                · refine .inl ((l2 j).2 ?_)
                  by_cases e3 : j = n
                  · exact .inr e3
                  · exact .inl ((p4 j).2 ((hpre j).2 (by omega)))
            rcases hi2 with rfl | rfl
            · obtain ⟨f3, t3, go3, go4⟩ := lastly (n + 2) (.inr rfl) (by omega)
              exact ⟨_, .inl rfl, by rw [go1, go2, go3, go4]⟩
            · obtain ⟨f3, t3, go3, go4⟩ := lastly (n + 1) (.inl rfl) (by omega)
              exact ⟨_, .inr (.inl rfl), by rw [go1, go2, go3, go4]⟩
          · -- first the last store
            have hcl2 := cl_list hcl1 (i := n + 2) (by omega) (fun j hj => ready_closed hcl1 hr1 hj)
            have sz2 : (L1.setIfInBounds (n + 2) true).size = ops.size := by simp [sz1]
            have l2 := listed_of (L := L1) (i := n + 2) sz1 (by omega)
            have v5 : (L1.setIfInBounds (n + 2) true).getD n false = false := by
              cases hq : (L1.setIfInBounds (n + 2) true).getD n false with
              | false => rfl
              | true => rcases (l2 _).1 hq with h | h
                        · rw [h] at u5; cases u5
                        · omega
            have only2 : ∀ j ∈ Region.ready .any ops (L1.setIfInBounds (n + 2) true), j ∈ [n] := fun j hj => by
              obtain ⟨q1, q2⟩ := ready_un hj
              have : j = n := by
                rcases Nat.lt_or_ge j n with h | h
                · rw [(l2 j).2 (.inl ((p4 j).2 ((hpre j).2 h)))] at q1; cases q1
                · have h1 : j ≠ n + 2 := fun e => by subst e; rw [(l2 _).2 (.inr rfl)] at q1; cases q1
                  have h2 : j ≠ n + 1 := fun e => by subst e; rw [ready_closed hcl2 hj m65] at v5; cases v5
                  omega
              simp [this]
            obtain ⟨i2, hi2, hr2, f2, t2, go2, le2⟩ := go_next (tape := t1) sz2 hc hfull (show n < ops.size by omega) v5 only2 le1
            simp only [List.mem_cons, List.not_mem_nil, or_false] at hi2
            subst hi2
            have sz3 : ((L1.setIfInBounds (i2 + 2) true).setIfInBounds i2 true).size = ops.size := by simp [sz1]
            have l3 := listed_of (L := L1.setIfInBounds (i2 + 2) true) (i := i2) sz2 (by omega)
            have w6 : ((L1.setIfInBounds (i2 + 2) true).setIfInBounds i2 true).getD (i2 + 1) false = false := by
              cases hq : ((L1.setIfInBounds (i2 + 2) true).setIfInBounds i2 true).getD (i2 + 1) false with
              | false => rfl
              | true => rcases (l3 _).1 hq with h | h
                        · rcases (l2 _).1 h with h | h
                          · rw [h] at u6; cases u6
                          · omega
                        · omega
            have only3 : ∀ j ∈ Region.ready .any ops ((L1.setIfInBounds (i2 + 2) true).setIfInBounds i2 true), j ∈ [i2 + 1] := fun j hj => by
              obtain ⟨q1, q2⟩ := ready_un hj
              have : j = i2 + 1 := by
                rcases Nat.lt_or_ge j i2 with h | h
                · rw [(l3 j).2 (.inl ((l2 j).2 (.inl ((p4 j).2 ((hpre j).2 h)))))] at q1; cases q1
                · have h1 : j ≠ i2 := fun e => by subst e; rw [(l3 _).2 (.inr rfl)] at q1; cases q1
                  have h2 : j ≠ i2 + 2 := fun e => by subst e; rw [(l3 _).2 (.inl ((l2 _).2 (.inr rfl)))] at q1; cases q1
                  omega
              simp [this]
            obtain ⟨i3, hi3, hr3, f3, t3, go3, le3⟩ := go_next (tape := t2) sz3 hc hfull (show i2 + 1 < ops.size by omega) w6 only3 le2
            simp only [List.mem_cons, List.not_mem_nil, or_false] at hi3
            subst hi3
            have go4 := go_done (md := .any) (ops := ops) (listed := ((L1.setIfInBounds (i2 + 2) true).setIfInBounds i2 true).setIfInBounds (i2 + 1) true) (by simp [sz1]) (fun j hj => by
              rw [listed_of sz3 (show i2 + 1 < ops.size by omega)]
              by_cases e : j = i2 + 1
              · exact .inr e
              · refine .inl ((l3 j).2 ?_)
                by_cases e2 : j = i2
                · exact .inr e2
                · refine .inl ((l2 j).2 ?_)
                  by_cases e3 : j = i2 + 2
                  · exact .inr e3
                  · exact .inl ((p4 j).2 ((hpre j).2 (by omega)))) f3 t3
            exact ⟨_, .inr (.inr rfl), by rw [go1, go2, go3, go4]⟩
        obtain ⟨is, his, hord⟩ := order
        rw [hord] at p7
        obtain ⟨θ2, a2, e2, cx2, w2, v1, v2, v3, v4⟩ := tail_ok (K := K) hE p2 h5 h6 h7 k5 g5 g6 g7 d6 d7 hnt p1 his
        exact ⟨θ2, a2, e2, cx2, w2, v1, v2, p3.trans v3, p7.trans v4⟩
      obtain ⟨θ1, a1, e1, cx1, w1, g1, g2, g3, g4⟩ := hgo
      have hst := stepR_region_draw (P := P) (b := b) (a := a) (k := K) (cs := cs) (w := w) (ops := ops) (id := id)
      rw [hmix] at hst
      exact ⟨θ1, a1, e1, cx1, w1, g2, g3, .inl ⟨g1, .head hst g4⟩⟩
  · cases hk

/-- regions whose order is drawn -/
theorem draw_ok {ev : Ev} (hE : EvOk P ev) : DrawOk P ev := by
  intro fr ops θ e cx k w b a cs hk hS id K kx kr
  unfold drawC at hk
  simp only at hk
  generalize hinf : infoOf ops.toList (masksOf ops.toList []) 0 = inf at hk
  generalize hEM : effMask inf 0 = EM at hk
  generalize hs : sched EM (ops.toList.length + 1) 0 inf = s at hk
  cases hq : (dstsOk ops.toList && chkD ops.toList (masksOf ops.toList []) EM (Nat.sub (Nat.shiftLeft 1 ops.toList.length) 1) 0 s && complete .any ops.toList (Nat.sub (Nat.shiftLeft 1 ops.toList.length) 1) && complete .text ops.toList (Nat.sub (Nat.shiftLeft 1 ops.toList.length) 1) && complete .gc ops.toList (Nat.sub (Nat.shiftLeft 1 ops.toList.length) 1)) with
  | false => rw [hq, cond_false] at hk; exact swapC_ok hE hS hk id K kx kr
  | true =>
    rw [hq, cond_true] at hk
    simp only [Bool.and_eq_true] at hq
    obtain ⟨⟨⟨⟨hd, hchk⟩, c1⟩, c2⟩, c3⟩ := hq
    exact drawAll_ok hE hS hd hchk hk c1 c2 c3 id K kx kr
end Go.Ax
