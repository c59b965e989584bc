/-
  The executor is right, part 3: calls, regions, loops, functions.
-/
import Derived.Test.YtpppjkkncgkffaaGreatDoorExc
set_option linter.unusedVariables false
set_option linter.unusedSimpArgs false
namespace Go.Ax
variable {P : Program}

/-! ### frames -/
inductive VRs (θ : Th) : List V → List Value → Prop
  | nil : VRs θ [] []
  | cons (h : V) (t : List V) (v : Value) (vs : List Value) (hv : VR θ h v) (ht : VRs θ t vs) : VRs θ (h :: t) (v :: vs)
theorem VRs.mono {θ θ' : Th} (hl : θ.le θ') {l : List V} {vs : List Value} (h : VRs θ l vs) : VRs θ' l vs := by
  induction h with
  | nil => exact .nil
  | cons h t v vs hv _ ih => exact .cons h t v vs (hv.mono hl) ih
theorem VRs.append {θ : Th} {l m : List V} {vs ws : List Value} (h : VRs θ l vs) (g : VRs θ m ws) : VRs θ (l ++ m) (vs ++ ws) := by
  induction h with
  | nil => exact g
  | cons h t v vs hv _ ih => exact .cons h _ v _ hv ih
theorem VRs.length {θ : Th} {l : List V} {vs : List Value} (h : VRs θ l vs) : l.length = vs.length := by
  induction h with
  | nil => rfl
  | cons h t v vs hv _ ih => simp [ih]
theorem VRL.list {θ : Th} : ∀ {a : V} {vs : List Value}, VRL θ a vs → ∀ {l : List V}, a.list = some l → VRs θ l vs
  | _, _, .nil, l, h => by simp only [V.list, Option.some.injEq] at h; subst h; exact .nil
  | _, _, .cons x t v vs hv ht, l, h => by
    simp only [V.list, Option.map_eq_some_iff] at h
    obtain ⟨m, hm, rfl⟩ := h
    exact .cons _ _ _ _ hv (VRL.list ht hm)

/-- what is put off -/
inductive DR (θ : Th) : List D → List Deferred → Prop
  | nil : DR θ [] []
  | col (x : A) (r : Nat) (ds : List D) (l : List Deferred) (h : θ.ρ x = some r) (ht : DR θ ds l) : DR θ (.col x :: ds) ({ target := .collected r, args := #[] } :: l)
  | call (g : FuncId) (args : List V) (vs cap : Array Value) (ds : List D) (l : List Deferred) (h : VRs θ args (vs.toList ++ cap.toList)) (ht : DR θ ds l) : DR θ (.call g args :: ds) ({ target := .fn (.func g) cap, args := vs } :: l)
theorem DR.mono {θ θ' : Th} (hl : θ.le θ') {l : List D} {vs : List Deferred} (h : DR θ l vs) : DR θ' l vs := by
  induction h with
  | nil => exact .nil
  | col x r ds l h _ ih => exact .col x r ds l (hl _ _ h).1 ih
  | call g args vs cap ds l h _ ih => exact .call g args vs cap ds l (h.mono hl) ih

/-- the round that a frame is of -/
def RndR (θ : Th) : Option A → Option Nat → Prop
  | none, none => True
  | some x, some l => θ.ρ x = some l
  | _, _ => False
theorem RndR.mono {θ θ' : Th} (hl : θ.le θ') {x : Option A} {l : Option Nat} (h : RndR θ x l) : RndR θ' x l := by
  cases x <;> cases l <;> first | exact h | exact (hl _ _ h).1

/-- nothing can be recovered here -/
def NoRec (kind : CallKind) (cs : List Frame) : Prop := kind = .normal ∨ (kind = .deferred ∧ ∃ c rest, cs = c :: rest ∧ c.mode = .returning)

theorem tryRecover_none {fr : Frame} {cs : List Frame} (h : NoRec fr.kind cs) : tryRecover fr cs = none := by
  unfold tryRecover
  rcases h with h | ⟨h, c, rest, rfl, hc⟩
  · rw [h]
  · rw [h]; simp only [hc]

/-- a callee, as it is reached from a frame: 'fin' says how the caller goes on -/
def CalleeOk (P : Program) (θ : Th) (h : Hp) (w : World) (g : FuncId) (vs : Array Value) (k : KC) : Prop :=
  ∀ (d : Bool) (c : Frame) (cs : List Frame), (d = true → c.mode = .returning) →
    ∃ θ' v cv h' nx' w', k v h' nx' = true ∧ VR θ' v cv ∧ MRx P θ' h' nx' w' ∧ Fm θ (hget h) w θ' (hget h') w' ∧
      (((callFunc g vs).run P w = .ok (.enter g vs) w ∧ Steps P (lone (Frame.enter P g vs (if d then .deferred else .normal)) (c :: cs) w) (lone (if d then c else c.finish cv) cs w')) ∨
        (callFunc g vs).run P w = .ok (.value cv) w')

/-- a call that is no deferred one -/
def CalleeN (P : Program) (θ : Th) (h : Hp) (w : World) (g : FuncId) (vs : Array Value) (k : KC) : Prop :=
  ∀ (c : Frame) (cs : List Frame),
    ∃ θ' v cv h' nx' w', k v h' nx' = true ∧ VR θ' v cv ∧ MRx P θ' h' nx' w' ∧ Fm θ (hget h) w θ' (hget h') w' ∧
      (((callFunc g vs).run P w = .ok (.enter g vs) w ∧ Steps P (lone (Frame.enter P g vs .normal) (c :: cs) w) (lone (c.finish cv) cs w')) ∨
        (callFunc g vs).run P w = .ok (.value cv) w')
theorem CalleeOk.n {P : Program} {θ : Th} {h : Hp} {w : World} {g : FuncId} {vs : Array Value} {k : KC} (H : CalleeOk P θ h w g vs k) : CalleeN P θ h w g vs k := fun c cs => by
  obtain ⟨θ', v, cv, h', nx', w', h1, h2, h3, h4, h5⟩ := H false c cs (fun h => by cases h)
  exact ⟨θ', v, cv, h', nx', w', h1, h2, h3, h4, h5⟩

/-- a round of a loop over a function -/
def RoundOk (P : Program) (θ : Th) (h : Hp) (w : World) (l : Nat) (vs : Array Value) (k : KC) : Prop :=
  ∃ f tmps assign body, (Instr.yield l vs).run P w = .ok (.round l f tmps assign body) w ∧ ∀ (c : Frame) (cs : List Frame),
    ∃ θ' v cv h' nx' w', k v h' nx' = true ∧ VR θ' v cv ∧ MRx P θ' h' nx' w' ∧ Fm θ (hget h) w θ' (hget h') w' ∧
      Steps P (lone (Frame.round l f tmps assign body .normal) (c :: cs) w) (lone (c.finish cv) cs w')

/-- where a frame stands -/
structure St (P : Program) (θ : Th) (fr : Fr) (b : Frame) (a : Act) (cs : List Frame) (e : Env) (cx : Cx) (w : World) : Prop where
  rr : RR θ fr.n e a.tmps
  mr : MRx P θ cx.h cx.nx w
  dr : DR θ cx.ds a.defers
  rnd : RndR θ cx.rnd b.roundOf
  fn : b.fn = fr.fn
  nr : NoRec b.kind cs

/-- how code ends -/
def Out (P : Program) (θ : Th) (h : Hp) (w : World) (fr : Fr) (b : Frame) (cs : List Frame) (m : Machine) (K : List Item) (kn : KN) (kx : KX) (kr : KN) : Prop :=
  ∃ θ' a' e' cx' w', St P θ' fr b a' cs e' cx' w' ∧ Fm θ (hget h) w θ' (hget cx'.h) w' ∧
    ((kn e' cx' = true ∧ Steps P m (lone (b.atR a' K) cs w')) ∨
     (∃ id J, kx id e' cx' = true ∧ exitTo id J = exitTo id K ∧ Steps P m (lone (b.atR a' (.code (.exit id) :: J)) cs w')) ∨
     (kr e' cx' = true ∧ ∃ J, Steps P m (lone (b.atR a' (.code .ret :: J)) cs w')))

theorem Out.of_steps {θ : Th} {h : Hp} {w : World} {fr : Fr} {b : Frame} {cs : List Frame} {m m' : Machine} {K : List Item} {kn : KN} {kx : KX} {kr : KN} (hs : Steps P m m') (ho : Out P θ h w fr b cs m' K kn kx kr) : Out P θ h w fr b cs m K kn kx kr := by
  obtain ⟨θ', a', e', cx', w', h1, h2, h3⟩ := ho
  refine ⟨θ', a', e', cx', w', h1, h2, ?_⟩
  rcases h3 with ⟨g1, g2⟩ | ⟨id, J, g1, g2, g3⟩ | ⟨g1, J, g2⟩
  · exact .inl ⟨g1, hs.trans g2⟩
  · exact .inr (.inl ⟨id, J, g1, g2, hs.trans g3⟩)
  · exact .inr (.inr ⟨g1, J, hs.trans g2⟩)
theorem Out.of_fm {θ θ1 : Th} {h h1 : Hp} {w w1 : World} {fr : Fr} {b : Frame} {cs : List Frame} {m : Machine} {K : List Item} {kn : KN} {kx : KX} {kr : KN} (hf : Fm θ (hget h) w θ1 (hget h1) w1) (ho : Out P θ1 h1 w1 fr b cs m K kn kx kr) : Out P θ h w fr b cs m K kn kx kr := by
  obtain ⟨θ', a', e', cx', w', g1, g2, g3⟩ := ho
  exact ⟨θ', a', e', cx', w', g1, hf.trans g2, g3⟩

def CodeOk (P : Program) (f : Env → Cx → KN → KX → KN → Bool) (fr : Fr) (c : Code) : Prop :=
  ∀ {θ e cx kn kx kr w b a cs}, f e cx kn kx kr = true → St P θ fr b a cs e cx w → ∀ K, Out P θ cx.h w fr b cs (lone (b.atR a (.code c :: K)) cs w) K kn kx kr

structure EvOk (P : Program) (ev : Ev) : Prop where
  call : ∀ {g args h nx k θ w vs}, ev.call g args h nx k = true → MRx P θ h nx w → VRs θ args (Array.toList vs) → CalleeN P θ h w g vs k
  round : ∀ {x args h nx k θ w l vs}, ev.round x args h nx k = true → MRx P θ h nx w → θ.ρ x = some l → VRs θ args (Array.toList vs) → RoundOk P θ h w l vs k
  dcall : ∀ {g args h nx k θ w vs}, ev.dcall g args h nx k = true → MRx P θ h nx w → VRs θ args (Array.toList vs) → CalleeOk P θ h w g vs k
  loop : ∀ {fr body θ e cx kn kx kr w b a cs}, ev.code fr (.loop body) e cx kn kx kr = true → St P θ fr b a cs e cx w → ∀ K, Out P θ cx.h w fr b cs (lone (b.atR a (.inLoop body :: K)) cs w) K kn kx kr

/-! ### one operation -/
section
variable {b : Frame} {a : Act} {K : List Item} {cs : List Frame} {w w' : World} {ops : Array Oper} {i : Nat} {rest : List Nat} {o : Oper}

theorem step_value {v : Value} (ho : ops[i]? = some o) (hw : Region.wanted o (yielded ops a.tmps) = true) (hd : ∀ c, o.op ≠ .defer c) (hr : (execOp a.eval o).run P w = .ok (.value v) w') :
    step P (lone (b.atR a (.inRegion ops (i :: rest) :: K)) cs w) = .next (lone (b.atR (a.put o.dst v) (.inRegion ops rest :: K)) cs w') := by
  have hfin : (b.atR a (.inRegion ops (i :: rest) :: K)).finish v = b.atR (a.put o.dst v) (.inRegion ops rest :: K) := by rw [Frame.finish_atR, ho]; rfl
  refine step_lone_go ?_
  rw [stepGR_op ho hw, Oper.semAt_eq _ _ _ hd, ← hfin]
  simp [stepG.apply, hr]

theorem step_skip' (ho : ops[i]? = some o) (hw : Region.wanted o (yielded ops a.tmps) = true) (hd : ∀ c, o.op ≠ .defer c) (hr : (execOp a.eval o).run P w = .ok .skip w') :
    step P (lone (b.atR a (.inRegion ops (i :: rest) :: K)) cs w) = .next (lone (b.atR (a.put o.dst Go.undef) (.inRegion ops rest :: K)) cs w') := by
  have hfin : (b.atR a (.inRegion ops (i :: rest) :: K)).finish Go.undef = b.atR (a.put o.dst Go.undef) (.inRegion ops rest :: K) := by rw [Frame.finish_atR, ho]; rfl
  refine step_lone_go ?_
  rw [stepGR_op ho hw, Oper.semAt_eq _ _ _ hd, ← hfin]
  simp [stepG.apply, hr]

theorem step_enter {f : FuncId} {vs : Array Value} (ho : ops[i]? = some o) (hw : Region.wanted o (yielded ops a.tmps) = true) (hd : ∀ c, o.op ≠ .defer c) (hr : (execOp a.eval o).run P w = .ok (.enter f vs) w') :
    step P (lone (b.atR a (.inRegion ops (i :: rest) :: K)) cs w) = .next (lone (Frame.enter P f vs .normal) (b.atR a (.inRegion ops (i :: rest) :: K) :: cs) w') := by
  refine step_lone_go ?_
  rw [stepGR_op ho hw, Oper.semAt_eq _ _ _ hd]
  simp [stepG.apply, hr, Frame.atR]

theorem step_round {l f : Nat} {tmps : Array Value} {as bd : Code} (ho : ops[i]? = some o) (hw : Region.wanted o (yielded ops a.tmps) = true) (hd : ∀ c, o.op ≠ .defer c) (hr : (execOp a.eval o).run P w = .ok (.round l f tmps as bd) w') :
    step P (lone (b.atR a (.inRegion ops (i :: rest) :: K)) cs w) = .next (lone (Frame.round l f tmps as bd .normal) (b.atR a (.inRegion ops (i :: rest) :: K) :: cs) w') := by
  refine step_lone_go ?_
  rw [stepGR_op ho hw, Oper.semAt_eq _ _ _ hd]
  simp [stepG.apply, hr]

theorem step_recover (hb : b.roundOf = none) (hn : NoRec b.kind cs) (ho : ops[i]? = some o) (hw : Region.wanted o (yielded ops a.tmps) = true) (hd : ∀ c, o.op ≠ .defer c) (hr : (execOp a.eval o).run P w = .ok .recover w') :
    step P (lone (b.atR a (.inRegion ops (i :: rest) :: K)) cs w) = .next (lone (b.atR (a.put o.dst .nilIface) (.inRegion ops rest :: K)) cs w') := by
  have hfin : (b.atR a (.inRegion ops (i :: rest) :: K)).finish .nilIface = b.atR (a.put o.dst .nilIface) (.inRegion ops rest :: K) := by rw [Frame.finish_atR, ho]; rfl
  have htr : tryRecover (b.atR a (.inRegion ops (i :: rest) :: K)) cs = none := tryRecover_none hn
  have hro : (b.atR a (.inRegion ops (i :: rest) :: K)).roundOf = none := hb
  refine step_lone_go ?_
  rw [stepGR_op ho hw, Oper.semAt_eq _ _ _ hd, ← hfin]
  simp [stepG.apply, hr, hro, htr]

theorem step_defer {d : Deferred} {c : Call} (hb : b.roundOf = none) (ho : ops[i]? = some o) (hw : Region.wanted o (yielded ops a.tmps) = true) (hr : (execOp a.eval o).run P w = .ok (.defer d) w') :
    step P (lone (b.atR a (.inRegion ops (i :: rest) :: K)) cs w) = .next (lone (b.atR (({ a with defers := d :: a.defers } : Act).put o.dst Go.undef) (.inRegion ops rest :: K)) cs w') := by
  have hfin : (b.atR { a with defers := d :: a.defers } (.inRegion ops (i :: rest) :: K)).finish Go.undef = b.atR (({ a with defers := d :: a.defers } : Act).put o.dst Go.undef) (.inRegion ops rest :: K) := by rw [Frame.finish_atR, ho]; rfl
  have hsem : o.semAt b.roundOf a.eval = execOp a.eval o := by rw [hb]; rfl
  refine step_lone_go ?_
  rw [stepGR_op ho hw, hsem, ← hfin]
  simp only [stepG.apply, Sem.runT_eq, hr, if_true, GStep.bare_after]
  rfl
end

section
variable {θ : Th} {fr : Fr} {b : Frame} {a : Act} {e : Env} {cx : Cx} {K : List Item} {cs : List Frame} {w : World} {ops : Array Oper} {i : Nat} {rest : List Nat} {o : Oper} {k : V → Cx → Bool} {ev : Ev}

/-- what an operation comes to -/
def OperOk (P : Program) (θ : Th) (cx : Cx) (w : World) (b : Frame) (a : Act) (cs : List Frame) (ops : Array Oper) (i : Nat) (rest : List Nat) (K : List Item) (o : Oper) (k : V → Cx → Bool) : Prop :=
  ∃ θ' v cv cx' ds' w', k v cx' = true ∧ VR θ' v cv ∧ MRx P θ' cx'.h cx'.nx w' ∧ Fm θ (hget cx.h) w θ' (hget cx'.h) w' ∧ DR θ' cx'.ds ds' ∧ cx'.rnd = cx.rnd ∧
    Steps P (lone (b.atR a (.inRegion ops (i :: rest) :: K)) cs w) (lone (b.atR (({ a with defers := ds' } : Act).put o.dst cv) (.inRegion ops rest :: K)) cs w')

theorem OperOk.of_op (hd : DR θ cx.ds a.defers) (ho : ops[i]? = some o) (hw : Region.wanted o (yielded ops a.tmps) = true) (hnd : ∀ c, o.op ≠ .defer c) (h : OpOk P θ cx.h cx.nx cx.ds cx.rnd w (execOp a.eval o) k) : OperOk P θ cx w b a cs ops i rest K o k := by
  obtain ⟨θ', h', nx', v, cv, nt, w', h1, h2, h3, h4, h5, h6⟩ := h
  refine ⟨θ', v, cv, ⟨h', nx', cx.ds, cx.rnd⟩, a.defers, w', h1, h2, h3, h4, hd.mono h4.le, rfl, ?_⟩
  rcases h6 with rfl | ⟨rfl, rfl⟩
  · exact .one (step_value ho hw hnd h5)
  · exact .one (step_skip' ho hw hnd h5)

theorem asF_eq' (f : V) (k : FuncId → V → V → Bool) (y : A → Bool) : asF f k y false false = match f with | .f g a b => k g a b | .fy x => y x | _ => false := by cases f <;> rfl

theorem toListK_true {l : V} {rest : List V} {k : List V → Bool} (h : toListK l rest k false = true) : ∃ m, l.list = some m ∧ k (m ++ rest) = true := by
  rw [toListK_eq] at h
  split at h
  · rename_i m hm; exact ⟨m, hm, h⟩
  · cases h

theorem args_VRs (l : List Operand) (h : ∀ x ∈ l, VR θ (opnd e x) (a.eval x)) : VRs θ (l.map (opnd e)) (l.map a.eval) := by
  induction l with
  | nil => exact .nil
  | cons x l ih => exact .cons _ _ _ _ (h x (by simp)) (ih fun y hy => h y (by simp [hy]))

/-- a call of a value -/
theorem applyK_ok (hE : EvOk P ev) {f : V} {cf : Value} (hf : VR θ f cf) {args : List V} {vs : Array Value} (hv : VRs θ args vs.toList) {h : Hp} {nx : A} (hm : MRx P θ h nx w) {kc : KC} (hk : applyK ev f args h nx kc = true) :
    (∃ g first cap, cf = .func (.func g) first cap ∧ CalleeN P θ h w g (first ++ vs ++ cap) kc) ∨ (∃ l, cf = .func (.yield l) #[] #[] ∧ RoundOk P θ h w l vs kc) := by
  unfold applyK at hk
  rw [asF_eq'] at hk
  cases hf with
  | f g x y cs ds hx hy =>
    obtain ⟨m, hm1, h1⟩ := toListK_true hk
    obtain ⟨n, hn1, h2⟩ := toListK_true h1
    rw [List.append_nil] at h2
    have hh : VRs θ (n ++ (args ++ m)) (cs ++ vs ++ ds).toList := by
      simp only [Array.toList_append, List.append_assoc]
      exact (hx.list hn1).append (hv.append (hy.list hm1))
    exact .inl ⟨g, cs, ds, rfl, hE.call h2 hm hh⟩
  | fy x r hr => exact .inr ⟨r, rfl, hE.round hk hm hr hv⟩
  | _ => cases hk

theorem resolve_value {ρ : Operand → Value} {c : Call} {f : Operand} (hc : c.callee = .value f) (ty : TypeId) : resolve ρ c ty = Deferred.ofValue (ρ f) (c.args.map ρ) := by
  unfold resolve; rw [hc]

/-- an operation, whatever it is -/
theorem oper_ok (hE : EvOk P ev) (hm : MRx P θ cx.h cx.nx w) (hd : DR θ cx.ds a.defers) (hrn : RndR θ cx.rnd b.roundOf) (hn : NoRec b.kind cs) (hoi : ops[i]? = some o) (hw : Region.wanted o (yielded ops a.tmps) = true)
    (ho : ∀ x ∈ o.op.operands.toList, VR θ (opnd e x) (a.eval x)) (hk : (operC P o).f ev e cx k = true) : OperOk P θ cx w b a cs ops i rest K o k := by
  obtain ⟨h, nx, ds, rnd⟩ := cx
  simp only at hm hd hrn hk
  by_cases hc : ∃ c, o.op = .call c
  · obtain ⟨c, hc⟩ := hc
    have hnd : ∀ c', o.op ≠ .defer c' := fun c' h => by rw [hc] at h; cases h
    have hargs : ∀ x ∈ c.args.toList, VR θ (opnd e x) (a.eval x) := fun x hx => ho x (by rw [hc]; simp only [Op.operands, Call.operands]; rw [Array.toList_append]; exact List.mem_append_right _ hx)
    have hk : (callC P c o.type).f ev e ⟨h, nx, ds, rnd⟩ k = true := by
      unfold operC at hk; rw [hc] at hk; exact hk
    cases hcal : c.callee with
    | invoke r m =>
      exfalso
      unfold callC at hk
      rw [hcal] at hk
      simp only [Clo.on_f] at hk
      unfold pureC at hk
      simp only [hcal] at hk
      cases hk
    | builtin bi =>
      by_cases hr : bi = .recover
      · subst hr
        have hrun := run_builtin (a := a) hcal hc
        unfold callC at hk
        rw [hcal] at hk
        cases hl : c.args.toList with
        | nil =>
          rw [hl] at hk
          simp only at hk
          cases rnd with
          | some x => cases hk
          | none =>
            have hb : b.roundOf = none := by
              cases hbr : b.roundOf with
              | none => rfl
              | some l => rw [hbr] at hrn; exact hrn.elim
            exact ⟨θ, .ifn, .nilIface, ⟨h, nx, ds, none⟩, a.defers, w, hk, VR.ifn, hm, Fm.refl _ _ _, hd, rfl, .one (step_recover hb hn hoi hw hnd (by rw [hrun]; rfl))⟩
        | cons x l =>
          exfalso
          rw [hl] at hk
          simp only [Clo.on_f] at hk
          unfold pureC at hk
          simp only [hcal, hl] at hk
          cases hk
      · exact OperOk.of_op (cx := ⟨h, nx, ds, rnd⟩) hd hoi hw hnd (builtin_ok hm hc hcal hr hargs hk)
    | value f =>
      have hf : VR θ (opnd e f) (a.eval f) := ho f (by rw [hc]; simp only [Op.operands, Call.operands, hcal]; rw [Array.toList_append]; exact List.mem_append_left _ (by simp))
      have hvs : VRs θ (c.args.toList.map (opnd e)) (c.args.map a.eval).toList := by rw [Array.toList_map]; exact args_VRs _ hargs
      -- a call by a value, and one of a function by its name
      have hk2 : (∃ g, f = .func g ∧ ev.call g (c.args.toList.map (opnd e)) h nx (fun v h nx => k v ⟨h, nx, ds, rnd⟩) = true) ∨ applyK ev (opnd e f) (c.args.toList.map (opnd e)) h nx (fun v h nx => k v ⟨h, nx, ds, rnd⟩) = true := by
        unfold callC at hk
        rw [hcal] at hk
        cases f with
        | func g =>
          simp only [Clo.on_f, argsC_eq] at hk
          exact .inl ⟨g, rfl, hk⟩
        | _ =>
          simp only [Clo.on_f, argsC_eq, opndC_eq] at hk
          exact .inr hk
      have hres : ∀ (F : Value), a.eval f = F → execOp a.eval o = (do let d ← Deferred.ofValue F (c.args.map a.eval); invoke d.target d.args) := fun F hF => by
        unfold execOp
        rw [hc]
        simp only [resolve_value hcal, hF]
      -- how a callee is reached
      have callee : ∀ g first cap, a.eval f = .func (.func g) first cap → CalleeN P θ h w g (first ++ c.args.map a.eval ++ cap) (fun v h nx => k v ⟨h, nx, ds, rnd⟩) → OperOk P θ ⟨h, nx, ds, rnd⟩ w b a cs ops i rest K o k := fun g first cap hF hC => by
        obtain ⟨θ', v, cv, h', nx', w', h1, h2, h3, h4, h5⟩ := hC (b.atR a (.inRegion ops (i :: rest) :: K)) cs
        have hex : (execOp a.eval o).run P w = (callFunc g (first ++ c.args.map a.eval ++ cap)).run P w := by
          rw [hres _ hF]
          simp [Deferred.ofValue, invoke]
        refine ⟨θ', v, cv, ⟨h', nx', ds, rnd⟩, a.defers, w', h1, h2, h3, h4, hd.mono h4.le, rfl, ?_⟩
        have hfin : (b.atR a (.inRegion ops (i :: rest) :: K)).finish cv = b.atR (a.put o.dst cv) (.inRegion ops rest :: K) := by rw [Frame.finish_atR, hoi]; rfl
        rcases h5 with ⟨g1, g2⟩ | g1
        · refine .head (step_enter hoi hw hnd (by rw [hex]; exact g1)) ?_
          rw [hfin] at g2
          exact g2
        · exact .one (step_value hoi hw hnd (by rw [hex]; exact g1))
      rcases hk2 with ⟨g, rfl, hk2⟩ | hk2
      · have hC := hE.call hk2 hm hvs
        exact callee g #[] #[] rfl (by simpa using hC)
      · rcases applyK_ok hE hf hvs hm hk2 with ⟨g, first, cap, hF, hC⟩ | ⟨l, hF, ff, tmps, as, bd, hy, hR⟩
        · exact callee g first cap hF hC
        · obtain ⟨θ', v, cv, h', nx', w', h1, h2, h3, h4, h5⟩ := hR (b.atR a (.inRegion ops (i :: rest) :: K)) cs
          have hex : (execOp a.eval o).run P w = (Instr.yield l (c.args.map a.eval)).run P w := by
            rw [hres _ hF]
            simp [Deferred.ofValue, invoke]
          refine ⟨θ', v, cv, ⟨h', nx', ds, rnd⟩, a.defers, w', h1, h2, h3, h4, hd.mono h4.le, rfl, ?_⟩
          have hfin : (b.atR a (.inRegion ops (i :: rest) :: K)).finish cv = b.atR (a.put o.dst cv) (.inRegion ops rest :: K) := by rw [Frame.finish_atR, hoi]; rfl
          rw [hfin] at h5
          exact .head (step_round hoi hw hnd (by rw [hex]; exact hy)) h5
  · by_cases hdf : ∃ c, o.op = .defer c
    · obtain ⟨c, hdf⟩ := hdf
      unfold operC at hk
      rw [hdf] at hk
      simp only at hk
      cases hcal : c.callee with
      | value f =>
        rw [hcal] at hk
        simp only [Clo.on_f, opndC_eq, argsC_eq] at hk
        have hf : VR θ (opnd e f) (a.eval f) := ho f (by rw [hdf]; simp only [Op.operands, Call.operands, hcal]; rw [Array.toList_append]; exact List.mem_append_left _ (by simp))
        have hargs : ∀ x ∈ c.args.toList, VR θ (opnd e x) (a.eval x) := fun x hx => ho x (by rw [hdf]; simp only [Op.operands, Call.operands]; rw [Array.toList_append]; exact List.mem_append_right _ hx)
        have hvs : VRs θ (c.args.toList.map (opnd e)) (c.args.map a.eval).toList := by rw [Array.toList_map]; exact args_VRs _ hargs
        rw [asF_eq'] at hk
        generalize hfe : opnd e f = F at hk hf
        generalize hcf : a.eval f = cF at hf
        cases hf with
        | f g x y fs cap hx hy =>
          obtain ⟨m, hm1, h1⟩ := toListK_true hk
          obtain ⟨n, hn1, h2⟩ := toListK_true h1
          rw [List.append_nil] at h2
          cases rnd with
          | some x => cases h2
          | none =>
            have hb : b.roundOf = none := by
              cases hbr : b.roundOf with
              | none => rfl
              | some l => rw [hbr] at hrn; exact hrn.elim
            have hh : VRs θ (n ++ (c.args.toList.map (opnd e) ++ m)) ((fs ++ c.args.map a.eval).toList ++ cap.toList) := by
              simp only [Array.toList_append, List.append_assoc]
              exact (hx.list hn1).append (hvs.append (hy.list hm1))
            refine ⟨θ, .undef, Go.undef, ⟨h, nx, .call g (n ++ (c.args.toList.map (opnd e) ++ m)) :: ds, none⟩, { target := .fn (.func g) cap, args := fs ++ c.args.map a.eval } :: a.defers, w, h2, VR.undef _, hm, Fm.refl _ _ _, .call g _ _ cap _ _ hh hd, rfl, ?_⟩
            refine .one (step_defer (c := c) hb hoi hw ?_)
            unfold execOp
            rw [hdf]
            simp only [resolve_value hcal, hcf]
            rfl
        | fy x r hr => cases hk
        | _ => cases hk
      | _ => rw [hcal] at hk; cases hk
    · exact OperOk.of_op (cx := ⟨h, nx, ds, rnd⟩) hd hoi hw (fun c hc' => hdf ⟨c, hc'⟩) (mem_ok hm ho (fun c hc' => hc ⟨c, hc'⟩) (fun c hc' => hdf ⟨c, hc'⟩) hk)
end
end Go.Ax

namespace Go.Ax
variable {P : Program}
section
variable {θ : Th} {fr : Fr} {b : Frame} {a : Act} {e : Env} {cx : Cx} {K : List Item} {cs : List Frame} {w : World} {ops : Array Oper} {i : Nat} {rest : List Nat} {o : Oper} {k : KN} {ev : Ev}

def V.isB (want : Bool) : V → Bool
  | .b x => x == want
  | _ => false

/-- whether an operation is wanted, as the executor sees it -/
theorem wanted_iff {j : Nat} {want : Bool} {d : Nat} {v : V} (hg : o.guard = some (j, want)) (hd : (ops[j]?).bind (·.dst) = some d) (hlt : d < a.tmps.size) (hv : VR θ v (a.tmps.getD d Go.undef)) :
    Region.wanted o (yielded ops a.tmps) = v.isB want := by
  unfold Region.wanted
  simp only [hg]
  have hy : yielded ops a.tmps j = match a.tmps.getD d Go.undef with | .bool x => some x | _ => none := by
    unfold yielded
    rw [hd]
    simp only [Option.bind_some]
    rw [Array.getD_eq_getD_getElem?, Array.getElem?_eq_getElem hlt]
    simp only [Option.getD_some]
    cases a.tmps[d] <;> rfl
  rw [hy]
  generalize a.tmps.getD d Go.undef = cv at hv
  cases hv <;> first | rfl | (rename_i x; cases x <;> cases want <;> rfl)

theorem putC_true {dst : Option Nat} {v : V} {K : Env → Bool} (h : (putC fr dst).f e v K = true) : ∃ e', K e' = true ∧ (∀ {θ : Th} {a : Act} {cv : Value}, RR θ fr.n e a.tmps → VR θ v cv → RR θ fr.n e' (a.put dst cv).tmps) ∧
    (dst = none ∧ e' = e ∨ ∃ d, dst = some d ∧ d < fr.n ∧ fr.n ≤ 256 ∧ e' = e.put d v) := by
  cases dst with
  | none => exact ⟨e, h, fun hr _ => hr, .inl ⟨rfl, rfl⟩⟩
  | some d =>
    unfold putC at h
    simp only at h
    cases hq : (Nat.blt d fr.n && Nat.ble fr.n 256) with
    | false => rw [hq] at h; cases h
    | true =>
      rw [hq, cond_true, setC_eq] at h
      rw [Bool.and_eq_true] at hq
      have h1 : d < fr.n := by have := hq.1; rwa [Nat.blt_eq] at this
      exact ⟨_, h, fun hr hv => hr.put h1 hv, .inr ⟨d, rfl, h1, ble_le hq.2, rfl⟩⟩

theorem Act.put_defers' (a : Act) (dst : Option Nat) (v : Value) : (a.put dst v).defers = a.defers := by cases dst <;> rfl

theorem guard_dst {ops : Array Oper} {j d : Nat} (h : (ops.toList[j]?).bind (·.dst) = some d) : (ops[j]?).bind (·.dst) = some d := by simpa using h

/-- one operation of a region, wanted or not -/
theorem oneC_ok (hE : EvOk P ev) (hS : St P θ fr b a cs e cx w) (hoi : ops[i]? = some o) (hk : (oneC P fr ops.toList o).f ev e cx k = true) :
    ∃ θ' a' e' cx' w', k e' cx' = true ∧ St P θ' fr b a' cs e' cx' w' ∧ Fm θ (hget cx.h) w θ' (hget cx'.h) w' ∧
      Steps P (lone (b.atR a (.inRegion ops (i :: rest) :: K)) cs w) (lone (b.atR a' (.inRegion ops rest :: K)) cs w') := by
  unfold oneC at hk
  cases hok : okOper P o with
  | false => rw [hok] at hk; cases hk
  | true =>
    rw [hok, cond_true] at hk
    simp only [Clo.on_f] at hk
    have hops : ∀ x ∈ o.op.operands.toList, VR θ (opnd e x) (a.eval x) := fun x hx => opnd_ok hS.mr.glob hS.rr (List.all_eq_true.1 hok x hx)
    -- it is done
    have done : Region.wanted o (yielded ops a.tmps) = true → (operC P o).f ev e cx (fun v cx => (putC fr o.dst).f e v fun e => k e cx) = true → ∃ θ' a' e' cx' w', k e' cx' = true ∧ St P θ' fr b a' cs e' cx' w' ∧ Fm θ (hget cx.h) w θ' (hget cx'.h) w' ∧
        Steps P (lone (b.atR a (.inRegion ops (i :: rest) :: K)) cs w) (lone (b.atR a' (.inRegion ops rest :: K)) cs w') := fun hw hk => by
      obtain ⟨θ', v, cv, cx', ds', w', h1, h2, h3, h4, h5, h6, h7⟩ := oper_ok (rest := rest) (K := K) hE hS.mr hS.dr hS.rnd hS.nr hoi hw hops hk
      obtain ⟨e', g1, g2, _⟩ := putC_true h1
      have hrr : RR θ' fr.n e ({ a with defers := ds' } : Act).tmps := hS.rr.mono h4.le
      refine ⟨θ', _, e', cx', w', g1, ⟨g2 hrr h2, h3, ?_, by rw [h6]; exact hS.rnd.mono h4.le, hS.fn, hS.nr⟩, h4, h7⟩
      rw [Act.put_defers']; exact h5
    have skip : Region.wanted o (yielded ops a.tmps) = false → (putC fr o.dst).f e .undef (fun e => k e cx) = true → ∃ θ' a' e' cx' w', k e' cx' = true ∧ St P θ' fr b a' cs e' cx' w' ∧ Fm θ (hget cx.h) w θ' (hget cx'.h) w' ∧
        Steps P (lone (b.atR a (.inRegion ops (i :: rest) :: K)) cs w) (lone (b.atR a' (.inRegion ops rest :: K)) cs w') := fun hw hk => by
      obtain ⟨e', g1, g2, _⟩ := putC_true hk
      have hs := stepR_op_skip (P := P) (b := b) (a := a) (k := K) (cs := cs) (w := w) (ops := ops) (i := i) (rest := rest) (by rw [hoi]; simpa using hw)
      rw [hoi] at hs
      refine ⟨θ, a.put o.dst Go.undef, e', cx, w, g1, ⟨g2 hS.rr (VR.undef _), hS.mr, ?_, hS.rnd, hS.fn, hS.nr⟩, Fm.refl _ _ _, .one hs⟩
      rw [Act.put_defers']; exact hS.dr
    cases hg : o.guard with
    | none =>
      rw [hg] at hk
      exact done (by unfold Region.wanted; rw [hg]) hk
    | some jw =>
      obtain ⟨j, want⟩ := jw
      rw [hg] at hk
      simp only at hk
      cases hd : (ops.toList[j]?).bind (·.dst) with
      | none => rw [hd] at hk; cases hk
      | some d =>
        rw [hd] at hk
        simp only at hk
        cases hlt : Nat.blt d 256 with
        | false => rw [hlt] at hk; cases hk
        | true =>
          rw [hlt, cond_true] at hk
          simp only [Clo.on_f, getC_eq] at hk
          have hd256 : d < 256 := by rwa [Nat.blt_eq] at hlt
          have hv := hS.rr.2.2 d hd256
          rw [asB_eq] at hk
          by_cases hsz : d < a.tmps.size
          · have hwi := wanted_iff hg (guard_dst hd) hsz hv
            generalize e.at d = v at hk hv hwi
            cases v with
            | b x =>
              simp only [V.isB] at hk hwi
              rw [iteK_eq] at hk
              cases hq : (x == want) with
              | true => rw [hq, cond_true] at hk; exact done (by rw [hwi, hq]) hk
              | false => rw [hq, cond_false] at hk; exact skip (by rw [hwi, hq]) hk
            | _ => exact skip hwi hk
          · have hun : a.tmps.getD d Go.undef = Go.undef := by
              rw [Array.getD_eq_getD_getElem?, Array.getElem?_eq_none (Nat.le_of_not_lt hsz)]; rfl
            have hnw : Region.wanted o (yielded ops a.tmps) = false := by
              unfold Region.wanted yielded
              simp only [hg, guard_dst hd, Option.bind_some, Array.getElem?_eq_none (Nat.le_of_not_lt hsz)]
              cases want <;> rfl
            rw [hun] at hv
            generalize e.at d = v at hk hv
            cases v with
            | b x => cases hv
            | _ => exact skip hnw hk

/-- the operations of a list, one after the other -/
theorem opsC_ok (hE : EvOk P ev) : ∀ (is : List Nat) (os : List Oper), is.map (ops[·]?) = os.map some → ∀ {θ a e cx w}, St P θ fr b a cs e cx w → (opsC P fr ops.toList os).f ev e cx k = true →
    ∃ θ' a' e' cx' w', k e' cx' = true ∧ St P θ' fr b a' cs e' cx' w' ∧ Fm θ (hget cx.h) w θ' (hget cx'.h) w' ∧
      Steps P (lone (b.atR a (.inRegion ops (is ++ rest) :: K)) cs w) (lone (b.atR a' (.inRegion ops rest :: K)) cs w') := by
  intro is
  induction is with
  | nil =>
    intro os ho θ a e cx w hS hk
    obtain rfl : os = [] := by cases os with | nil => rfl | cons _ _ => cases ho
    exact ⟨θ, a, e, cx, w, hk, hS, Fm.refl _ _ _, .refl _ _⟩
  | cons i is ih =>
    intro os ho θ a e cx w hS hk
    cases os with
    | nil => cases ho
    | cons o os =>
      simp only [List.map_cons, List.cons.injEq] at ho
      obtain ⟨ho1, ho2⟩ := ho
      have hk2 : (oneC P fr ops.toList o).f ev e cx (fun e cx => (opsC P fr ops.toList os).f ev e cx k) = true := by
        cases os with
        | nil => exact hk
        | cons o2 os => simp only [opsC, Clo.on_f] at hk ⊢; exact hk
      obtain ⟨θ1, a1, e1, cx1, w1, h1, h2, h3, h4⟩ := oneC_ok (rest := is ++ rest) (K := K) hE hS ho1 hk2
      obtain ⟨θ2, a2, e2, cx2, w2, g1, g2, g3, g4⟩ := ih os ho2 h2 h1
      exact ⟨θ2, a2, e2, cx2, w2, g1, g2, h3.trans g3, h4.trans g4⟩

theorem range_map (ops : Array Oper) : (List.range ops.size).map (ops[·]?) = ops.toList.map some := by
  apply List.ext_getElem?
  intro j
  simp only [List.getElem?_map, List.getElem?_range', List.getElem?_range]
  by_cases h : j < ops.size
  · simp [h]
  · simp [h]

/-- a region in the order of its text -/
theorem text_ok (hE : EvOk P ev) (hS : St P θ fr b a cs e cx w) {id : Nat} {kx : KX} {kr : KN} (hk : (opsC P fr ops.toList ops.toList).f ev e cx k = true) :
    Out P θ cx.h w fr b cs (lone (b.atR a (.code (.region id ops false) :: K)) cs w) K k kx kr := by
  obtain ⟨θ1, a1, e1, cx1, w1, h1, h2, h3, h4⟩ := opsC_ok (rest := []) (K := K) hE (List.range ops.size) ops.toList (range_map ops) hS hk
  rw [List.append_nil] at h4
  exact ⟨θ1, a1, e1, cx1, w1, h2, h3, .inl ⟨h1, .head stepR_region (h4.trans (.one stepR_region_end))⟩⟩
end
end Go.Ax

namespace Go.Ax
variable {P : Program}

theorem hdfrK_true {h : Hp} {x : A} {k : Bool} (e : hdfrK h x k false = true) : hget h x = some .dfr ∧ k = true := by
  rw [hdfrK_eq] at e
  split at e
  · rename_i hx; exact ⟨hx, e⟩
  · cases e
theorem hloopK_true {h : Hp} {x : A} {k : LoopState → Option Code → Nat → Nat → Env → List Nat → Code → Code → A → Bool} (e : hloopK h x k false = true) : ∃ st pd fn n e' ps a b df, hget h x = some (.loop st pd fn n e' ps a b df) ∧ k st pd fn n e' ps a b df = true := by
  rw [hloopK_eq] at e
  split at e
  · rename_i st pd fn n e' ps a b df hx; exact ⟨st, pd, fn, n, e', ps, a, b, df, hx, e⟩
  · cases e

theorem run_newObj {w : World} {o : Obj} (ho : ∀ c el fr, o ≠ .cells c el fr) : (newObj o).run P w = .ok w.heap.size (World.put w o) := by
  simp [newObj, Sem.run, World.put]
theorem run_getLoop {w : World} {l : Nat} {L : Loop} (h : w.heap[l]? = some (.loop L)) : (Instr.getLoop l).run P w = .ok L w := by
  simp [Instr.getLoop, getObj, Sem.run, h]
theorem run_setLoop {w : World} {l : Nat} {L : Loop} (h : w.heap[l]? = some (.loop L)) (o : Obj) : (setObj l o).run P w = .ok () { w with heap := w.heap.setIfInBounds l o } := by
  simp [setObj, Sem.run, h]

section
variable {b : Frame} {a : Act} {K : List Item} {cs : List Frame} {w w' w2 : World} {f : Operand} {params : Array Tmp} {assign body : Code} {l : Nat} {mark : List Deferred}

theorem step_range_enter {g : FuncId} {vs : Array Value} (he : (Instr.enterLoop b.fn a.tmps params assign body b.roundOf).run P w = .ok (l, mark) w2)
    (hr : (do let d ← Deferred.ofValue (a.eval f) #[.func (.yield l) #[] #[]]; invoke d.target d.args : Sem Next).run P w2 = .ok (.enter g vs) w') :
    step P (lone (b.atR a (.code (.rangeFunc f params assign body) :: K)) cs w) = .next (lone (Frame.enter P g vs .normal) (b.atR { tmps := a.tmps, defers := mark ++ a.defers } (.inRangeFunc l :: K) :: cs) w') := by
  have hev := congrFun (Frame.eval_atR b { tmps := a.tmps, defers := mark ++ a.defers } (.inRangeFunc l :: K)) f
  have hev' : ({ tmps := a.tmps, defers := mark ++ a.defers } : Act).eval f = a.eval f := by cases f <;> rfl
  simp only [Frame.atR] at hev
  refine step_lone_go ?_
  simp only [stepG, stepG.exec, Frame.atR, Sem.runT_eq, he, GStep.bare_after, stepG.apply, if_true, resolve]
  rw [hev, hev']
  have e1 : (#[Operand.const (.func (.yield l) #[] #[])] : Array Operand).map ({ fn := b.fn, tmps := a.tmps, todo := .inRangeFunc l :: K, defers := mark ++ a.defers, mode := .run, kind := b.kind, roundOf := b.roundOf } : Frame).eval = #[.func (.yield l) #[] #[]] := by
    simp [Frame.eval]
  rw [e1, hr]
  simp

theorem step_range_round {l' f' : Nat} {tm : Array Value} {as bd : Code} (he : (Instr.enterLoop b.fn a.tmps params assign body b.roundOf).run P w = .ok (l, mark) w2)
    (hr : (do let d ← Deferred.ofValue (a.eval f) #[.func (.yield l) #[] #[]]; invoke d.target d.args : Sem Next).run P w2 = .ok (.round l' f' tm as bd) w') :
    step P (lone (b.atR a (.code (.rangeFunc f params assign body) :: K)) cs w) = .next (lone (Frame.round l' f' tm as bd .normal) (b.atR { tmps := a.tmps, defers := mark ++ a.defers } (.inRangeFunc l :: K) :: cs) w') := by
  have hev := congrFun (Frame.eval_atR b { tmps := a.tmps, defers := mark ++ a.defers } (.inRangeFunc l :: K)) f
  have hev' : ({ tmps := a.tmps, defers := mark ++ a.defers } : Act).eval f = a.eval f := by cases f <;> rfl
  simp only [Frame.atR] at hev
  refine step_lone_go ?_
  simp only [stepG, stepG.exec, Frame.atR, Sem.runT_eq, he, GStep.bare_after, stepG.apply, if_true, resolve]
  rw [hev, hev']
  have e1 : (#[Operand.const (.func (.yield l) #[] #[])] : Array Operand).map ({ fn := b.fn, tmps := a.tmps, todo := .inRangeFunc l :: K, defers := mark ++ a.defers, mode := .run, kind := b.kind, roundOf := b.roundOf } : Frame).eval = #[.func (.yield l) #[] #[]] := by
    simp [Frame.eval]
  rw [e1, hr]
  simp

theorem step_range_value {v : Value} (he : (Instr.enterLoop b.fn a.tmps params assign body b.roundOf).run P w = .ok (l, mark) w2)
    (hr : (do let d ← Deferred.ofValue (a.eval f) #[.func (.yield l) #[] #[]]; invoke d.target d.args : Sem Next).run P w2 = .ok (.value v) w') :
    step P (lone (b.atR a (.code (.rangeFunc f params assign body) :: K)) cs w) = .next (lone (b.atR { tmps := a.tmps, defers := mark ++ a.defers } (.endRangeFunc l :: K)) cs w') := by
  have hev := congrFun (Frame.eval_atR b { tmps := a.tmps, defers := mark ++ a.defers } (.inRangeFunc l :: K)) f
  have hev' : ({ tmps := a.tmps, defers := mark ++ a.defers } : Act).eval f = a.eval f := by cases f <;> rfl
  simp only [Frame.atR] at hev
  refine step_lone_go ?_
  simp only [stepG, stepG.exec, Frame.atR, Sem.runT_eq, he, GStep.bare_after, stepG.apply, if_true, resolve]
  rw [hev, hev']
  have e1 : (#[Operand.const (.func (.yield l) #[] #[])] : Array Operand).map ({ fn := b.fn, tmps := a.tmps, todo := .inRangeFunc l :: K, defers := mark ++ a.defers, mode := .run, kind := b.kind, roundOf := b.roundOf } : Frame).eval = #[.func (.yield l) #[] #[]] := by
    simp [Frame.eval]
  rw [e1, hr]
  simp [Frame.finish]

theorem step_range_end {jump : Option Code} (he : (Instr.endLoop l).run P w = .ok jump w') :
    step P (lone (b.atR a (.endRangeFunc l :: K)) cs w) = .next (lone (b.atR a ((jump.map Item.code).toList ++ K)) cs w') := by
  refine step_lone_go ?_
  simp only [stepG, stepG.exec, Frame.atR, Sem.runT_eq, he, GStep.bare_after]
  rfl
end

/-- regions whose order is drawn -/
def DrawOk (P : Program) (ev : Ev) : Prop := ∀ {fr : Fr} {ops : Array Oper} {θ : Th} {e : Env} {cx : Cx} {k : KN} {w : World} {b : Frame} {a : Act} {cs : List Frame},
  (drawC P fr ops.toList).f ev e cx k = true → St P θ fr b a cs e cx w → ∀ id K kx kr, Out P θ cx.h w fr b cs (lone (b.atR a (.code (.region id ops true) :: K)) cs w) K k kx kr

section
variable {θ : Th} {fr : Fr} {b : Frame} {a : Act} {e : Env} {cx : Cx} {K : List Item} {cs : List Frame} {w : World} {ev : Ev} {kn : KN} {kx : KX} {kr : KN}

/-- what follows the last round -/
theorem after_ok {l : A} {r : Nat} {ds : List D} {rnd : Option A} {h : Hp} {nx : A} (hlr : θ.ρ l = some r) (hS : St P θ fr b a cs e ⟨h, nx, ds, rnd⟩ w) (hk : afterK l e h nx ds rnd kn kx kr = true) :
    Out P θ h w fr b cs (lone (b.atR a (.endRangeFunc r :: K)) cs w) K kn kx kr := by
  unfold afterK at hk
  obtain ⟨st, pd, fn, n, e', ps, as, bd, df, hx, h1⟩ := hloopK_true hk
  rw [hsetK_eq] at h1
  obtain ⟨o, g1, tmps, d, rfl, g2, g3⟩ := hS.mr.blk l _ r hx hlr
  have hD := MR.drop hS.mr hx rfl hlr (o := .loop { state := .exhausted, pending := pd, fn, tmps, params := ps.toArray, assign := as, body := bd, defers := d }) { w with heap := w.heap.setIfInBounds r (.loop { state := .exhausted, pending := pd, fn, tmps, params := ps.toArray, assign := as, body := bd, defers := d }) } rfl rfl rfl rfl
  have hrun : st ≠ .busy → (Instr.endLoop r).run P w = .ok pd { w with heap := w.heap.setIfInBounds r (.loop { state := .exhausted, pending := pd, fn, tmps, params := ps.toArray, assign := as, body := bd, defers := d }) } := fun hb => by
    simp [Instr.endLoop, run_getLoop g1, hb, run_setLoop g1]
  have hS' : St P θ fr b a cs e ⟨hset h l none, nx, ds, rnd⟩ { w with heap := w.heap.setIfInBounds r (.loop { state := .exhausted, pending := pd, fn, tmps, params := ps.toArray, assign := as, body := bd, defers := d }) } :=
    ⟨hS.rr, by simp only [MRx, hget_hset_none]; exact hD.1, hS.dr, hS.rnd, hS.fn, hS.nr⟩
  have hF : Fm θ (hget h) w θ (hget (hset h l none)) { w with heap := w.heap.setIfInBounds r (.loop { state := .exhausted, pending := pd, fn, tmps, params := ps.toArray, assign := as, body := bd, defers := d }) } := by
    simp only [hget_hset_none]; exact hD.2
  cases st with
  | ready =>
    cases pd with
    | some c => cases h1
    | none => exact ⟨θ, a, e, _, _, hS', hF, .inl ⟨h1, .one (step_range_end (hrun (by simp)))⟩⟩
  | done =>
    cases pd with
    | none => cases h1
    | some c =>
      cases c with
      | exit id => exact ⟨θ, a, e, _, _, hS', hF, .inr (.inl ⟨id, K, h1, rfl, .one (step_range_end (hrun (by simp)))⟩)⟩
      | ret => exact ⟨θ, a, e, _, _, hS', hF, .inr (.inr ⟨h1, K, .one (step_range_end (hrun (by simp)))⟩)⟩
      | _ => cases h1
  | busy => cases h1
  | exhausted => cases h1

/-- a loop over a function, behind its blocks -/
theorem rangeGo_ok (hE : EvOk P ev) {f : Operand} {params : Array Tmp} {assign body : Code} {h : Hp} {nx : A} {ds : List D} {rnd : Option A} {df : A} {d : Nat} {w0 : World} {mark : List Deferred}
    (hS : St P θ fr b { tmps := a.tmps, defers := mark ++ a.defers } cs e ⟨h, nx, ds, rnd⟩ w) (hf : VR θ (opnd e f) (a.eval f)) (hdf : θ.ρ df = some d)
    (hent : (Instr.enterLoop b.fn a.tmps params assign body b.roundOf).run P w0 = .ok (w.heap.size, mark) (World.put w (.loop { state := .ready, pending := none, fn := fr.fn, tmps := a.tmps, params, assign, body, defers := d })))
    (hk : rangeGoK ev fr (opnd e f) params.toList assign body e h nx ds rnd df kn kx kr = true) :
    Out P θ h w fr b cs (lone (b.atR a (.code (.rangeFunc f params assign body) :: K)) cs w0) K kn kx kr := by
  unfold rangeGoK at hk
  obtain ⟨ny, hy, h1⟩ := newK_true hk
  have hx : θ.ρ nx = none := hS.mr.fresh nx (Nat.le_refl _)
  have hle := Th.le_add hx w.heap.size 0
  have hbr : BR (θ.add nx w.heap.size 0) nx (.loop .ready none fr.fn fr.n e params.toList assign body df) (.loop { state := .ready, pending := none, fn := fr.fn, tmps := a.tmps, params, assign, body, defers := d }) :=
    ⟨a.tmps, d, by simp, hS.rr.mono hle, (hle _ _ hdf).1⟩
  have hN := MR.new hS.mr hy 0 hbr
  have hm1 : MRx P (θ.add nx w.heap.size 0) (hset h nx (some (.loop .ready none fr.fn fr.n e params.toList assign body df))) ny (World.put w (.loop { state := .ready, pending := none, fn := fr.fn, tmps := a.tmps, params, assign, body, defers := d })) := by
    simp only [MRx, hget_hset_some]; exact hN.1
  have hF1 : Fm θ (hget h) w (θ.add nx w.heap.size 0) (hget (hset h nx (some (.loop .ready none fr.fn fr.n e params.toList assign body df)))) (World.put w (.loop { state := .ready, pending := none, fn := fr.fn, tmps := a.tmps, params, assign, body, defers := d })) := by
    simp only [hget_hset_some]; exact hN.2
  have hvs : VRs (θ.add nx w.heap.size 0) [.fy nx] (#[.func (.yield w.heap.size) #[] #[]] : Array Value).toList := .cons _ _ _ _ (VR.fy _ _ (Th.add_self _ _ _ _)) .nil
  have fin : ∀ {θ' h' nx' w'}, afterK nx e h' nx' ds rnd kn kx kr = true → MRx P θ' h' nx' w' → Fm (θ.add nx w.heap.size 0) (hget (hset h nx (some (.loop .ready none fr.fn fr.n e params.toList assign body df)))) (World.put w (.loop { state := .ready, pending := none, fn := fr.fn, tmps := a.tmps, params, assign, body, defers := d })) θ' (hget h') w' →
      Steps P (lone (b.atR a (.code (.rangeFunc f params assign body) :: K)) cs w0) (lone (b.atR { tmps := a.tmps, defers := mark ++ a.defers } (.endRangeFunc w.heap.size :: K)) cs w') → Out P θ h w fr b cs (lone (b.atR a (.code (.rangeFunc f params assign body) :: K)) cs w0) K kn kx kr := fun {θ' h' nx' w'} ha hm hF hst => by
    have hle2 := hle.trans hF.le
    refine Out.of_fm (hF1.trans hF) (Out.of_steps hst (after_ok (K := K) (hF.le _ _ (Th.add_self _ _ _ _)).1 ⟨hS.rr.mono hle2, hm, hS.dr.mono hle2, hS.rnd.mono hle2, hS.fn, hS.nr⟩ ha))
  rcases applyK_ok hE (hf.mono hle) hvs hm1 h1 with ⟨g, first, cap, hF, hC⟩ | ⟨l, hF, ff, tmps, as, bd, hy', hR⟩
  · obtain ⟨θ', v, cv, h', nx', w', q1, q2, q3, q4, q5⟩ := hC (b.atR { tmps := a.tmps, defers := mark ++ a.defers } (.inRangeFunc w.heap.size :: K)) cs
    have hex : ∀ W, (do let d ← Deferred.ofValue (a.eval f) #[.func (.yield w.heap.size) #[] #[]]; invoke d.target d.args : Sem Next).run P W = (callFunc g (first ++ #[.func (.yield w.heap.size) #[] #[]] ++ cap)).run P W := fun W => by
      rw [hF]; simp [Deferred.ofValue, invoke]
    have hfin : (b.atR { tmps := a.tmps, defers := mark ++ a.defers } (.inRangeFunc w.heap.size :: K)).finish cv = b.atR { tmps := a.tmps, defers := mark ++ a.defers } (.endRangeFunc w.heap.size :: K) := rfl
    rcases q5 with ⟨g1, g2⟩ | g1
    · rw [hfin] at g2
      exact fin q1 q3 q4 (.head (step_range_enter hent (by rw [hex]; exact g1)) g2)
    · exact fin q1 q3 q4 (.one (step_range_value hent (by rw [hex]; exact g1)))
  · obtain ⟨θ', v, cv, h', nx', w', q1, q2, q3, q4, q5⟩ := hR (b.atR { tmps := a.tmps, defers := mark ++ a.defers } (.inRangeFunc w.heap.size :: K)) cs
    have hex : ∀ W, (do let d ← Deferred.ofValue (a.eval f) #[.func (.yield w.heap.size) #[] #[]]; invoke d.target d.args : Sem Next).run P W = (Instr.yield l #[.func (.yield w.heap.size) #[] #[]]).run P W := fun W => by
      rw [hF]; simp [Deferred.ofValue, invoke]
    exact fin q1 q3 q4 (.head (step_range_round hent (by rw [hex]; exact hy')) q5)

theorem range_ok (hE : EvOk P ev) {f : Operand} {params : Array Tmp} {assign body : Code} (hS : St P θ fr b a cs e cx w) (hf : VR θ (opnd e f) (a.eval f)) (hk : rangeK ev fr (opnd e f) params.toList assign body e cx kn kx kr = true) :
    Out P θ cx.h w fr b cs (lone (b.atR a (.code (.rangeFunc f params assign body) :: K)) cs w) K kn kx kr := by
  obtain ⟨h, nx, ds, rnd⟩ := cx
  cases rnd with
  | none =>
    have hb : b.roundOf = none := by
      have := hS.rnd
      cases hbr : b.roundOf with
      | none => rfl
      | some l => rw [hbr] at this; exact this.elim
    have hk : newK h nx .dfr (fun h' nx' => rangeGoK ev fr (opnd e f) params.toList assign body e h' nx' (.col nx :: ds) none nx kn kx kr) false = true := hk
    obtain ⟨ny, hy, h1⟩ := newK_true hk
    have hx : θ.ρ nx = none := hS.mr.fresh nx (Nat.le_refl _)
    have hle := Th.le_add hx w.heap.size 0
    have hN := MR.new hS.mr hy 0 (b := .dfr) (o := .deferred (some [])) rfl
    have hS1 : St P (θ.add nx w.heap.size 0) fr b { tmps := a.tmps, defers := [{ target := .collected w.heap.size, args := #[] }] ++ a.defers } cs e ⟨hset h nx (some .dfr), ny, .col nx :: ds, none⟩ (World.put w (.deferred (some []))) :=
      ⟨hS.rr.mono hle, by simp only [MRx, hget_hset_some]; exact hN.1, .col _ _ _ _ (Th.add_self _ _ _ _) (hS.dr.mono hle), by rw [hb]; trivial, hS.fn, hS.nr⟩
    refine Out.of_fm (h1 := hset h nx (some .dfr)) (by simp only [hget_hset_some]; exact hN.2) (rangeGo_ok hE (mark := [{ target := .collected w.heap.size, args := #[] }]) (w0 := w) (d := w.heap.size) hS1 (hf.mono hle) (Th.add_self _ _ _ _) ?_ h1)
    rw [hb, hS.fn]
    simp only [Instr.enterLoop, Sem.run_bind, run_newObj (w := w) (o := .deferred (some [])) (fun _ _ _ h => by cases h), Sem.run_pure, Result.andThen_ok]
    rw [run_newObj (fun _ _ _ h => by cases h)]
    rfl
  | some x =>
    have hk : hloopK h x (fun _ _ _ _ _ _ _ _ df => rangeGoK ev fr (opnd e f) params.toList assign body e h nx ds (some x) df kn kx kr) false = true := hk
    obtain ⟨st, pd, fn, n, e', ps, as, bd, df, hx, h1⟩ := hloopK_true hk
    obtain ⟨lo, hb⟩ : ∃ lo, b.roundOf = some lo := by
      have := hS.rnd
      cases hbr : b.roundOf with
      | none => rw [hbr] at this; exact this.elim
      | some l => exact ⟨l, rfl⟩
    have hxr : θ.ρ x = some lo := by have := hS.rnd; rw [hb] at this; exact this
    obtain ⟨o, g1, tmps, d, rfl, g2, g3⟩ := hS.mr.blk x _ lo hx hxr
    refine rangeGo_ok hE (mark := []) (w0 := w) (d := d) hS hf g3 ?_ h1
    rw [hb, hS.fn]
    simp only [Instr.enterLoop, Sem.run_bind, run_getLoop g1, Sem.run_pure, Result.andThen_ok]
    rw [run_newObj (fun _ _ _ h => by cases h)]
    rfl
end
end Go.Ax

namespace Go.Ax
variable {P : Program}
section
variable {θ : Th} {fr : Fr} {b : Frame} {a : Act} {e : Env} {cx : Cx} {K : List Item} {cs : List Frame} {w : World} {ev : Ev} {kn : KN} {kx : KX} {kr : KN}

theorem comp_seq (x y : Code) : comp P fr (.seq x y) = (comp P fr x).on fun fa => (comp P fr y).on fun fb => ⟨fun ev e cx kn kx kr => fa ev e cx (fun e cx => fb ev e cx kn kx kr) kx kr⟩ := rfl
theorem comp_region (id : Nat) (ops : Array Oper) (d : Bool) : comp P fr (.region id ops d) = bif Nat.ble fr.n 256 then (bif d then drawC P fr ops.toList else opsC P fr ops.toList ops.toList).on fun f => ⟨fun ev e cx kn _ _ => f ev e cx kn⟩ else badC := rfl
theorem comp_cond (x : Operand) (t f : Code) : comp P fr (.cond x t f) = bif okOpnd P x then (opndC x).on fun fx => (comp P fr t).on fun fa => (comp P fr f).on fun fb => ⟨fun ev e cx kn kx kr => fx e fun v => asB v (fun b => iteK b (fa ev e cx kn kx kr) (fb ev e cx kn kx kr)) false⟩ else badC := rfl
theorem comp_block (id : Nat) (c : Code) : comp P fr (.block id c) = (comp P fr c).on fun fa => ⟨fun ev e cx kn kx kr => fa ev e cx kn (fun id' e cx => iteK (Nat.beq id' id) (kn e cx) (kx id' e cx)) kr⟩ := rfl
theorem comp_loop (c : Code) : comp P fr (.loop c) = (comp P fr c).on fun fa => ⟨fun ev e cx kn kx kr => fa ev e cx (fun e cx => loopE ev fr (.loop c) e cx kn kx kr) kx kr⟩ := rfl
theorem comp_range (f : Operand) (ps : Array Tmp) (as bd : Code) : comp P fr (.rangeFunc f ps as bd) = bif okOpnd P f then (opndC f).on fun ff => ⟨fun ev e cx kn kx kr => ff e fun f => rangeK ev fr f ps.toList as bd e cx kn kx kr⟩ else badC := rfl
theorem comp_scope (c : Code) : comp P fr (.scope c) = comp P fr c := rfl

/-- the body of a loop, from its head on -/
theorem inLoop_ok (hE : EvOk P ev) {c : Code} (hc : CodeOk P ((comp P fr c).f ev) fr c) (hk : (comp P fr (.loop c)).f ev e cx kn kx kr = true) (hS : St P θ fr b a cs e cx w) :
    Out P θ cx.h w fr b cs (lone (b.atR a (.code c :: .inLoop c :: K)) cs w) K kn kx kr := by
  rw [comp_loop] at hk
  simp only [Clo.on_f] at hk
  obtain ⟨θ', a', e', cx', w', h1, h2, h3⟩ := hc hk hS (.inLoop c :: K)
  rcases h3 with ⟨g1, g2⟩ | ⟨id, J, g1, g2, g3⟩ | ⟨g1, J, g2⟩
  · exact Out.of_fm h2 (Out.of_steps g2 (hE.loop g1 h1 K))
  · exact ⟨θ', a', e', cx', w', h1, h2, .inr (.inl ⟨id, J, g1, g2, g3⟩)⟩
  · exact ⟨θ', a', e', cx', w', h1, h2, .inr (.inr ⟨g1, J, g2⟩)⟩

theorem comp_ok (hE : EvOk P ev) (hD : DrawOk P ev) (fr : Fr) : ∀ c, CodeOk P ((comp P fr c).f ev) fr c := by
  intro c
  induction c with
  | skip => intro θ e cx kn kx kr w b a cs hk hS K; exact ⟨θ, a, e, cx, w, hS, Fm.refl _ _ _, .inl ⟨hk, .one stepR_skip⟩⟩
  | region id ops d =>
    intro θ e cx kn kx kr w b a cs hk hS K
    rw [comp_region] at hk
    cases hn : Nat.ble fr.n 256 with
    | false => rw [hn] at hk; cases hk
    | true =>
      rw [hn, cond_true] at hk
      simp only [Clo.on_f] at hk
      cases d with
      | true => exact hD hk hS id K kx kr
      | false => exact text_ok hE hS hk
  | seq x y ihx ihy =>
    intro θ e cx kn kx kr w b a cs hk hS K
    rw [comp_seq] at hk
    simp only [Clo.on_f] at hk
    obtain ⟨θ', a', e', cx', w', h1, h2, h3⟩ := ihx hk hS (.code y :: K)
    refine Out.of_steps (.one stepR_seq) ?_
    rcases h3 with ⟨g1, g2⟩ | ⟨id, J, g1, g2, g3⟩ | ⟨g1, J, g2⟩
    · exact Out.of_fm h2 (Out.of_steps g2 (ihy g1 h1 K))
    · exact ⟨θ', a', e', cx', w', h1, h2, .inr (.inl ⟨id, J, g1, g2, g3⟩)⟩
    · exact ⟨θ', a', e', cx', w', h1, h2, .inr (.inr ⟨g1, J, g2⟩)⟩
  | cond x t f iht ihf =>
    intro θ e cx kn kx kr w b a cs hk hS K
    rw [comp_cond] at hk
    cases hx : okOpnd P x with
    | false => rw [hx] at hk; cases hk
    | true =>
      rw [hx, cond_true] at hk
      simp only [Clo.on_f, opndC_eq] at hk
      have hv := opnd_ok hS.mr.glob hS.rr hx
      obtain ⟨q, hq, h1⟩ := asB_true hk
      rw [hq] at hv
      generalize hcv : a.eval x = cv at hv
      cases hv
      refine Out.of_steps (.one (stepR_cond hcv)) ?_
      rw [iteK_eq] at h1
      cases q with
      | true => exact iht h1 hS K
      | false => exact ihf h1 hS K
  | block id c ih =>
    intro θ e cx kn kx kr w b a cs hk hS K
    rw [comp_block] at hk
    simp only [Clo.on_f] at hk
    obtain ⟨θ', a', e', cx', w', h1, h2, h3⟩ := ih hk hS (.inBlock id :: K)
    refine Out.of_steps (.one stepR_block) ?_
    rcases h3 with ⟨g1, g2⟩ | ⟨id', J, g1, g2, g3⟩ | ⟨g1, J, g2⟩
    · exact ⟨θ', a', e', cx', w', h1, h2, .inl ⟨g1, g2.trans (.one stepR_inBlock)⟩⟩
    · simp only [iteK_eq] at g1
      cases hq : Nat.beq id' id with
      | true =>
        rw [hq, cond_true] at g1
        obtain rfl : id' = id := Nat.eq_of_beq_eq_true hq
        have : exitTo id' J = some K := by rw [g2]; simp [exitTo]
        exact ⟨θ', a', e', cx', w', h1, h2, .inl ⟨g1, g3.trans (.one (stepR_exit this))⟩⟩
      | false =>
        rw [hq, cond_false] at g1
        have ne : id ≠ id' := fun h => Nat.ne_of_beq_eq_false hq h.symm
        have : (id == id') = false := by simpa using ne
        refine ⟨θ', a', e', cx', w', h1, h2, .inr (.inl ⟨id', J, g1, ?_, g3⟩)⟩
        rw [g2]; simp [exitTo, this]
    · exact ⟨θ', a', e', cx', w', h1, h2, .inr (.inr ⟨g1, J, g2⟩)⟩
  | loop c ih =>
    intro θ e cx kn kx kr w b a cs hk hS K
    exact Out.of_steps (.one stepR_loop) (inLoop_ok hE ih hk hS)
  | rangeFunc f ps as bd _ _ =>
    intro θ e cx kn kx kr w b a cs hk hS K
    rw [comp_range] at hk
    cases hx : okOpnd P f with
    | false => rw [hx] at hk; cases hk
    | true =>
      rw [hx, cond_true] at hk
      simp only [Clo.on_f, opndC_eq] at hk
      exact range_ok hE hS (opnd_ok hS.mr.glob hS.rr hx) hk
  | exit id => intro θ e cx kn kx kr w b a cs hk hS K; exact ⟨θ, a, e, cx, w, hS, Fm.refl _ _ _, .inr (.inl ⟨id, K, hk, rfl, .refl _ _⟩)⟩
  | scope c ih =>
    intro θ e cx kn kx kr w b a cs hk hS K
    rw [comp_scope] at hk
    obtain ⟨θ', a', e', cx', w', h1, h2, h3⟩ := ih hk hS (.inScope c :: K)
    refine Out.of_steps (.one (step_lone_go (fr' := b.atR a (.code c :: .inScope c :: K)) (cs' := cs) (w' := w) (by simp [stepG, stepG.exec, Frame.atR]))) ?_
    rcases h3 with ⟨g1, g2⟩ | ⟨id, J, g1, g2, g3⟩ | ⟨g1, J, g2⟩
    · exact ⟨θ', a', e', cx', w', h1, h2, .inl ⟨g1, g2.trans (.one (step_lone_go (by simp [stepG, stepG.exec, Frame.atR])))⟩⟩
    · exact ⟨θ', a', e', cx', w', h1, h2, .inr (.inl ⟨id, J, g1, g2, g3⟩)⟩
    · exact ⟨θ', a', e', cx', w', h1, h2, .inr (.inr ⟨g1, J, g2⟩)⟩
  | label l => intro θ e cx kn kx kr w b a cs hk hS K; exact ⟨θ, a, e, cx, w, hS, Fm.refl _ _ _, .inl ⟨hk, .one stepR_label⟩⟩
  | goto l => intro θ e cx kn kx kr w b a cs hk hS K; cases hk
  | ret => intro θ e cx kn kx kr w b a cs hk hS K; exact ⟨θ, a, e, cx, w, hS, Fm.refl _ _ _, .inr (.inr ⟨hk, K, .refl _ _⟩)⟩
  | refuse y => intro θ e cx kn kx kr w b a cs hk hS K; cases hk
end
end Go.Ax

namespace Go.Ax
variable {P : Program}

section
variable {θ : Th} {b : Frame} {a : Act} {e : Env} {K : List Item} {cs : List Frame} {w w' : World} {ev : Ev}

/-! ### what was put off -/
theorem step_collect {fr : Frame} {r : Nat} {l : List Deferred} (hm : fr.mode = .returning) (hd : fr.defers = { target := .collected r, args := #[] } :: l) (hr : w.heap[r]? = some (.deferred (some []))) :
    step P (lone fr cs w) = .next (lone { fr with defers := l } cs { w with heap := w.heap.setIfInBounds r (.deferred none) }) := by
  have hrun : (Instr.takeDeferred r).run P w = .ok [] { w with heap := w.heap.setIfInBounds r (.deferred none) } := by
    simp [Instr.takeDeferred, getObj, setObj, Sem.run, hr]
  refine step_lone_go ?_
  simp only [stepG, hm, unwind, hd, Sem.runT_eq, hrun, GStep.bare_after]
  rfl

theorem step_deferred {fr : Frame} {g : FuncId} {cap vs : Array Value} {l : List Deferred} (hm : fr.mode = .returning) (hd : fr.defers = { target := .fn (.func g) cap, args := vs } :: l) (hr : (callFunc g (vs ++ cap)).run P w = .ok (.enter g (vs ++ cap)) w') :
    step P (lone fr cs w) = .next (lone (Frame.enter P g (vs ++ cap) .deferred) ({ fr with defers := l } :: cs) w') := by
  have hrun : (invoke (.fn (.func g) cap) vs).run P w = .ok (.enter g (vs ++ cap)) w' := hr
  refine step_lone_go ?_
  simp only [stepG, hm, unwind, hd, callDeferred, Sem.runT_eq, hrun]
  simp

theorem step_deferred_value {fr : Frame} {g : FuncId} {cap vs : Array Value} {l : List Deferred} {v : Value} (hm : fr.mode = .returning) (hd : fr.defers = { target := .fn (.func g) cap, args := vs } :: l) (hr : (callFunc g (vs ++ cap)).run P w = .ok (.value v) w') :
    step P (lone fr cs w) = .next (lone { fr with defers := l } cs w') := by
  have hrun : (invoke (.fn (.func g) cap) vs).run P w = .ok (.value v) w' := hr
  refine step_lone_go ?_
  simp only [stepG, hm, unwind, hd, callDeferred, Sem.runT_eq, hrun]
  simp

theorem unwind_ok (hE : EvOk P ev) : ∀ (ds : List D) (l : List Deferred) (fr : Frame) {θ : Th} {h : Hp} {nx : A} {w : World} {k : Hp → A → Bool}, fr.mode = .returning → fr.defers = l → DR θ ds l → MRx P θ h nx w → unwindK ev ds h nx k = true →
    ∃ θ' h' nx' w', k h' nx' = true ∧ MRx P θ' h' nx' w' ∧ Fm θ (hget h) w θ' (hget h') w' ∧ Steps P (lone fr cs w) (lone { fr with defers := [] } cs w') := by
  intro ds
  induction ds with
  | nil =>
    intro l fr θ h nx w k hm hl hd hmr hk
    cases hd
    refine ⟨θ, h, nx, w, hk, hmr, Fm.refl _ _ _, ?_⟩
    have : ({ fr with defers := [] } : Frame) = fr := by rw [← hl]
    rw [this]; exact .refl _ _
  | cons d ds ih =>
    intro l fr θ h nx w k hm hl hd hmr hk
    cases hd with
    | col x r _ l hr ht =>
      have hk : hdfrK h x (hsetK h x none fun h => unwindK ev ds h nx k) false = true := hk
      obtain ⟨hx, h1⟩ := hdfrK_true hk
      rw [hsetK_eq] at h1
      obtain ⟨o, g1, ho⟩ := hmr.blk x _ r hx hr
      have ho : o = .deferred (some []) := ho
      subst ho
      have hD := MR.drop hmr hx rfl hr (o := .deferred none) { w with heap := w.heap.setIfInBounds r (.deferred none) } rfl rfl rfl rfl
      have hmr1 : MRx P θ (hset h x none) nx { w with heap := w.heap.setIfInBounds r (.deferred none) } := by simp only [MRx, hget_hset_none]; exact hD.1
      have hF1 : Fm θ (hget h) w θ (hget (hset h x none)) { w with heap := w.heap.setIfInBounds r (.deferred none) } := by simp only [hget_hset_none]; exact hD.2
      obtain ⟨θ', h', nx', w', q1, q2, q3, q4⟩ := ih l { fr with defers := l } hm rfl ht hmr1 h1
      exact ⟨θ', h', nx', w', q1, q2, hF1.trans q3, .head (step_collect hm hl g1) q4⟩
    | call g args vs cap _ l hv ht =>
      have hk : ev.dcall g args h nx (fun _ h nx => unwindK ev ds h nx k) = true := hk
      have hC := hE.dcall (vs := vs ++ cap) hk hmr (by rw [Array.toList_append]; exact hv)
      obtain ⟨θ1, v, cv, h1, nx1, w1, p1, p2, p3, p4, p5⟩ := hC true { fr with defers := l } cs (fun _ => hm)
      obtain ⟨θ', h', nx', w', q1, q2, q3, q4⟩ := ih l { fr with defers := l } hm rfl (ht.mono p4.le) p3 p1
      refine ⟨θ', h', nx', w', q1, q2, p4.trans q3, ?_⟩
      rcases p5 with ⟨g1, g2⟩ | g1
      · simp only [if_true] at g2
        exact .head (step_deferred hm hl g1) (g2.trans q4)
      · exact .head (step_deferred_value hm hl g1) q4

/-! ### results -/
theorem run_asAddr {x : Value} {ad : Addr} (h : x = .pointer (some ad)) : (asAddr x).run P w = .ok ad w := by subst h; rfl

/-- one result variable -/
def res1 (tmps : Array Value) (r : ResultVar) : Sem Value := match r with
  | .tmp t => pure (tmps.getD t Go.undef)
  | .cell a t => do loadVar t (← asAddr (tmps.getD a Go.undef))

theorem resC_ok {n : Nat} {tmps : Array Value} {h : Hp} {nx : A} (hr : RR θ n e tmps) (hm : MRx P θ h nx w) {r : ResultVar} {k : V → Bool} (hk : (resC P r).f e h k = true) : ∃ v cv, k v = true ∧ VR θ v cv ∧ (res1 tmps r).run P w = .ok cv w := by
  cases r with
  | tmp t =>
    unfold resC at hk
    simp only at hk
    cases hq : Nat.blt t 256 with
    | false => rw [hq] at hk; cases hk
    | true =>
      rw [hq, cond_true] at hk
      simp only [Clo.on_f, getC_eq] at hk
      exact ⟨_, _, hk, hr.2.2 t (by rwa [Nat.blt_eq] at hq), rfl⟩
  | cell t ty =>
    unfold resC at hk
    simp only at hk
    cases hq : Nat.blt t 256 with
    | false => rw [hq] at hk; cases hk
    | true =>
      rw [hq, cond_true] at hk
      simp only [Clo.on_f, getC_eq] at hk
      obtain ⟨u, cu, h1, h2, ad, h3, h4⟩ := loadC_ok hm (hr.2.2 t (by rwa [Nat.blt_eq] at hq)) (fun _ _ => id) hk
      exact ⟨u, cu, h1, h2, by simp only [res1, Sem.run_bind, run_asAddr h3, Result.andThen_ok, h4]⟩

theorem ressC_ok {n : Nat} {tmps : Array Value} {h : Hp} {nx : A} (hr : RR θ n e tmps) (hm : MRx P θ h nx w) : ∀ (rs : List ResultVar) {k : V → Bool}, (ressC P rs).f e h k = true → ∃ v vs, k v = true ∧ VRL θ v vs ∧ (rs.mapM (res1 tmps)).run P w = .ok vs w ∧ vs.length = rs.length := by
  intro rs
  induction rs with
  | nil => intro k hk; exact ⟨.nil, [], hk, .nil, rfl, rfl⟩
  | cons r rs ih =>
    intro k hk
    simp only [ressC, Clo.on_f] at hk
    obtain ⟨v, cv, h1, h2, h3⟩ := resC_ok hr hm hk
    obtain ⟨l, vs, h4, h5, h6, h7⟩ := ih h1
    exact ⟨_, _, h4, .cons _ _ _ _ h2 h5, by simp [h3, h6], by simp [h7]⟩

theorem results_ok {n : Nat} {tmps : Array Value} {h : Hp} {nx : A} (hr : RR θ n e tmps) (hm : MRx P θ h nx w) {fn : Func} {k : V → Bool} (hk : (resultsC P fn.results.toList).f e h k = true) : ∃ v cv, k v = true ∧ VR θ v cv ∧ (results fn tmps).run P w = .ok cv w := by
  have hres : ∀ (vs : List Value), (fn.results.toList.mapM (res1 tmps)).run P w = .ok vs w → (results fn tmps).run P w = .ok (if h : vs.toArray.size = 1 then vs.toArray[0] else .tuple vs.toArray) w := fun vs hvs => by
    have hres : results fn tmps = (do
        let vs ← fn.results.mapM (res1 tmps)
        pure (if h : vs.size = 1 then vs[0] else .tuple vs)) :=
      congrArg (fun f => (do
        let vs ← fn.results.mapM f
        pure (if h : vs.size = 1 then vs[0] else .tuple vs) : Sem Value)) (funext fun x => by cases x <;> rfl)
    rw [hres, Array.mapM_eq_mapM_toList]
    simp only [Sem.run_bind, Sem.run_map, hvs]
    rfl
  unfold resultsC at hk
  split at hk
  · rename_i r hl
    obtain ⟨v, cv, h1, h2, h3⟩ := resC_ok hr hm hk
    refine ⟨v, cv, h1, h2, ?_⟩
    rw [hres [cv] (by rw [hl]; simp [h3])]
    rfl
  · rename_i hne
    simp only [Clo.on_f] at hk
    obtain ⟨l, vs, h1, h2, h3, h4⟩ := ressC_ok hr hm fn.results.toList hk
    refine ⟨_, _, h1, VR.tup _ _ (by simpa using h2), ?_⟩
    rw [hres vs h3]
    have : ¬ (vs.toArray.size = 1) := fun h => by
      have h : vs.length = 1 := by simpa using h
      rw [h4] at h
      obtain ⟨r, hr⟩ := List.length_eq_one_iff.1 h
      exact hne r hr
    rw [dif_neg this]

/-! ### functions -/
theorem enterK_ok : ∀ (args : List V) (vs : List Value) (i : Nat) {n : Nat} {e : Env} {tmps : Array Value}, VRs θ args vs → RR θ n e tmps → i + args.length ≤ n → ∀ {k : Env → Bool}, enterK args i e k = true →
    ∃ e', k e' = true ∧ RR θ n e' (((vs.zipIdx i).foldl (fun (t : Array Value) (p : Value × Nat) => t.setIfInBounds p.2 p.1) tmps)) := by
  intro args
  induction args with
  | nil => intro vs i n e tmps hv hr hi k hk; cases hv; exact ⟨e, hk, hr⟩
  | cons x args ih =>
    intro vs i n e tmps hv hr hi k hk
    cases hv with
    | cons _ _ v vs hx ht =>
      have hk : (setC i).f e x (fun e => enterK args (Nat.succ i) e k) = true := hk
      rw [setC_eq] at hk
      simp only [List.length_cons] at hi
      simp only [List.zipIdx_cons, List.foldl_cons]
      exact ih vs (i + 1) ht (hr.put (show i < n by omega) hx) (by omega) hk

theorem foldl_enter (vs : List Value) : ∀ (i : Nat) (tmps : Array Value), i + vs.length ≤ tmps.size → ((vs.zipIdx i).foldl (fun (t : Array Value) (p : Value × Nat) => t.setIfInBounds p.2 p.1) tmps).toList = tmps.toList.take i ++ vs ++ tmps.toList.drop (i + vs.length) := by
  induction vs with
  | nil => intro i tmps h; simp
  | cons v vs ih =>
    intro i tmps h
    simp only [List.length_cons] at h
    simp only [List.zipIdx_cons, List.foldl_cons]
    rw [ih (i + 1) _ (by simp; omega)]
    rw [Array.toList_setIfInBounds, List.length_cons]
    have hi : i < tmps.toList.length := by simp; omega
    rw [List.take_set, List.drop_set_of_lt (by omega)]
    rw [List.take_succ_eq_append_getElem hi, List.set_append_right _ _ (by simp; omega)]
    have e : i + 1 + vs.length = i + (vs.length + 1) := by omega
    rw [e]
    simp only [List.length_take, Nat.min_eq_left (Nat.le_of_lt hi), Nat.sub_self, List.set_cons_zero, List.append_assoc, List.cons_append]
    rfl

theorem RR.env0 {n : Nat} (hn : n ≤ 256) : RR θ n env0 (Array.replicate n Go.undef) := by
  refine ⟨by simp, hn, fun t ht => ?_⟩
  rw [E16.at_env0]
  have : (Array.replicate n Go.undef).getD t Go.undef = Go.undef := by
    rw [Array.getD_eq_getD_getElem?, Array.getElem?_replicate]
    split <;> rfl
  rw [this]
  exact VR.undef _

theorem lenL_eq {R : Type} : ∀ (l : List V) (n : Nat) (k : Nat → R), lenL l n k = k (n + l.length) := by
  intro l
  induction l with
  | nil => intro n k; rfl
  | cons x l ih =>
    intro n k
    have : lenL (x :: l) n k = forceN (Nat.succ n) fun n => lenL l n k := rfl
    rw [this, forceN_eq, ih]; congr 1; simp only [List.length_cons]; omega

theorem funcT_some {f : FuncId} {n : Nat} {rs : List ResultVar} {c : Code} (h : funcT P f = some (n, rs, c)) : ∃ fn, P.funcs[f]? = some fn ∧ (fn.name == "runtime.NumGoroutine") = false ∧ fn.body = some c ∧ fn.ntmps = n ∧ fn.results.toList = rs := by
  unfold funcT at h
  cases hf : funcF P f with
  | none => simp [hf] at h
  | some fn =>
    simp only [hf] at h
    cases hq : (fn.name == "runtime.NumGoroutine") with
    | true => rw [hq] at h; simp at h
    | false =>
      rw [hq] at h
      simp only [Bool.false_eq_true, if_false] at h
      cases hb : fn.body with
      | none => rw [hb] at h; cases h
      | some c' =>
        rw [hb] at h
        simp only [Option.some.injEq, Prod.mk.injEq] at h
        obtain ⟨rfl, rfl, rfl⟩ := h
        exact ⟨fn, funcF_some hf, hq, hb, rfl, rfl⟩

theorem callFunc_enter {f : FuncId} {fn : Func} {c : Code} (hf : P.funcs[f]? = some fn) (hn : (fn.name == "runtime.NumGoroutine") = false) (hb : fn.body = some c) (vs : Array Value) : (callFunc f vs).run P w = .ok (.enter f vs) w := by
  unfold callFunc
  simp only [Sem.run_bind, run_program, Result.andThen_ok, hf]
  rw [hn]
  simp [hb]

/-- a function's body, from its entry to where it leaves -/
theorem body_ok (hE : EvOk P ev) (hD : DrawOk P ev) {f : FuncId} {args : List V} {vs : Array Value} {h : Hp} {nx : A} {k : KC} (hk : (fnC P f).f ev args h nx k = true) (hm : MRx P θ h nx w) (hv : VRs θ args vs.toList) :
    (∃ fn, P.funcs[f]? = some fn ∧ (callFunc f vs).run P w = .ok (.enter f vs) w) ∧ ∀ (kind : CallKind) (cs : List Frame), NoRec kind cs →
      ∃ θ' v cv h' nx' w' fr, k v h' nx' = true ∧ VR θ' v cv ∧ MRx P θ' h' nx' w' ∧ Fm θ (hget h) w θ' (hget h') w' ∧ Steps P (lone (Frame.enter P f vs kind) cs w) (lone fr cs w') ∧
        fr.mode = .returning ∧ fr.defers = [] ∧ fr.kind = kind ∧ fr.fn = f ∧ ∃ fn, P.funcs[f]? = some fn ∧ (results fn fr.tmps).run P w' = .ok cv w' := by
  unfold fnC at hk
  cases hT : funcT P f with
  | none => rw [hT] at hk; cases hk
  | some t =>
    obtain ⟨n, rs, c⟩ := t
    rw [hT] at hk
    simp only at hk
    cases hn : Nat.ble n 256 with
    | false => rw [hn] at hk; cases hk
    | true =>
      rw [hn, cond_true] at hk
      have hn := ble_le hn
      simp only [Clo.on_f, lenL_eq, Nat.zero_add] at hk
      obtain ⟨hle, h1⟩ := iteK_true hk
      have hle : args.length ≤ n := ble_le hle
      obtain ⟨fn, hf, hng, hb, hnt, hrs⟩ := funcT_some hT
      refine ⟨⟨fn, hf, callFunc_enter hf hng hb vs⟩, fun kind cs hnr => ?_⟩
      obtain ⟨e', h2, hrr⟩ := enterK_ok args vs.toList 0 hv (RR.env0 hn) (by omega) h1
      have hlen : vs.size = args.length := by have := hv.length; simpa using this.symm
      have htm : (((vs.toList.zipIdx 0).foldl (fun (t : Array Value) (p : Value × Nat) => t.setIfInBounds p.2 p.1) (Array.replicate n Go.undef))) = vs ++ Array.replicate (n - vs.size) Go.undef := by
        apply Array.toList_inj.1
        rw [foldl_enter vs.toList 0 _ (by simp; omega)]
        simp
      rw [htm] at hrr
      have hent : Frame.enter P f vs kind = (Frame.enter P f vs kind).atR { tmps := vs ++ Array.replicate (n - vs.size) Go.undef, defers := [] } [.code c] := by
        simp [Frame.enter, Frame.atR, hf, hb, hnt]
      have hro : (Frame.enter P f vs kind).roundOf = none := rfl
      have hS : St P θ ⟨n, f⟩ (Frame.enter P f vs kind) { tmps := vs ++ Array.replicate (n - vs.size) Go.undef, defers := [] } cs e' ⟨h, nx, [], none⟩ w :=
        ⟨hrr, hm, .nil, trivial, rfl, hnr⟩
      obtain ⟨θ1, a1, e1, cx1, w1, p1, p2, p3⟩ := comp_ok hE hD ⟨n, f⟩ c h2 hS []
      rw [hent]
      -- the end: what was put off, the results
      have fin : finK ev (resultsC P rs).f e1 cx1 k = true → ∀ todo, Steps P (lone ((Frame.enter P f vs kind).atR { tmps := vs ++ Array.replicate (n - vs.size) Go.undef, defers := [] } [.code c]) cs w) (lone { (Frame.enter P f vs kind).atR a1 todo with mode := .returning } cs w1) →
          ∃ θ' v cv h' nx' w' fr, k v h' nx' = true ∧ VR θ' v cv ∧ MRx P θ' h' nx' w' ∧ Fm θ (hget h) w θ' (hget h') w' ∧ Steps P (lone ((Frame.enter P f vs kind).atR { tmps := vs ++ Array.replicate (n - vs.size) Go.undef, defers := [] } [.code c]) cs w) (lone fr cs w') ∧
            fr.mode = .returning ∧ fr.defers = [] ∧ fr.kind = kind ∧ fr.fn = f ∧ ∃ fn, P.funcs[f]? = some fn ∧ (results fn fr.tmps).run P w' = .ok cv w' := fun hfin todo hst => by
        obtain ⟨H, NX, DS, RND⟩ := cx1
        have hfin : unwindK ev DS H NX (fun h nx => (resultsC P rs).f e1 h fun v => k v h nx) = true := hfin
        obtain ⟨θ2, h2, nx2, w2, q1, q2, q3, q4⟩ := unwind_ok (cs := cs) hE DS a1.defers { (Frame.enter P f vs kind).atR a1 todo with mode := .returning } rfl rfl p1.dr p1.mr hfin
        rw [← hrs] at q1
        obtain ⟨v, cv, r1, r2, r3⟩ := results_ok (p1.rr.mono q3.le) q2 q1
        exact ⟨θ2, v, cv, h2, nx2, w2, _, r1, r2, q2, p2.trans q3, hst.trans q4, rfl, rfl, rfl, rfl, fn, hf, r3⟩
      rcases p3 with ⟨g1, g2⟩ | ⟨id, J, g1, g2, g3⟩ | ⟨g1, J, g2⟩
      · exact fin g1 [] (g2.trans (.one (stepR_end hro)))
      · cases g1
      · exact fin g1 _ (g2.trans (.one (stepR_ret hro)))

/-- a function, as it is called -/
theorem fn_ok (hE : EvOk P ev) (hD : DrawOk P ev) {f : FuncId} {args : List V} {vs : Array Value} {h : Hp} {nx : A} {k : KC} (hk : (fnC P f).f ev args h nx k = true) (hm : MRx P θ h nx w) (hv : VRs θ args vs.toList) : CalleeOk P θ h w f vs k := by
  obtain ⟨⟨fn, hf, hcf⟩, hB⟩ := body_ok hE hD hk hm hv
  intro d c cs hdc
  cases d with
  | false =>
    obtain ⟨θ', v, cv, h', nx', w', fr, g1, g2, g3, g4, g5, g6, g7, g8, g9, fn', g10, g11⟩ := hB .normal (c :: cs) (.inl rfl)
    refine ⟨θ', v, cv, h', nx', w', g1, g2, g3, g4, .inl ⟨hcf, ?_⟩⟩
    exact g5.trans (.one (step_leave_returned ⟨g6, g7, g8, fn', by rw [g9]; exact g10, g11⟩))
  | true =>
    obtain ⟨θ', v, cv, h', nx', w', fr, g1, g2, g3, g4, g5, g6, g7, g8, g9, fn', g10, g11⟩ := hB .deferred (c :: cs) (.inr ⟨rfl, c, cs, rfl, hdc rfl⟩)
    refine ⟨θ', v, cv, h', nx', w', g1, g2, g3, g4, .inl ⟨hcf, ?_⟩⟩
    refine g5.trans (.one (step_lone_go ?_))
    have hcm := hdc rfl
    simp [stepG, unwind, doReturn, g6, g7, g8, g9, g10, g11, hcm]

/-! ### rounds -/
theorem putsK_ok : ∀ (ps : List Nat) (args : List V) (vs : List Value) {fr : Fr} {e : Env} {tmps : Array Value}, VRs θ args vs → RR θ fr.n e tmps → ∀ {k : Env → Bool}, putsK ps fr args e k = true →
    ps.length = vs.length ∧ ∃ e', k e' = true ∧ RR θ fr.n e' ((ps.zip vs).foldl (fun (t : Array Value) (p : Nat × Value) => t.setIfInBounds p.1 p.2) tmps) := by
  intro ps
  induction ps with
  | nil =>
    intro args vs fr e tmps hv hr k hk
    cases hv with
    | nil => exact ⟨rfl, e, hk, hr⟩
    | cons _ _ _ _ _ _ => cases hk
  | cons p ps ih =>
    intro args vs fr e tmps hv hr k hk
    cases hv with
    | nil => cases hk
    | cons x args v vs hx ht =>
      have hk : iteK (Nat.blt p fr.n) (iteK (Nat.ble fr.n 256) ((setC p).f e x fun e => putsK ps fr args e k) false) false = true := hk
      obtain ⟨h1, h2⟩ := iteK_true hk
      obtain ⟨h3, h4⟩ := iteK_true h2
      rw [setC_eq] at h4
      rw [Nat.blt_eq] at h1
      obtain ⟨g1, e', g2, g3⟩ := ih args vs ht (hr.put h1 hx) h4
      exact ⟨by simp [g1], e', g2, g3⟩

theorem run_yield {l : Nat} {L : Loop} {vs : Array Value} (h : w.heap[l]? = some (.loop L)) (hs : vs.size = L.params.size) : (Instr.yield l vs).run P w = .ok (.round l L.fn ((L.params.zip vs).foldl (fun tmps (t, a) => tmps.setIfInBounds t a) L.tmps) L.assign L.body) w := by
  simp [Instr.yield, run_getLoop h, hs]

theorem end_ok {x : A} {l : Nat} {c : Option Code} {st : LoopState} {cx : Cx} {k : KC} (hm : MRx P θ cx.h cx.nx w) (hx : θ.ρ x = some l) (hst : st = if c.isNone then .ready else .done) (hk : endK x c st c.isNone cx k = true) :
    ∃ h' w', k (.b c.isNone) h' cx.nx = true ∧ MRx P θ h' cx.nx w' ∧ Fm θ (hget cx.h) w θ (hget h') w' ∧ (Instr.endRound l c).run P w = .ok (.bool c.isNone) w' := by
  obtain ⟨h, nx, ds, rnd⟩ := cx
  cases ds with
  | cons _ _ => cases hk
  | nil =>
    have hk : hloopK h x (fun _ _ fn0 n0 e0 p0 a0 b0 df => hsetK h x (some (.loop st c fn0 n0 e0 p0 a0 b0 df)) fun h => k (.b c.isNone) h nx) false = true := hk
    obtain ⟨st0, pd, fn, n, e', ps, as, bd, df, hb, h1⟩ := hloopK_true hk
    rw [hsetK_eq] at h1
    obtain ⟨o, g1, tmps, d, rfl, g2, g3⟩ := hm.blk x _ l hb hx
    have hS := MR.set hm hb rfl hx (b := .loop st c fn n e' ps as bd df) (o := .loop { state := st, pending := c, fn, tmps, params := ps.toArray, assign := as, body := bd, defers := d }) ⟨tmps, d, rfl, g2, g3⟩
      { w with heap := w.heap.setIfInBounds l (.loop { state := st, pending := c, fn, tmps, params := ps.toArray, assign := as, body := bd, defers := d }) } rfl rfl rfl rfl
    refine ⟨_, _, h1, by simp only [MRx, hget_hset_some]; exact hS.1, by simp only [hget_hset_some]; exact hS.2, ?_⟩
    subst hst
    simp [Instr.endRound, run_getLoop g1, run_setLoop g1]

/-- a round -/
theorem round_ok (hE : EvOk P ev) (hD : DrawOk P ev) {x : A} {l : Nat} {args : List V} {vs : Array Value} {h : Hp} {nx : A} {k : KC} (hk : roundK P ev x args h nx k = true) (hm : MRx P θ h nx w) (hx : θ.ρ x = some l) (hv : VRs θ args vs.toList) : RoundOk P θ h w l vs k := by
  unfold roundK at hk
  obtain ⟨st, pd, fn, n, e, ps, as, bd, df, hb, h1⟩ := hloopK_true hk
  obtain ⟨o, g1, tmps, d, rfl, g2, g3⟩ := hm.blk x _ l hb hx
  obtain ⟨hl, e1, h2, hrr⟩ := putsK_ok (fr := ⟨n, fn⟩) ps args vs.toList hv g2 h1
  have hfold : ((ps.toArray.zip vs).foldl (fun tmps (t, a) => tmps.setIfInBounds t a) tmps) = (ps.zip vs.toList).foldl (fun (t : Array Value) (p : Nat × Value) => t.setIfInBounds p.1 p.2) tmps := by
    rw [← Array.foldl_toList, Array.toList_zip]
  refine ⟨fn, _, as, bd, run_yield g1 (by simp [hl]), fun c cs => ?_⟩
  simp only [hfold]
  generalize (ps.zip vs.toList).foldl (fun (t : Array Value) (p : Nat × Value) => t.setIfInBounds p.1 p.2) tmps = T at hrr
  have hent : Frame.round l fn T as bd .normal = (Frame.round l fn T as bd .normal).atR { tmps := T, defers := [] } [.code as, .beginRound, .code bd] := rfl
  have hS : St P θ ⟨n, fn⟩ (Frame.round l fn T as bd .normal) { tmps := T, defers := [] } (c :: cs) e1 ⟨h, nx, [], some x⟩ w := ⟨hrr, hm, .nil, hx, rfl, .inl rfl⟩
  obtain ⟨θ1, a1, e2, cx1, w1, p1, p2, p3⟩ := comp_ok hE hD ⟨n, fn⟩ as h2 hS [.beginRound, .code bd]
  rcases p3 with ⟨q1, q2⟩ | ⟨_, _, q1, _⟩ | ⟨q1, _⟩
  · obtain ⟨H, NX, DS, RND⟩ := cx1
    have q1 : hloopK H x (fun st pd fn0 n0 e0 p0 a0 b0 df => loopK st
            (hsetK H x (some (.loop .busy pd fn0 n0 e0 p0 a0 b0 df)) fun h =>
              (comp P ⟨n, fn⟩ bd).f ev e2 ⟨h, NX, DS, RND⟩ (fun _ cx => endK x none .ready true cx k) (fun id _ cx => endK x (some (.exit id)) .done false cx k) (fun _ cx => endK x (some .ret) .done false cx k))
            false false) false = true := q1
    obtain ⟨st', pd', fn', n', e', ps', as', bd', df', hb', h3⟩ := hloopK_true q1
    have hx1 : θ1.ρ x = some l := (p2.le _ _ hx).1
    obtain ⟨o', f1, tmps', d', rfl, f2, f3⟩ := p1.mr.blk x _ l hb' hx1
    cases st' with
    | ready =>
      have h3 : hsetK H x (some (.loop .busy pd' fn' n' e' ps' as' bd' df')) (fun h =>
              (comp P ⟨n, fn⟩ bd).f ev e2 ⟨h, NX, DS, RND⟩ (fun _ cx => endK x none .ready true cx k) (fun id _ cx => endK x (some (.exit id)) .done false cx k) (fun _ cx => endK x (some .ret) .done false cx k)) = true := h3
      rw [hsetK_eq] at h3
      have hSet := MR.set p1.mr hb' rfl hx1 (b := .loop .busy pd' fn' n' e' ps' as' bd' df') (o := .loop { state := .busy, pending := pd', fn := fn', tmps := tmps', params := ps'.toArray, assign := as', body := bd', defers := d' }) ⟨tmps', d', rfl, f2, f3⟩
        { w1 with heap := w1.heap.setIfInBounds l (.loop { state := .busy, pending := pd', fn := fn', tmps := tmps', params := ps'.toArray, assign := as', body := bd', defers := d' }) } rfl rfl rfl rfl
      have hbeg : (Instr.beginRound l).run P w1 = .ok () { w1 with heap := w1.heap.setIfInBounds l (.loop { state := .busy, pending := pd', fn := fn', tmps := tmps', params := ps'.toArray, assign := as', body := bd', defers := d' }) } := by
        simp [Instr.beginRound, run_getLoop f1, run_setLoop f1]
      have hS2 : St P θ1 ⟨n, fn⟩ (Frame.round l fn T as bd .normal) a1 (c :: cs) e2 ⟨hset H x (some (.loop .busy pd' fn' n' e' ps' as' bd' df')), NX, DS, RND⟩ { w1 with heap := w1.heap.setIfInBounds l (.loop { state := .busy, pending := pd', fn := fn', tmps := tmps', params := ps'.toArray, assign := as', body := bd', defers := d' }) } :=
        ⟨p1.rr, by simp only [MRx, hget_hset_some]; exact hSet.1, p1.dr, p1.rnd, p1.fn, p1.nr⟩
      have hF2 : Fm θ1 (hget H) w1 θ1 (hget (hset H x (some (.loop .busy pd' fn' n' e' ps' as' bd' df')))) { w1 with heap := w1.heap.setIfInBounds l (.loop { state := .busy, pending := pd', fn := fn', tmps := tmps', params := ps'.toArray, assign := as', body := bd', defers := d' }) } := by
        simp only [hget_hset_some]; exact hSet.2
      obtain ⟨θ2, a2, e3, cx2, w2, r1, r2, r3⟩ := comp_ok hE hD ⟨n, fn⟩ bd h3 hS2 []
      have hx2 : θ2.ρ x = some l := (r2.le _ _ hx1).1
      have hgo : Steps P (lone (Frame.round l fn T as bd .normal) (c :: cs) w) (lone ((Frame.round l fn T as bd .normal).atR a1 [.code bd]) (c :: cs) { w1 with heap := w1.heap.setIfInBounds l (.loop { state := .busy, pending := pd', fn := fn', tmps := tmps', params := ps'.toArray, assign := as', body := bd', defers := d' }) }) :=
        q2.trans (.one (stepR_beginRound rfl hbeg))
      have hF := p2.trans (hF2.trans r2)
      rcases r3 with ⟨s1, s2⟩ | ⟨id, J, s1, s2, s3⟩ | ⟨s1, J, s2⟩
      · obtain ⟨h', w', t1, t2, t3, t4⟩ := end_ok (c := none) r1.mr hx2 rfl s1
        exact ⟨θ2, _, _, h', _, w', t1, VR.b _, t2, hF.trans t3, hgo.trans (s2.trans (.one (stepR_round_end rfl rfl t4)))⟩
      · obtain ⟨h', w', t1, t2, t3, t4⟩ := end_ok (c := some (.exit id)) r1.mr hx2 rfl s1
        exact ⟨θ2, _, _, h', _, w', t1, VR.b _, t2, hF.trans t3, hgo.trans (s3.trans (.one (stepR_round_exit rfl rfl s2 t4)))⟩
      · obtain ⟨h', w', t1, t2, t3, t4⟩ := end_ok (c := some .ret) r1.mr hx2 rfl s1
        exact ⟨θ2, _, _, h', _, w', t1, VR.b _, t2, hF.trans t3, hgo.trans (s2.trans (.one (stepR_round_ret rfl rfl t4)))⟩
    | busy => cases h3
    | done => cases h3
    | exhausted => cases h3
  · cases q1
  · cases q1

/-! ### the whole -/
/-- a summary tells what a function does -/
def SumOk (P : Program) (S : FuncId → Option (Clo ((List V → Hp → A → KC → Bool) → List V → Hp → A → KC → Bool))) : Prop :=
  ∀ g c, S g = some c → ∀ {nat : List V → Hp → A → KC → Bool}, (∀ {args h nx k θ w vs}, nat args h nx k = true → MRx P θ h nx w → VRs θ args (Array.toList vs) → CalleeN P θ h w g vs k) → ∀ {args h nx k θ w vs}, c.f nat args h nx k = true → MRx P θ h nx w → VRs θ args (Array.toList vs) → CalleeN P θ h w g vs k

theorem evN_ok {S : FuncId → Option (Clo ((List V → Hp → A → KC → Bool) → List V → Hp → A → KC → Bool))} (hS : SumOk P S) (hD : ∀ ev, EvOk P ev → DrawOk P ev) : ∀ n, EvOk P (evN P S n) := by
  intro n
  induction n with
  | zero => exact ⟨fun h => (by cases h), fun h => (by cases h), fun h => (by cases h), fun h => (by cases h)⟩
  | succ n ih =>
    have hd : DrawOk P (evN P S n) := hD (evN P S n) ih
    refine ⟨fun {g args h nx k θ w vs} hk hm hv => ?_, fun {x args h nx k θ w l vs} hk hm hx hv => round_ok ih hd hk hm hx hv, fun {g args h nx k θ w vs} hk hm hv => ?_, fun {fr body θ e cx kn kx kr w b a cs} hk hst K => ?_⟩
    · have hk : (calleeC P S g).f (evN P S n) args h nx k = true := hk
      unfold calleeC at hk
      cases hg : S g with
      | some c =>
        rw [hg] at hk
        simp only [Clo.on_f] at hk
        exact hS g c hg (fun hk hm hv => (fn_ok ih hd hk hm hv).n) hk hm hv
      | none =>
        rw [hg] at hk
        exact (fn_ok ih hd hk hm hv).n
    · have hk : (fnC P g).f (evN P S n) args h nx k = true := hk
      exact fn_ok ih hd hk hm hv
    · have hk : (comp P fr (.loop body)).f (evN P S n) e cx kn kx kr = true := hk
      exact Out.of_steps (.one stepR_inLoop) (inLoop_ok ih (comp_ok ih hd fr body) hk hst)
end
end Go.Ax

namespace Go.Ax
variable {P : Program}

/-! ### what goes on with one value alone -/
def Det {β : Type} (F : (β → Bool) → Bool) : Prop := ∀ k, F k = true → ∃ v, k v = true ∧ ∀ k', k' v = true → F k' = true

section
variable {β γ : Type}
theorem Det.ret (v : β) : Det (fun k => k v) := fun k h => ⟨v, h, fun _ h => h⟩
theorem Det.ff : Det (fun _ : β → Bool => false) := fun k h => by cases h
theorem Det.bind {D : (γ → Bool) → Bool} {G : γ → (β → Bool) → Bool} (hD : Det D) (hG : ∀ x, Det (G x)) : Det (fun k => D (fun x => G x k)) := fun k h => by
  obtain ⟨x, h1, h2⟩ := hD _ h
  obtain ⟨v, h3, h4⟩ := hG x _ h1
  exact ⟨v, h3, fun k' hk => h2 _ (h4 k' hk)⟩
theorem Det.ite {c : Bool} {F G : (β → Bool) → Bool} (hF : Det F) (hG : Det G) : Det (fun k => iteK c (F k) (G k)) := by
  cases c
  · exact hG
  · exact hF
theorem Det.frcN {n : Nat} {F : Nat → (β → Bool) → Bool} (hF : ∀ n, Det (F n)) : Det (fun k => forceN n (fun n => F n k)) := by simp only [forceN_eq]; exact hF n
theorem Det.frcB {n : Bool} {F : Bool → (β → Bool) → Bool} (hF : ∀ n, Det (F n)) : Det (fun k => forceB n (fun n => F n k)) := by simp only [forceB_eq]; exact hF n
theorem Det.asI {x : V} {F : Nat → (β → Bool) → Bool} {G : (β → Bool) → Bool} (hF : ∀ n, Det (F n)) (hG : Det G) : Det (fun k => Ax.asI x (fun n => F n k) (G k)) := by
  cases x <;> first | exact hG | exact hF _
theorem Det.asU {x : V} {F : IntKind → Nat → (β → Bool) → Bool} {G : (β → Bool) → Bool} (hF : ∀ kd n, Det (F kd n)) (hG : Det G) : Det (fun k => Ax.asU x (fun kd n => F kd n k) (G k)) := by
  cases x <;> first | exact hG | exact hF _ _
theorem Det.asN {x : V} {F : Nat → (β → Bool) → Bool} {F' : IntKind → Nat → (β → Bool) → Bool} {G : (β → Bool) → Bool} (hF : ∀ n, Det (F n)) (hF' : ∀ kd n, Det (F' kd n)) (hG : Det G) : Det (fun k => Ax.asN x (fun n => F n k) (fun kd n => F' kd n k) (G k)) := by
  cases x <;> first | exact hG | exact hF _ | exact hF' _ _
theorem Det.asB {x : V} {F : Bool → (β → Bool) → Bool} {G : (β → Bool) → Bool} (hF : ∀ n, Det (F n)) (hG : Det G) : Det (fun k => Ax.asB x (fun n => F n k) (G k)) := by
  cases x <;> first | exact hG | exact hF _
theorem Det.asS {x : V} {F : Nat → Nat → (β → Bool) → Bool} {G : (β → Bool) → Bool} (hF : ∀ l v, Det (F l v)) (hG : Det G) : Det (fun k => Ax.asS x (fun l v => F l v k) (G k)) := by
  cases x <;> first | exact hG | exact hF _ _
theorem Det.asP {x : V} {F : A → Nat → (β → Bool) → Bool} {G : (β → Bool) → Bool} (hF : ∀ l v, Det (F l v)) (hG : Det G) : Det (fun k => Ax.asP x (fun l v => F l v k) (G k)) := by
  cases x <;> first | exact hG | exact hF _ _
theorem Det.asPtr {x : V} {F : A → Nat → (β → Bool) → Bool} {N G : (β → Bool) → Bool} (hF : ∀ l v, Det (F l v)) (hN : Det N) (hG : Det G) : Det (fun k => Ax.asPtr x (fun l v => F l v k) (N k) (G k)) := by
  cases x <;> first | exact hG | exact hN | exact hF _ _
theorem Det.asSl {x : V} {F : A → Nat → Nat → Bool → Nat → (β → Bool) → Bool} {N Q G : (β → Bool) → Bool} (hF : ∀ x o l u c, Det (F x o l u c)) (hN : Det N) (hQ : Det Q) (hG : Det G) : Det (fun k => Ax.asSl x (fun x o l u c => F x o l u c k) (N k) (Q k) (G k)) := by
  cases x <;> first | exact hG | exact hN | exact hQ | exact hF _ _ _ _ _
theorem Det.asM {x : V} {F : A → (β → Bool) → Bool} {N G : (β → Bool) → Bool} (hF : ∀ x, Det (F x)) (hN : Det N) (hG : Det G) : Det (fun k => Ax.asM x (fun x => F x k) (N k) (G k)) := by
  cases x <;> first | exact hG | exact hN | exact hF _
theorem Det.asF {x : V} {F : FuncId → V → V → (β → Bool) → Bool} {Y : A → (β → Bool) → Bool} {N G : (β → Bool) → Bool} (hF : ∀ g a b, Det (F g a b)) (hY : ∀ x, Det (Y x)) (hN : Det N) (hG : Det G) : Det (fun k => Ax.asF x (fun g a b => F g a b k) (fun x => Y x k) (N k) (G k)) := by
  cases x <;> first | exact hG | exact hN | exact hY _ | exact hF _ _ _
theorem Det.asIf {x : V} {F : TypeId → V → (β → Bool) → Bool} {N G : (β → Bool) → Bool} (hF : ∀ t v, Det (F t v)) (hN : Det N) (hG : Det G) : Det (fun k => Ax.asIf x (fun t v => F t v k) (N k) (G k)) := by
  cases x <;> first | exact hG | exact hN | exact hF _ _
theorem Det.asAgg {x : V} {F : Nat → PT V → (β → Bool) → Bool} {G : (β → Bool) → Bool} (hF : ∀ l v, Det (F l v)) (hG : Det G) : Det (fun k => Ax.asAgg x (fun l v => F l v k) (G k)) := by
  cases x <;> first | exact hG | exact hF _ _
theorem Det.asTup {x : V} {F : V → (β → Bool) → Bool} {G : (β → Bool) → Bool} (hF : ∀ l, Det (F l)) (hG : Det G) : Det (fun k => Ax.asTup x (fun l => F l k) (G k)) := by
  cases x <;> first | exact hG | exact hF _
theorem Det.there {x : V} {F G : (β → Bool) → Bool} (hF : Det F) (hG : Det G) : Det (fun k => thereK x (F k) (G k)) := by
  cases x <;> first | exact hG | exact hF
theorem Det.cells {x : V} {F : Nat → PT V → (β → Bool) → Bool} {G : (β → Bool) → Bool} (hF : ∀ l v, Det (F l v)) (hG : Det G) : Det (fun k => cellsK x (fun l v => F l v k) (G k)) := by
  cases x <;> first | exact hG | exact hF _ _
theorem Det.kind {a b : IntKind} {F G : (β → Bool) → Bool} (hF : Det F) (hG : Det G) : Det (fun k => kindK a b (F k) (G k)) := Det.ite hF hG
theorem Det.getK {t : PT V} {n : Nat} {F : V → (β → Bool) → Bool} (hF : ∀ v, Det (F v)) : Det (fun k => PT.getK t n (fun v => F v k) false) := by
  simp only [PT.getK_eq]
  cases t.get n with
  | none => exact .ff
  | some v => exact hF v
theorem Det.moveK {cnt : Nat} {s : PT V} {so : Nat} {d : PT V} {at_ : Nat} {F : PT V → (β → Bool) → Bool} (hF : ∀ v, Det (F v)) : Det (fun k => Ax.moveK cnt s so d at_ (fun v => F v k) false) := by
  simp only [moveK_eq]
  cases s.move cnt so d at_ with
  | none => exact .ff
  | some v => exact hF v
theorem Det.subK {sz n : Nat} {t : PT V} {off : Nat} {F : PT V → (β → Bool) → Bool} (hF : ∀ v, Det (F v)) : Det (fun k => Ax.subK sz n t off (fun v => F v k) false) := by
  simp only [subK_eq]
  cases PT.sub sz n t off with
  | none => exact .ff
  | some v => exact hF v
theorem Det.vnth {l : V} {n : Nat} {F : V → (β → Bool) → Bool} (hF : ∀ v, Det (F v)) : Det (fun k => vnthK l n (fun v => F v k) false) := by
  simp only [vnthK_eq]
  cases l.nth n with
  | none => exact .ff
  | some v => exact hF v
theorem Det.idx {v : V} {top : Nat} {F : Nat → (β → Bool) → Bool} (hF : ∀ v, Det (F v)) : Det (fun k => idxK v top (fun v => F v k) false) :=
  Det.asN (fun n => Det.ite (Det.frcN fun i => Det.ite (hF _) .ff) .ff) (fun kd n => Det.ite (Det.frcN fun i => Det.ite (hF _) .ff) .ff) .ff
theorem Det.bnd {x : Option Operand} {e : Env} {d top : Nat} {F : Nat → (β → Bool) → Bool} (hF : ∀ v, Det (F v)) : Det (fun k => (bndC x).f e d top (fun v => F v k)) := by
  cases x with
  | none => exact hF d
  | some x => simp only [bndC, Clo.on_f, opndC_eq]; exact Det.idx hF
theorem Det.opnd {x : Operand} {e : Env} {F : V → (β → Bool) → Bool} (hF : ∀ v, Det (F v)) : Det (fun k => (opndC x).f e (fun v => F v k)) := by simp only [opndC_eq]; exact hF _
theorem Det.opnds {l : List Operand} {e : Env} {F : V → (β → Bool) → Bool} (hF : ∀ v, Det (F v)) : Det (fun k => (opndsC l).f e (fun v => F v k)) := by simp only [opndsC_eq]; exact hF _
theorem Det.puts {n : Nat} {e : Env} : ∀ {ps : List (Nat × Nat × Operand)} {t : PT V} {F : PT V → (β → Bool) → Bool} (hF : ∀ v, Det (F v)), Det (fun k => (putsC n ps).f e t (fun v => F v k)) := by
  intro ps
  induction ps with
  | nil => intro t F hF; exact hF t
  | cons p ps ih =>
    intro t F hF
    obtain ⟨off, sz, x⟩ := p
    simp only [putsC]
    cases Nat.ble (off + sz) n with
    | false => exact .ff
    | true =>
      simp only [cond_true, Clo.on_f, opndC_eq]
      exact Det.cells (fun m t => Det.ite (Det.moveK fun l => ih hF) .ff) .ff
theorem Det.part {n : Nat} {t : PT V} {off sz : Nat} {ag : Bool} {F : V → (β → Bool) → Bool} (hF : ∀ v, Det (F v)) : Det (fun k => partK n t off sz ag (fun v => F v k) false) := by
  unfold partK
  exact Det.ite (Det.subK fun v => hF _) (Det.getK fun v => hF v)
theorem Det.retB {ne q : Bool} {F : V → (β → Bool) → Bool} (hF : ∀ v, Det (F v)) : Det (fun k => Ax.retB ne q (fun v => F v k)) := Det.frcB fun r => hF _
theorem Det.cmp {t : Nat → Nat → Bool} {x y : V} {F : V → (β → Bool) → Bool} (hF : ∀ v, Det (F v)) : Det (fun k => cmpV t x y (fun v => F v k)) :=
  Det.asI (fun a => Det.asI (fun b => Det.frcB fun r => hF _) .ff) (Det.asU (fun ka a => Det.asU (fun kb b => Det.kind (Det.frcB fun r => hF _) .ff) .ff) .ff)
theorem Det.ari {q : Nat → Nat → Nat} {g : IntKind → Int → Int → Int} {x y : V} {F : V → (β → Bool) → Bool} (hF : ∀ v, Det (F v)) : Det (fun k => ariV q g x y (fun v => F v k)) :=
  Det.asI (fun a => Det.asI (fun b => Det.frcN fun r => hF _) .ff) (Det.asU (fun ka a => Det.asU (fun kb b => Det.kind (Det.frcN fun r => hF _) .ff) .ff) .ff)
theorem Det.two {x y : V} {F : IntKind → Nat → Nat → (β → Bool) → Bool} (hF : ∀ kd a b, Det (F kd a b)) : Det (fun k => twoN x y (fun kd a b => F kd a b k)) :=
  Det.asN (fun a => Det.asN (fun b => hF _ _ _) (fun _ b => hF _ _ _) .ff) (fun ka a => Det.asN (fun b => hF _ _ _) (fun _ b => hF _ _ _) .ff) .ff
theorem Det.mk {kd : IntKind} {n : Nat} {F : V → (β → Bool) → Bool} (hF : ∀ v, Det (F v)) : Det (fun k => mkI kd n (fun v => F v k)) := by
  unfold mkI
  refine Det.frcN fun n => ?_
  cases kd <;> exact hF _
theorem Det.slNil {v : V} {F : Bool → (β → Bool) → Bool} (hF : ∀ q, Det (F q)) : Det (fun k => nilSl v (fun q => F q k)) := Det.asSl (fun _ _ _ _ _ => hF _) (hF _) (hF _) .ff
theorem Det.mNil {v : V} {F : Bool → (β → Bool) → Bool} (hF : ∀ q, Det (F q)) : Det (fun k => nilM v (fun q => F q k)) := Det.asM (fun _ => hF _) (hF _) .ff
theorem Det.fNil {v : V} {F : Bool → (β → Bool) → Bool} (hF : ∀ q, Det (F q)) : Det (fun k => nilF v (fun q => F q k)) := Det.asF (fun _ _ _ => hF _) (fun _ => hF _) (hF _) .ff
theorem Det.ifNil {v : V} {F : Bool → (β → Bool) → Bool} (hF : ∀ q, Det (F q)) : Det (fun k => nilIf v (fun q => F q k)) := Det.asIf (fun _ _ => hF _) (hF _) .ff
theorem Det.nilEq {nk : V → (Bool → Bool) → Bool} (hn : ∀ {v : V} {F : Bool → (β → Bool) → Bool}, (∀ q, Det (F q)) → Det (fun k => nk v (fun q => F q k))) {ne : Bool} {x y : V} {F : V → (β → Bool) → Bool} (hF : ∀ v, Det (F v)) : Det (fun k => nilEqV nk ne x y (fun v => F v k)) :=
  hn fun a => hn fun b => Det.ite (Det.retB hF) (Det.ite (Det.retB hF) .ff)
theorem Det.eqP {ne : Bool} {x y : V} {F : V → (β → Bool) → Bool} (hF : ∀ v, Det (F v)) : Det (fun k => eqPV ne x y (fun v => F v k)) :=
  Det.asPtr (fun a i => Det.asPtr (fun b j => Det.ite (Det.retB hF) .ff) (Det.retB hF) .ff) (Det.asPtr (fun _ _ => Det.retB hF) (Det.retB hF) .ff) .ff
theorem Det.eq {ne : Bool} {t : TypeId} {x y : V} {F : V → (β → Bool) → Bool} (hF : ∀ v, Det (F v)) : Det (fun k => (eqV P ne t).f x y (fun v => F v k)) := by
  unfold eqV
  split
  · cases ne <;> exact Det.cmp hF
  · exact Det.asB (fun a => Det.asB (fun b => Det.retB hF) .ff) .ff
  · exact Det.asS (fun l a => Det.asS (fun m b => Det.retB hF) .ff) .ff
  · split
    · exact Det.eqP hF
    · exact .ff
  · exact Det.nilEq (nk := nilSl) (fun h => Det.slNil h) hF
  · exact Det.nilEq (nk := nilM) (fun h => Det.mNil h) hF
  · exact Det.nilEq (nk := nilF) (fun h => Det.fNil h) hF
  · exact Det.nilEq (nk := nilIf) (fun h => Det.ifNil h) hF
  · exact .ff
theorem Det.addS {x y : V} {F : V → (β → Bool) → Bool} (hF : ∀ v, Det (F v)) : Det (fun k => Ax.asS x (fun l a => Ax.asS y (fun m b => forceN (Nat.add l m) fun n => iteK (Nat.ble n 1048576) (forceN (Nat.add a (Nat.mul b (Nat.pow 256 l))) fun v => F (.s n v) k) false) false) false) :=
  Det.asS (fun l a => Det.asS (fun m b => Det.frcN fun n => Det.ite (Det.frcN fun v => hF _) .ff) .ff) .ff
theorem Det.add {t : TypeId} {x y : V} {F : V → (β → Bool) → Bool} (hF : ∀ v, Det (F v)) : Det (fun k => (binV P .add t).f x y (fun v => F v k)) := by
  unfold binV
  simp only
  split
  · simp only; exact Det.addS hF
  · simp only; exact Det.ari hF
theorem Det.bin {op : BinOp} {t : TypeId} {x y : V} {F : V → (β → Bool) → Bool} (hF : ∀ v, Det (F v)) : Det (fun k => (binV P op t).f x y (fun v => F v k)) := by
  by_cases ha : op = .add
  · subst ha; exact Det.add hF
  cases op <;> unfold binV <;> simp only <;> first
    | exact absurd rfl ha
    | exact Det.eq hF
    | exact Det.cmp hF
    | exact Det.ari hF
    | exact Det.two fun kd a b => Det.ite .ff (Det.ari hF)
    | exact Det.two fun kd a b => Det.ite (Det.mk hF) .ff
theorem Det.un {op : UnOp} {x : V} {F : V → (β → Bool) → Bool} (hF : ∀ v, Det (F v)) : Det (fun k => (unV op).f x (fun v => F v k)) := by
  cases op <;> unfold unV <;> simp only <;> first
    | exact .ff
    | exact Det.asB (fun a => Det.frcB fun r => hF _) .ff
    | exact Det.asN (fun a => Det.frcN fun r => hF _) (fun kd a => Det.frcN fun r => hF _) .ff
end

theorem det_pure {e : Env} : ∀ (o : Op), Det ((pureC P o).f e) := by
  intro o
  cases o with
  | move x => exact Det.opnd fun v => .ret v
  | assign x => exact Det.opnd fun v => .ret v
  | pick c a b => simp only [pureC, Clo.on_f]; exact Det.opnd fun v => Det.asB (fun x => Det.ite (Det.opnd fun v => .ret v) (Det.opnd fun v => .ret v)) .ff
  | binOp op t x y ty =>
    unfold pureC
    simp only
    cases ifaceOk P t x y with
    | false => exact .ff
    | true => simp only [cond_true, Clo.on_f]; exact Det.opnd fun a => Det.opnd fun b => Det.bin fun v => .ret v
  | unOp op t x => simp only [pureC, Clo.on_f]; exact Det.opnd fun a => Det.un fun v => .ret v
  | nilCheck x => simp only [pureC, Clo.on_f]; exact Det.opnd fun a => Det.there (.ret a) .ff
  | convert s d x =>
    unfold pureC
    simp only
    split
    · simp only [Clo.on_f]; exact Det.opnd fun a => Det.asN (fun n => Det.frcN fun n => .ret _) (fun _ n => Det.frcN fun n => .ret _) .ff
    · simp only [Clo.on_f]; exact Det.opnd fun a => Det.asN (fun n => Det.frcN fun n => .ret _) (fun _ n => Det.frcN fun n => .ret _) .ff
    · simp only [Clo.on_f]; exact Det.opnd fun a => Det.asS (fun l v => .ret _) .ff
    · exact .ff
  | fieldAddr s x i =>
    unfold pureC
    simp only
    split
    · simp only [Clo.on_f]; exact Det.opnd fun a => Det.asP (fun b o => .ret _) .ff
    · simp only [Clo.on_f]; exact Det.opnd fun a => Det.asP (fun b o => Det.frcN fun o => .ret _) .ff
    · exact .ff
  | field s x i =>
    unfold pureC
    simp only
    split
    · simp only [Clo.on_f]; exact Det.opnd fun a => Det.asAgg (fun n t => Det.part fun v => .ret v) .ff
    · exact .ff
  | indexAddr t x ix =>
    unfold pureC
    simp only
    split
    · split
      · simp only [Clo.on_f]; exact Det.opnd fun a => Det.opnd fun i => Det.asSl (fun b o l _ _ => Det.idx fun i => Det.ite (Det.frcN fun o => .ret _) .ff) .ff .ff .ff
      · exact .ff
    · split
      · simp only [Clo.on_f]; exact Det.opnd fun a => Det.opnd fun i => Det.asP (fun b o => Det.idx fun i => Det.ite (Det.frcN fun o => .ret _) .ff) .ff
      · exact .ff
    · exact .ff
  | index t x ix =>
    unfold pureC
    simp only
    split
    · simp only [Clo.on_f]; exact Det.opnd fun a => Det.opnd fun i => Det.asS (fun l v => Det.idx fun i => Det.ite (Det.frcN fun n => .ret _) .ff) .ff
    · split
      · simp only [Clo.on_f]; exact Det.opnd fun a => Det.opnd fun i => Det.asAgg (fun n c => Det.idx fun i => Det.ite (Det.frcN fun o => Det.part fun v => .ret v) .ff) .ff
      · exact .ff
    · exact .ff
  | extract x i => simp only [pureC, Clo.on_f]; exact Det.opnd fun a => Det.asTup (fun l => Det.vnth fun v => .ret v) .ff
  | makeFunc fn first cap =>
    cases fn with
    | func g => simp only [pureC, Clo.on_f]; exact Det.opnds fun a => Det.opnds fun b => .ret _
    | _ => exact .ff
  | makeInterface t x =>
    unfold pureC
    simp only
    split
    · exact .ff
    · simp only [Clo.on_f]; exact Det.opnd fun a => .ret _
    · exact .ff
  | build t parts =>
    unfold pureC
    simp only
    split
    · rename_i fs _
      cases (fs.toList.all fun f => (sizeT P f.type).isSome) with
      | false => exact .ff
      | true =>
        simp only [cond_true]
        split
        · simp only [Clo.on_f]; exact Det.puts fun t => .ret _
        · exact .ff
    · split
      · simp only [Clo.on_f]; exact Det.puts fun t => .ret _
      · exact .ff
    · exact .ff
  | slice t x lo hi mx =>
    unfold pureC
    simp only
    split
    · split
      · exact .ff
      · simp only [Clo.on_f]; exact Det.opnd fun a => Det.asS (fun len v => Det.bnd fun h => Det.bnd fun l => Det.frcN fun n => Det.frcN fun v => .ret _) .ff
    · split
      · simp only [Clo.on_f]; exact Det.opnd fun a => Det.asP (fun b o => Det.bnd fun h => Det.bnd fun l => Det.frcN fun n => Det.frcN fun c => Det.frcN fun o => .ret _) .ff
      · exact .ff
    · exact .ff
  | call c =>
    unfold pureC
    simp only
    split
    · split
      · simp only [Clo.on_f]; exact Det.opnd fun a => Det.asS (fun l _ => Det.frcN fun n => .ret _) .ff
      · simp only [Clo.on_f]; exact Det.opnd fun a => Det.asSl (fun _ _ l _ _ => Det.frcN fun n => .ret _) (.ret _) (.ret _) .ff
      · exact .ret _
      · exact .ff
    · split
      · simp only [Clo.on_f]; exact Det.opnd fun a => Det.asSl (fun _ _ _ u c => Det.ite .ff (Det.frcN fun n => .ret _)) (.ret _) .ff .ff
      · exact .ff
    · simp only [Clo.on_f]; exact Det.opnd fun a => Det.opnd fun b => Det.cmp fun r => Det.asB (fun r => Det.ite (.ret _) (.ret _)) .ff
    · simp only [Clo.on_f]; exact Det.opnd fun a => Det.opnd fun b => Det.cmp fun r => Det.asB (fun r => Det.ite (.ret _) (.ret _)) .ff
    · exact .ff
  | _ => exact .ff
end Go.Ax

namespace Go.Ax
variable {P : Program}

/-! ### what only computes, what only reads -/
section
variable {e : Env} {o : Op} {ty : TypeId} {ev ev' : Ev} {h h' : Hp} {nx nx' : A} {ds ds' : List D} {rnd rnd' : Option A} {k : V → Cx → Bool}

theorem kind_conv {s d : TypeId} {x : Operand} {n : Nat} (h : kindO (.convert s d x) = n) : (bytesStr s d = false ∧ n = 0) ∨ (bytesStr s d = true ∧ n = 3) := by
  have h : (bif bytesStr s d then 3 else 0) = n := h
  cases hq : bytesStr s d with
  | false => rw [hq] at h; exact .inl ⟨rfl, h.symm⟩
  | true => rw [hq] at h; exact .inr ⟨rfl, h.symm⟩

theorem operC_pure {o : Oper} (hk : kindO o.op = 0) : (operC P o).f ev e ⟨h, nx, ds, rnd⟩ k = (pureC P o.op).f e (fun v => k v ⟨h, nx, ds, rnd⟩) := by
  obtain ⟨dst, op, ty, pos, aft, g⟩ := o
  simp only at hk
  unfold operC
  cases op with
  | makeMap t r => cases r <;> cases hk
  | call c =>
    exfalso
    unfold kindO at hk
    simp only at hk
    split at hk <;> cases hk
  | alloc _ => cases hk
  | box _ _ => cases hk
  | buildSlice _ _ _ => cases hk
  | load _ _ => cases hk
  | store _ _ _ => cases hk
  | makeSlice _ _ _ => cases hk
  | slice _ _ _ _ _ => cases hk
  | lookup _ _ _ _ => cases hk
  | mapUpdate _ _ _ _ => cases hk
  | defer c => cases hk
  | convert s d x =>
    rcases kind_conv hk with ⟨h, _⟩ | ⟨_, h⟩
    · simp only [h, cond_false, Clo.on_f]
    · cases h
  | _ => simp only [Clo.on_f]

/-- a read, with what it is not about left out -/
noncomputable def readR (P : Program) (o : Oper) (e : Env) (h : Hp) (κ : V → Bool) : Bool := match o.op with
  | .load t a => (opndC a).f e fun a => (loadC P false t).f a h κ
  | .lookup t x ix ok => (lookC P t x ix ok).f e h κ
  | .slice t x lo hi mx => (sliceC P t x lo hi mx).f ⟨fun _ _ _ _ _ _ _ => false, fun _ _ _ _ _ => false, fun _ _ _ _ _ => false, fun _ _ _ _ _ => false⟩ e ⟨h, ⟨.d0, .d0, .d0, .d0⟩, [], none⟩ (fun v _ => κ v)
  | .call c => match c.callee, c.args.toList with
    | .builtin .len, [x] => match argD P c 0 with
      | some (.map ..) => asM (opnd e x) (fun b => hmapK h b (fun es => lenE es B63 fun n => κ (.i n)) false) (κ (.i B63)) false
      | _ => (pureC P o.op).f e κ
    | _, _ => (pureC P o.op).f e κ
  | _ => false

theorem sliceC_any {t : TypeId} {x : Operand} {lo hi mx : Option Operand} : (sliceC P t x lo hi mx).f ev e ⟨h, nx, ds, rnd⟩ k = (sliceC P t x lo hi mx).f ev' e ⟨h, nx', ds', rnd'⟩ (fun v _ => k v ⟨h, nx, ds, rnd⟩) := by
  unfold sliceC
  split
  · split
    · rfl
    · split
      · simp only [Clo.on_f, cxH_eq]
      · split
        · rfl
        · simp only [Clo.on_f]
  · simp only [Clo.on_f]

theorem operC_read {o : Oper} (hk : kindO o.op = 1) : (operC P o).f ev e ⟨h, nx, ds, rnd⟩ k = readR P o e h (fun v => k v ⟨h, nx, ds, rnd⟩) := by
  obtain ⟨dst, op, ty, pos, aft, g⟩ := o
  simp only at hk
  unfold operC readR
  cases op with
  | load t a => simp only [Clo.on_f, cxH_eq]
  | lookup t x ix ok => simp only [Clo.on_f, cxH_eq]
  | slice t x lo hi mx => exact sliceC_any
  | call c =>
    simp only
    unfold callC
    unfold kindO at hk
    simp only at hk
    obtain ⟨callee, args, tys⟩ := c
    cases callee with
    | value f => cases hk
    | invoke r m => cases hk
    | builtin b =>
      cases b <;> first | (cases hk; done) | skip
      all_goals
        generalize hl : args.toList = l
        simp only
        rcases l with _ | ⟨x, _ | ⟨y, l⟩⟩ <;> first
          | (simp only [Clo.on_f]; done)
          | (simp only; generalize argD P _ 0 = D; rcases D with _ | d <;> first | (simp only [Clo.on_f]; done) | (cases d <;> simp only [Clo.on_f, cxH_eq, opndC_eq]))
  | makeMap t r => cases r <;> cases hk
  | convert s d x => rcases kind_conv hk with ⟨_, h⟩ | ⟨_, h⟩ <;> cases h
  | _ => cases hk

theorem det_find {q : V → V → (Bool → Bool) → Bool → Bool} (hq : ∀ {x y : V} {F : Bool → (V → Bool) → Bool}, (∀ r, Det (F r)) → Det (fun κ => q x y (fun r => F r κ) false)) {key : V} {F : V → (V → Bool) → Bool} {N : (V → Bool) → Bool} (hF : ∀ v, Det (F v)) (hN : Det N) : ∀ (es : List (V × V)), Det (fun κ => findE q key es (fun v => F v κ) (N κ) false) := by
  intro es
  induction es with
  | nil => exact hN
  | cons p es ih =>
    obtain ⟨a, v⟩ := p
    exact hq (F := fun r κ => iteK r (F v κ) (findE q key es (fun v => F v κ) (N κ) false)) fun r => Det.ite (hF v) ih

theorem det_eqI {x y : V} {F : Bool → (V → Bool) → Bool} (hF : ∀ r, Det (F r)) : Det (fun κ => eqIK x y (fun r => F r κ) false) :=
  Det.asI (fun a => Det.asI (fun b => Det.frcB hF) .ff) (Det.asU (fun ka a => Det.asU (fun kb b => Det.kind (Det.frcB hF) .ff) .ff) .ff)
theorem det_eqS {x y : V} {F : Bool → (V → Bool) → Bool} (hF : ∀ r, Det (F r)) : Det (fun κ => eqSK x y (fun r => F r κ) false) :=
  Det.asS (fun l a => Det.asS (fun m b => Det.ite (Det.frcB hF) (hF _)) .ff) .ff
theorem det_cellsEq {s t : PT V} {F : Bool → (V → Bool) → Bool} (hF : ∀ r, Det (F r)) : ∀ (n i : Nat), Det (fun κ => cellsEqK s t n i (fun r => F r κ) false) := by
  intro n
  induction n with
  | zero => intro i; exact hF true
  | succ n ih => intro i; exact Det.getK fun a => Det.getK fun b => det_eqI fun q => Det.ite (ih _) (hF _)
theorem det_keyQ {c : Nat} {x y : V} {F : Bool → (V → Bool) → Bool} (hF : ∀ r, Det (F r)) : Det (fun κ => keyQ c x y (fun r => F r κ) false) := by
  rcases c with _ | _ | n
  · exact det_eqI hF
  · exact det_eqS hF
  · exact Det.asAgg (fun m s => Det.asAgg (fun m' t => Det.ite (Det.ite (det_cellsEq hF _ _) .ff) .ff) .ff) .ff

theorem det_hread {h : Hp} {x : A} {F : Nat → PT V → (V → Bool) → Bool} (hF : ∀ n t, Det (F n t)) : Det (fun κ => hreadK h x (fun n t => F n t κ) false) := by
  simp only [hreadK_eq]
  split
  · exact hF _ _
  · exact hF _ _
  · exact .ff
theorem det_hcells {h : Hp} {x : A} {F : Nat → Bool → Nat → PT V → (V → Bool) → Bool} (hF : ∀ n g s t, Det (F n g s t)) : Det (fun κ => hcellsK h x (fun n g s t => F n g s t κ) false) := by
  simp only [hcellsK_eq]
  split
  · exact hF _ _ _ _
  · exact .ff
theorem det_hmap {h : Hp} {x : A} {F : List (V × V) → (V → Bool) → Bool} (hF : ∀ es, Det (F es)) : Det (fun κ => hmapK h x (fun es => F es κ) false) := by
  simp only [hmapK_eq]
  split
  · exact hF _
  · exact .ff

theorem det_okV {ok q : Bool} {v : V} : Det (fun κ => okV ok v q κ) := Det.ite (.ret _) (.ret _)

theorem det_slice {t : TypeId} {x : Operand} {lo hi mx : Option Operand} : Det (fun κ => (sliceC P t x lo hi mx).f ev e ⟨h, nx, ds, rnd⟩ (fun v _ => κ v)) := by
  unfold sliceC
  split
  · split
    · exact .ff
    · split
      · simp only [Clo.on_f, cxH_eq]
        exact Det.opnd fun a => Det.asSl
          (fun b o len u c => Det.ite (det_hcells fun n g bz _ => Det.ite (Det.frcN fun top => Det.bnd fun h => Det.bnd fun l => Det.ite (.ret _) (Det.ite (Det.frcN fun o => Det.frcN fun n => Det.frcN fun c => .ret _) (.ret _))) .ff)
            (Det.bnd fun h => Det.bnd fun l => Det.frcN fun n => Det.frcN fun c => Det.frcN fun o => .ret _))
          (Det.bnd fun h => Det.bnd fun _ => .ret _) (Det.bnd fun h => Det.bnd fun _ => .ret _) .ff
      · split
        · exact .ff
        · simp only [Clo.on_f]
          exact Det.opnd fun a => Det.asSl
            (fun b o len u c => Det.opnd fun m => Det.idx fun m => Det.opnd fun h => Det.idx fun h => Det.bnd fun l => Det.ite .ff (Det.frcN fun n => Det.frcN fun c => Det.frcN fun o => .ret _))
            (Det.opnd fun m => Det.idx fun m => Det.opnd fun h => Det.idx fun h => Det.bnd fun _ => .ret _) (Det.opnd fun m => Det.idx fun m => Det.opnd fun h => Det.idx fun h => Det.bnd fun _ => .ret _) .ff
  · simp only [Clo.on_f]
    exact det_pure _

theorem det_read {o : Oper} : Det (readR P o e h) := by
  obtain ⟨dst, op, ty, pos, aft, g⟩ := o
  unfold readR
  cases op with
  | load t a =>
    simp only
    refine Det.opnd fun a => ?_
    unfold loadC
    split
    · exact Det.asP (fun b o => det_hread fun n tr => Det.subK fun t => .ret _) .ff
    · exact Det.asP (fun b o => det_hread fun n tr => Det.getK fun t => .ret _) .ff
    · exact .ff
  | lookup t x ix ok =>
    simp only
    unfold lookC
    split
    · split
      · rename_i c z _ _
        simp only [Clo.on_f]
        refine Det.opnd fun a => Det.opnd fun i => ?_
        have hb : Det (fun κ => asM a (fun b => hmapK h b (fun es => findE (keyQ c) i es (fun v => okV ok v true κ) (okV ok z false κ) false) false) (okV ok z false κ) false) :=
          Det.asM (fun b => det_hmap fun es => det_find (fun hF => det_keyQ hF) (fun v => det_okV) det_okV es) det_okV .ff
        rcases c with _ | _ | n
        · exact hb
        · exact hb
        · exact Det.asAgg (fun m _ => Det.ite hb .ff) .ff
      · exact .ff
    · exact .ff
  | slice t x lo hi mx => exact det_slice
  | call c =>
    simp only
    split
    · split
      · simp only [lenE_eq]
        exact Det.asM (fun b => det_hmap fun es => .ret _) (.ret _) .ff
      · exact det_pure _
    · exact det_pure _
  | _ => exact .ff

/-- it reads: so the model does, and leaves the world alone -/
theorem rd_ok {θ : Th} {a : Act} {w : World} {o : Oper} (hkd : kindO o.op = 0 ∨ kindO o.op = 1) (hm : MRx P θ h nx w) (ho : ∀ x ∈ o.op.operands.toList, VR θ (opnd e x) (a.eval x)) (hk : (operC P o).f ev e ⟨h, nx, ds, rnd⟩ k = true) : RdOk P θ w (execOp a.eval o) (fun v => k v ⟨h, nx, ds, rnd⟩) := by
  rcases hkd with hkd | hkd
  · rw [operC_pure hkd] at hk
    exact RdOk.of_pure (pure_ok ho hk)
  · rw [operC_read hkd] at hk
    obtain ⟨dst, op, ty, pos, aft, g⟩ := o
    simp only at hkd ho
    unfold readR at hk
    cases op with
    | load t x =>
      simp only [opndC_eq] at hk
      exact rd_load rfl hm (ho x (by simp [Op.operands])) hk
    | lookup t x ix ok => exact rd_lookup rfl hm (ho x (by simp [Op.operands])) (ho ix (by simp [Op.operands])) hk
    | slice t x lo hi mx =>
      exact rd_sliceC (ev := ev) (ds := ds) (rnd := rnd) (k := k) rfl hm (ho x (by simp [Op.operands])) (fun y hy => ho y (by subst hy; simp [Op.operands])) (fun y hy => ho y (by subst hy; simp [Op.operands])) (fun y hy => ho y (by subst hy; simp [Op.operands]))
        (by rw [sliceC_any (ev' := ⟨fun _ _ _ _ _ _ _ => false, fun _ _ _ _ _ => false, fun _ _ _ _ _ => false, fun _ _ _ _ _ => false⟩) (nx' := ⟨.d0, .d0, .d0, .d0⟩) (ds' := []) (rnd' := none)]; exact hk)
    | call c =>
      have hargs : ∀ x ∈ c.args.toList, VR θ (opnd e x) (a.eval x) := fun x hx => ho x (by simp only [Op.operands, Call.operands]; rw [Array.toList_append]; exact List.mem_append_right _ hx)
      have pure_case : (pureC P (.call c)).f e (fun v => k v ⟨h, nx, ds, rnd⟩) = true → RdOk P θ w (execOp a.eval ⟨dst, .call c, ty, pos, aft, g⟩) (fun v => k v ⟨h, nx, ds, rnd⟩) := fun hk => RdOk.of_pure (ok_builtin (o := ⟨dst, .call c, ty, pos, aft, g⟩) rfl hargs hk)
      simp only at hk
      split at hk
      · rename_i x hcal hl
        split at hk
        · rename_i kt el hd
          exact rd_len rfl hcal hl hm (hargs x (by simp [hl])) hd hk
        · exact pure_case hk
      · exact pure_case hk
    | makeMap t r => cases r <;> cases hkd
    | convert s d x => rcases kind_conv hkd with ⟨_, h⟩ | ⟨_, h⟩ <;> cases h
    | _ => cases hkd
end

/-! ### what makes a block -/
section
variable {e : Env} {ev : Ev} {h : Hp} {nx : A} {ds : List D} {rnd : Option A}

/-- the block that is made, and what stands for it in the model -/
structure Made (P : Program) (θ : Th) (a : Act) (o : Oper) (nx : A) (v : V) (blk : B) : Prop where
  run : ∃ (obj : Obj) (cv : Nat → Value), (∀ w, (execOp a.eval o).run P w = .ok (.value (cv w.heap.size)) (World.put w obj)) ∧
    ∀ θ' r, θ.le θ' → θ'.ρ nx = some r → BR θ' nx blk obj ∧ VR θ' v (cv r)
  rw : blk.isRo = false

theorem Made.cells {θ : Th} {a : Act} {o : Oper} {v : V} {n : Nat} {tr : PT V} {c : Array Value} {el : TypeId} {tg : Nat} (htg : Tag false tg el) (ht : TR θ n tr c) {s : Sem Value} (cv : Nat → Value) (hrun : ∀ w, s.run P w = .ok (cv w.heap.size) (World.put w (.cells c el)))
    (hv : ∀ θ' r, θ'.ρ nx = some r → VR θ' v (cv r)) (he : execOp a.eval o = (do pure (.value (← s)))) : Made P θ a o nx v (.cells n false tg tr) :=
  ⟨⟨_, cv, fun w => by rw [he]; exact run_v (hrun w), fun θ' r hle hr => ⟨⟨c, ⟨el, htg⟩, rfl, ht.2.1, fun j v hj => ⟨(ht.2.2 j v hj).1, (ht.2.2 j v hj).2.mono hle⟩, by rw [ht.1]; exact Nat.le_refl _, fun _ => ht.1, fun e => by cases e⟩, hv θ' r hr⟩⟩, rfl⟩

theorem run_newRow {el : TypeId} {c : Array Value} (w : World) : (newRow el c).run P w = .ok ⟨w.heap.size, 0, none⟩ (World.put w (.cells c el)) := by simp [newRow, newObj, Sem.run, World.put]

/-- an operation that makes a block, in the executor: one block, at the next address -/
theorem alloc_shape {o : Oper} (hkd : kindO o.op = 2) : Det (fun (κ : V × Cx → Bool) => (operC P o).f ev e ⟨h, nx, ds, rnd⟩ (fun v cx => κ (v, cx))) ∧
    ∀ {k : V → Cx → Bool}, (operC P o).f ev e ⟨h, nx, ds, rnd⟩ k = true → ∃ v blk ny, nx.next = some ny ∧ k v ⟨hset h nx (some blk), ny, ds, rnd⟩ = true := by
  have new : ∀ {v : V} {blk : B}, Det (fun (κ : V × Cx → Bool) => newK h nx blk (fun h' nx' => κ (v, ⟨h', nx', ds, rnd⟩)) false) := fun {v blk} => by
    simp only [newK_eq]
    cases nx.next with
    | none => exact .ff
    | some y => exact .ret _
  have new2 : ∀ {v : V} {blk : B} {k : V → Cx → Bool}, newK h nx blk (fun h' nx' => k v ⟨h', nx', ds, rnd⟩) false = true → ∃ v blk ny, nx.next = some ny ∧ k v ⟨hset h nx (some blk), ny, ds, rnd⟩ = true := fun {v blk k} hk => by
    obtain ⟨ny, hy, h1⟩ := newK_true hk
    exact ⟨v, blk, ny, hy, h1⟩
  obtain ⟨dst, op, ty, pos, aft, g⟩ := o
  simp only at hkd
  unfold operC
  cases op with
  | alloc t =>
    simp only [Clo.on_f]
    unfold allocC
    split
    · exact ⟨new, new2⟩
    · exact ⟨.ff, fun hk => by cases hk⟩
  | box t x =>
    simp only [Clo.on_f, opndC_eq]
    refine ⟨Det.cells (fun n tr => new) .ff, fun hk => ?_⟩
    obtain ⟨n, tr, hc, h1⟩ := cellsK_true (k := fun n tr => _) hk
    exact new2 h1
  | buildSlice t len parts =>
    simp only
    unfold buildSliceC
    split
    · split
      · rename_i el _ sz zn z _ _
        cases hb : (Nat.beq sz zn && Nat.ble (Nat.mul len sz) 65536) with
        | false => exact ⟨.ff, fun hk => by cases hk⟩
        | true =>
          simp only [cond_true, repK_f, Clo.on_f]
          refine ⟨?_, fun hk => ?_⟩
          · have rep : ∀ (n at_ : Nat) (t : PT V) {F : PT V → (V × Cx → Bool) → Bool}, (∀ t, Det (F t)) → Det (fun κ => repK zn z n at_ t (fun t => F t κ) false) := by
              intro n
              induction n with
              | zero => intro at_ t F hF; exact hF t
              | succ n ih => intro at_ t F hF; exact Det.moveK fun t => Det.frcN fun at_ => ih _ _ hF
            exact rep _ _ _ fun zs => Det.puts fun tr => new
          · obtain ⟨t', h1, _⟩ := repK_ok _ _ _ _ hk
            have : ∀ {ps : List (Nat × Nat × Operand)} {t : PT V} {κ : PT V → Bool}, (putsC (Nat.mul len sz) ps).f e t κ = true → ∃ t', κ t' = true := by
              intro ps t κ hk
              obtain ⟨v, h2, _⟩ := Det.puts (β := PT V) (F := fun t k => k t) (fun v => .ret v) κ hk
              exact ⟨v, h2⟩
            obtain ⟨t2, h2⟩ := this h1
            exact new2 h2
      · exact ⟨.ff, fun hk => by cases hk⟩
    · exact ⟨.ff, fun hk => by cases hk⟩
  | makeSlice t l c =>
    simp only
    unfold makeSliceC
    split
    · split
      · rename_i el _ _ sz _
        cases hz : zeroIs P el sz with
        | false => exact ⟨.ff, fun hk => by cases hk⟩
        | true =>
          simp only [cond_true, Clo.on_f, opndC_eq]
          have rep : ∀ (zn : Nat) (z : PT V) (n at_ : Nat) (t : PT V) {F : PT V → (V × Cx → Bool) → Bool}, (∀ t, Det (F t)) → Det (fun κ => repK zn z n at_ t (fun t => F t κ) false) := by
            intro zn z n
            induction n with
            | zero => intro at_ t F hF; exact hF t
            | succ n ih => intro at_ t F hF; exact Det.moveK fun t => Det.frcN fun at_ => ih _ _ hF
          have zer : ∀ {n : Nat} {F : PT V → (V × Cx → Bool) → Bool}, (∀ t, Det (F t)) → Det (fun κ => (zerosC P el).f n (fun t => F t κ)) := by
            intro n F hF
            unfold zerosC
            split
            · exact hF _
            · exact rep _ _ _ _ _ hF
            · exact .ff
          have zer2 : ∀ {n : Nat} {κ : PT V → Bool}, (zerosC P el).f n κ = true → ∃ t, κ t = true := by
            intro n κ hk
            unfold zerosC at hk
            split at hk
            · exact ⟨_, hk⟩
            · obtain ⟨t', h1, _⟩ := repK_ok _ _ _ _ hk; exact ⟨_, h1⟩
            · cases hk
          refine ⟨Det.idx fun c => Det.idx fun l => Det.frcN fun n => Det.ite (zer fun tr => new) .ff, fun hk => ?_⟩
          obtain ⟨ci, h1, _⟩ := Det.idx (β := Nat) (F := fun i k => k i) (fun v => .ret v) _ hk
          obtain ⟨li, h2, _⟩ := Det.idx (β := Nat) (F := fun i k => k i) (fun v => .ret v) _ h1
          rw [forceN_eq] at h2
          obtain ⟨h3, h4⟩ := iteK_true h2
          obtain ⟨tr, h5⟩ := zer2 h4
          exact new2 h5
      · exact ⟨.ff, fun hk => by cases hk⟩
    · exact ⟨.ff, fun hk => by cases hk⟩
  | makeMap t r =>
    cases r with
    | none => exact ⟨new, new2⟩
    | some x => cases hkd
  | call c =>
    exfalso
    unfold kindO at hkd
    simp only at hkd
    split at hkd <;> cases hkd
  | convert s d x => rcases kind_conv hkd with ⟨_, h⟩ | ⟨_, h⟩ <;> cases h
  | _ => cases hkd
end
end Go.Ax

namespace Go.Ax
variable {P : Program}
section
variable {θ : Th} {a : Act} {e : Env} {ev : Ev} {h : Hp} {nx : A} {ds : List D} {rnd : Option A} {k : V → Cx → Bool} {o : Oper}

theorem made_makeSlice {t : TypeId} {l c : Operand} (hop : o.op = .makeSlice t l c) (hl : VR θ (opnd e l) (a.eval l)) (hc : VR θ (opnd e c) (a.eval c)) (hk : (makeSliceC P t l c).f ev e ⟨h, nx, ds, rnd⟩ k = true) :
    ∃ v blk ny, nx.next = some ny ∧ k v ⟨hset h nx (some blk), ny, ds, rnd⟩ = true ∧ Made P θ a o nx v blk := by
  unfold makeSliceC at hk
  cases hd : undF P t with
  | none => simp only [hd] at hk; cases hk
  | some d =>
    cases d with
    | slice el =>
      simp only [hd] at hk
      cases hs : sizeT P el with
      | none => simp only [hs] at hk; cases hk
      | some sz =>
        simp only [hs] at hk
        cases hzi : zeroIs P el sz with
        | false => rw [hzi] at hk; cases hk
        | true =>
          rw [hzi, cond_true] at hk
          simp only [Clo.on_f, opndC_eq] at hk
          obtain ⟨kc, ci, hce, hci, h1⟩ := idxK_true hc hk
          obtain ⟨kl, li, hle, hli, h2⟩ := idxK_true hl h1
          rw [forceN_eq] at h2
          obtain ⟨h3, h4⟩ := iteK_true h2
          have h3 := ble_le h3
          obtain ⟨z, hz⟩ := zeroIs_true hzi
          obtain ⟨i, zv, hi, hzv, htr⟩ := zeroT_some (θ := θ) hz
          obtain ⟨tr, h5, htr2⟩ := zerosC_ok hz htr h4
          obtain ⟨ny, hy, h6⟩ := newK_true h5
          rw [bytesT_eq hs hi] at h3
          have h3' : i.bytes * ci ≤ 1048576 := h3
          refine ⟨.sl nx 0 li false ci, .cells (Nat.mul ci sz) false 0 tr, ny, hy, h6, Made.cells (n := Nat.mul ci sz) (s := Instr.makeSlice t (a.eval l) (a.eval c)) (el := el) (Tag.none el) htr2 (fun r => .slice (some ⟨r, 0, none⟩) li ci) (fun w => ?_) (fun θ' r hr => VR.slk _ _ _ _ _ hr hli) (by unfold execOp; rw [hop])⟩
          have hwc : IntKind.i64.wrap (ci : Int) = ci := by rw [wrap_i64]; omega
          have hwl : IntKind.i64.wrap (li : Int) = li := by rw [wrap_i64]; omega
          have hmul : ((i.bytes : Int) * (ci : Int)) ≤ 1048576 := by rw [← Int.natCast_mul]; exact Int.ofNat_le.2 h3'
          have hno : ¬ ((decide ((ci : Int) < 0) || decide ((i.bytes : Int) * (ci : Int) > 2 ^ 48) || decide ((li : Int) < 0) || decide ((li : Int) > ci)) = true) := by
            simp only [Bool.or_eq_true, decide_eq_true_eq]; omega
          have hti : (typeInfo el).run P w = .ok i w := by simp [typeInfo, hi]
          have hroom : ¬ (ci * i.bytes > roomBytes) := by unfold roomBytes; rw [Nat.mul_comm]; omega
          simp only [Instr.makeSlice, Sem.run_bind, run_under hd, Result.andThen_ok, hle, hce, asInt, asIntOf, Sem.run_pure, hti, hwc, hwl]
          rw [if_neg hno]
          simp only [Int.toNat_natCast, Sem.run_bind, askRoom, if_neg hroom, Sem.run_pure, Result.andThen_ok, run_sizeOf hs]
          by_cases h0 : ci * sz = 0
          · rw [if_pos h0]
            have e : Array.map (fun x => (#[] : Array Value)[x % (#[] : Array Value).size]!) (Array.range (ci * sz)) = reps zv.cells (ci * sz) := by rw [h0]; simp [reps]
            simp only [Sem.run_bind, Sem.run_pure, Result.andThen_ok, e, run_newRow]
          · rw [if_neg h0]
            have e : Array.map (fun x => zv.cells[x % zv.cells.size]!) (Array.range (ci * sz)) = reps zv.cells (ci * sz) := rfl
            simp only [Sem.run_bind, run_zero hi hzv, Sem.run_pure, Result.andThen_ok, e, run_newRow]
    | _ => simp only [hd] at hk; cases hk

theorem made_buildSlice {t : TypeId} {len : Nat} {parts : Array (Nat × Operand)} (hop : o.op = .buildSlice t len parts) (hp : ∀ p ∈ parts.toList, VR θ (opnd e p.2) (a.eval p.2)) (hk : (buildSliceC P t len parts.toList).f ev e ⟨h, nx, ds, rnd⟩ k = true) :
    ∃ v blk ny, nx.next = some ny ∧ k v ⟨hset h nx (some blk), ny, ds, rnd⟩ = true ∧ Made P θ a o nx v blk := by
  unfold buildSliceC at hk
  cases hd : undF P t with
  | none => simp only [hd] at hk; cases hk
  | some d =>
    cases d with
    | slice el =>
      simp only [hd] at hk
      cases hs : sizeT P el with
      | none => simp only [hs] at hk; cases hk
      | some sz =>
        cases hz : zeroT P el with
        | none => simp only [hs, hz] at hk; cases hk
        | some nz =>
          obtain ⟨zn, z⟩ := nz
          simp only [hs, hz] at hk
          cases hb : (Nat.beq sz zn && Nat.ble (Nat.mul len sz) 65536) with
          | false => rw [hb] at hk; cases hk
          | true =>
            rw [hb, cond_true] at hk
            rw [Bool.and_eq_true] at hb
            obtain rfl : sz = zn := Nat.eq_of_beq_eq_true hb.1
            have hle : len * sz ≤ 65536 := ble_le hb.2
            obtain ⟨i, zv, hi, hzv, htr⟩ := zeroT_some (θ := θ) hz
            obtain ⟨t0, h1, ht0⟩ := repC_ok htr hk
            simp only [Clo.on_f] at h1
            obtain ⟨t', cs', hfill, htr', h2⟩ := puts_ok (θ := θ) (e := e) (a := a) (fun i => some (i * sz, sz)) parts.toList (parts.toList.map fun (i, x) => (i * sz, sz, x)) (by simp) (fun j i' x' hj =>
              ⟨hp (i', x') (List.mem_of_getElem? hj), i' * sz, sz, rfl, by simp [List.getElem?_map, hj]⟩) t0 _ _ ht0 h1
            obtain ⟨ny, hy, h3⟩ := newK_true h2
            refine ⟨.sl nx 0 len false len, .cells (Nat.mul len sz) false 0 t', ny, hy, h3, Made.cells (n := Nat.mul len sz) (s := Instr.buildSlice t len (parts.map fun (i, x) => (i, a.eval x))) (el := el) (Tag.none el) htr' (fun r => .slice (some ⟨r, 0, none⟩) len len) (fun w => ?_) (fun θ' r hr => VR.slk _ _ _ _ _ hr (Nat.le_refl _)) (by unfold execOp; rw [hop])⟩
            have hno : ¬ (len * sz > 2 ^ 24) := by omega
            have e1 : (parts.map fun x => match x with | (i, x) => (i, a.eval x)).toList = parts.toList.map fun p => (p.1, a.eval p.2) := by simp
            simp only [Instr.buildSlice, Sem.run_bind, run_under hd, Result.andThen_ok, run_sizeOf hs, if_neg hno]
            by_cases h0 : len * sz = 0
            · rw [if_pos h0]
              have e2 : Array.map (fun x => (#[] : Array Value)[x % (#[] : Array Value).size]!) (Array.range (len * sz)) = reps zv.cells (len * sz) := by rw [h0]; simp [reps]
              simp only [Sem.run_bind, Sem.run_pure, Result.andThen_ok, e2, e1, hfill, run_newRow]
            · rw [if_neg h0]
              have e2 : Array.map (fun x => zv.cells[x % zv.cells.size]!) (Array.range (len * sz)) = reps zv.cells (len * sz) := rfl
              simp only [Sem.run_bind, run_zero hi hzv, Sem.run_pure, Result.andThen_ok, e2, e1, hfill, run_newRow]
    | _ => simp only [hd] at hk; cases hk

/-- what the executor makes the model makes -/
theorem made_ok (hkd : kindO o.op = 2) (ho : ∀ x ∈ o.op.operands.toList, VR θ (opnd e x) (a.eval x)) (hk : (operC P o).f ev e ⟨h, nx, ds, rnd⟩ k = true) :
    ∃ v blk ny, nx.next = some ny ∧ k v ⟨hset h nx (some blk), ny, ds, rnd⟩ = true ∧ Made P θ a o nx v blk := by
  obtain ⟨dst, op, ty, pos, aft, g⟩ := o
  simp only at hkd ho
  unfold operC at hk
  cases op with
  | alloc t =>
    simp only [Clo.on_f] at hk
    unfold allocC at hk
    cases hz : zeroT P t with
    | none => simp only [hz] at hk; cases hk
    | some nz =>
      obtain ⟨n, tr⟩ := nz
      simp only [hz] at hk
      obtain ⟨ny, hy, h1⟩ := newK_true hk
      obtain ⟨i, z, hi, hzv, htr⟩ := zeroT_some (θ := θ) hz
      exact ⟨_, _, ny, hy, h1, Made.cells (s := Instr.alloc t true (.tuple #[])) (el := t) (Tag.same t) htr (fun r => .pointer (some ⟨r, 0, none⟩)) (fun w => by simp [Instr.alloc, run_zero hi hzv, newVar, run_newRow]) (fun θ' r hr => VR.p _ _ _ hr) rfl⟩
  | box t x =>
    simp only [Clo.on_f, opndC_eq] at hk
    obtain ⟨n, tr, hc, h0⟩ := cellsK_true (k := fun n tr => _) hk
    obtain ⟨ny, hy, h1⟩ := newK_true h0
    exact ⟨_, _, ny, hy, h1, Made.cells (s := Instr.box t (a.eval x)) (el := t) (Tag.none t) (cells_ok (ho x (by simp [Op.operands])) hc) (fun r => .pointer (some ⟨r, 0, none⟩)) (fun w => by simp [Instr.box, newVar, run_newRow]) (fun θ' r hr => VR.p _ _ _ hr) rfl⟩
  | makeMap t r =>
    cases r with
    | none =>
      have hk : newK h nx (.map []) (fun h' nx' => k (.m nx) ⟨h', nx', ds, rnd⟩) false = true := hk
      obtain ⟨ny, hy, h1⟩ := newK_true hk
      refine ⟨_, _, ny, hy, h1, ⟨⟨.map #[] 0, fun r => .map (some r), fun w => ?_, fun θ' r hle hr => ⟨⟨#[], 0, rfl, ER.nil⟩, VR.m _ _ hr⟩⟩, rfl⟩⟩
      have he : execOp a.eval ⟨dst, .makeMap t none, ty, pos, aft, g⟩ = (do pure (.value (← Instr.makeMap t none))) := rfl
      rw [he]
      exact run_v (by simp [Instr.makeMap, newObj, Sem.run, World.put])
    | some x => cases hkd
  | makeSlice t l c => exact made_makeSlice rfl (ho l (by simp [Op.operands])) (ho c (by simp [Op.operands])) hk
  | buildSlice t len parts => exact made_buildSlice rfl (fun p hp => ho p.2 (by simp only [Op.operands]; exact List.mem_map.2 ⟨p, hp, rfl⟩)) hk
  | call c =>
    exfalso
    unfold kindO at hkd
    simp only at hkd
    split at hkd <;> cases hkd
  | convert s d x => rcases kind_conv hkd with ⟨_, h⟩ | ⟨_, h⟩ <;> cases h
  | _ => cases hkd

/-- a block that the executor has made is made in the model -/
theorem MR.bind {m : A → Option B} {nx : A} {w : World} (h : MR P θ m nx w) {x : A} (hx : θ.ρ x = none) (hlt : x.toNat < nx.toNat) {b : B} (hb : m x = some b) {obj : Obj} (hbr : ∀ θ', θ.le θ' → θ'.ρ x = some w.heap.size → BR θ' x b obj) :
    ∃ θ', θ.le θ' ∧ θ'.ρ x = some w.heap.size ∧ (∀ y, y ≠ x → θ'.ρ y = θ.ρ y) ∧ θ'.lim = θ.lim ∧ MR P θ' m nx (World.put w obj) := by
  have hle : θ.le { ρ := fun y => if y = x then some w.heap.size else θ.ρ y, κ := fun y => if y = x then min 0 maxCap else θ.κ y, lim := θ.lim, hκ := cap_or θ.hκ x 0 } := fun y r hy => by
    have ne : y ≠ x := fun e => by subst e; rw [hx] at hy; cases hy
    simp only [if_neg ne]; exact ⟨hy, trivial⟩
  refine ⟨_, hle, by simp, fun y e => by simp only [if_neg e], rfl, ?_⟩
  refine ⟨fun y c r hc hr => ?_, fun y z c d r hc hd hr hr' => ?_, fun y hy => ?_, fun g hg => (hle _ _ (h.glob g hg)).1, h.lim, h.bd⟩
  · by_cases e : y = x
    · subst e
      simp only [if_true] at hr
      obtain rfl : w.heap.size = r := by simpa using hr
      rw [hb] at hc
      obtain rfl : b = c := by simpa using hc
      exact ⟨obj, (by show (w.heap.push obj)[w.heap.size]? = some obj; simp), hbr _ hle (by simp)⟩
    · simp only [if_neg e] at hr
      obtain ⟨o', h2, h3⟩ := h.blk y c r hc hr
      have : r < w.heap.size := h.lt hc hr
      refine ⟨o', ?_, h3.mono hle hr⟩
      simp only [World.put, Array.getElem?_push]
      rw [if_neg (by omega)]; exact h2
  · by_cases ey : y = x
    · by_cases ez : z = x
      · rw [ey, ez]
      · simp only [if_pos ey] at hr
        simp only [if_neg ez] at hr'
        have := h.lt hd hr'
        simp at hr; omega
    · by_cases ez : z = x
      · simp only [if_neg ey] at hr
        simp only [if_pos ez] at hr'
        have := h.lt hc hr
        simp at hr'; omega
      · simp only [if_neg ey] at hr
        simp only [if_neg ez] at hr'
        exact h.inj y z c d r hc hd hr hr'
  · have ne : y ≠ x := fun e => by subst e; omega
    simp only [if_neg ne]
    exact h.fresh y hy
end
end Go.Ax
