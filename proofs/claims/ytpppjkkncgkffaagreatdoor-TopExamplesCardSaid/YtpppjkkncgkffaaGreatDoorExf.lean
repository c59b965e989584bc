/-
  Four functions of the library, by their contracts.
-/
import Derived.Test.YtpppjkkncgkffaaGreatDoorExe
import Derived.Laws.StandIn
import Derived.Lib.Bytealg
import Derived.Lib.Index
import Derived.Lib.Builder
import Derived.Laws.IdiomCopy
import Derived.Laws.Append
set_option linter.unusedVariables false
set_option linter.unusedSimpArgs false
namespace Go.Ax
variable {P : Program}

theorem two_true {args : List V} {k : V → V → Bool} (h : two args k false = true) : ∃ a b, args = [a, b] ∧ k a b = true := by
  cases args with
  | nil => cases h
  | cons a l => cases l with
    | nil => cases h
    | cons b l => cases l with
      | nil => exact ⟨a, b, rfl, h⟩
      | cons c l => cases h
theorem one_true {args : List V} {k : V → Bool} (h : one args k false = true) : ∃ a, args = [a] ∧ k a = true := by
  cases args with
  | nil => cases h
  | cons a l => cases l with
    | nil => exact ⟨a, rfl, h⟩
    | cons b l => cases h
theorem VRs.two {θ : Th} {a b : V} {vs : Array Value} (h : VRs θ [a, b] vs.toList) : ∃ x y, vs = #[x, y] ∧ VR θ a x ∧ VR θ b y := by
  generalize hl : vs.toList = l at h
  cases h with
  | cons _ _ x _ h1 h2 => cases h2 with
    | cons _ _ y _ h3 h4 => cases h4; exact ⟨x, y, Array.toList_inj.1 hl, h1, h3⟩
theorem VRs.one {θ : Th} {a : V} {vs : Array Value} (h : VRs θ [a] vs.toList) : ∃ x, vs = #[x] ∧ VR θ a x := by
  generalize hl : vs.toList = l at h
  cases h with
  | cons _ _ x _ h1 h2 => cases h2; exact ⟨x, Array.toList_inj.1 hl, h1⟩

theorem unb_nat (n : Nat) : unb (Nat.add n B63) = n := by show unb (n + B63) = n; exact unb_add n

/-! ### a byte's first place -/
theorem indexByte_ge (q : List UInt8) (c : UInt8) : -1 ≤ Lib.indexByte q c := by
  induction q with
  | nil => simp [Lib.indexByte]
  | cons b q ih =>
    simp only [Lib.indexByte]
    split
    · omega
    · split
      · omega
      · omega
theorem idxByte_eq {R : Type} (c : Nat) (hc : c < 256) (k : Nat → R) (no : R) : ∀ (l v i : Nat), idxByte c k no l v i =
    if Lib.indexByte (unnum l v) (UInt8.ofNat c) = -1 then no else k (i + (Lib.indexByte (unnum l v) (UInt8.ofNat c)).toNat)
  | 0, v, i => by
    show no = _
    simp [unnum, Lib.indexByte]
  | l + 1, v, i => by
    have e : idxByte c k no (l + 1) v i = iteK (Nat.beq (Nat.mod v 256) c) (k i) (forceN (Nat.div v 256) fun v => forceN (Nat.succ i) fun i => idxByte c k no l v i) := rfl
    rw [e, iteK_eq, forceN_eq, forceN_eq, idxByte_eq c hc k no l]
    simp only [unnum, Lib.indexByte]
    have hmod : Nat.mod v 256 = v % 256 := rfl
    have hdiv : Nat.div v 256 = v / 256 := rfl
    rw [hmod, hdiv]
    have hge : -1 ≤ Lib.indexByte (unnum l (v / 256)) (UInt8.ofNat c) := indexByte_ge _ _
    have hb : (UInt8.ofNat (v % 256) == UInt8.ofNat c) = Nat.beq (v % 256) c := by
      rw [Bool.eq_iff_iff, beq_iff_eq, Nat.beq_eq]
      constructor
      · intro h
        have := congrArg UInt8.toNat h
        simp at this
        omega
      · intro h; rw [h]
    rw [hb]
    cases hq : Nat.beq (v % 256) c with
    | true => simp
    | false =>
      simp only [cond_false, Bool.false_eq_true, if_false]
      by_cases h1 : Lib.indexByte (unnum l (v / 256)) (UInt8.ofNat c) = -1
      · simp [h1]
      · rw [if_neg h1]
        have : (Lib.indexByte (unnum l (v / 256)) (UInt8.ofNat c) == -1) = false := by simpa using h1
        rw [this]
        simp only [Bool.false_eq_true, if_false]
        rw [if_neg (by omega)]
        congr 1
        simp only [Nat.succ_eq_add_one]
        omega

/-- a function without a body, that gives a byte's first place -/
structure IsIdx (P : Program) (g : FuncId) : Prop where
  ex : ∃ fn, P.funcs[g]? = some fn ∧ (fn.name == "runtime.NumGoroutine") = false ∧ fn.body.isNone = true ∧ Extern.findNext fn = none ∧ Extern.find fn = some Extern.BytealgIndexByte.indexByte

theorem VR.fin (θ : Th) {r : Int} (h : -1 ≤ r) : VR θ (if r = -1 then .i B63m else .i (r.toNat + B63)) (.int .i64 r) := by
  split
  · rename_i h; subst h
    have := VR.i (θ := θ) B63m
    have e : unb B63m = -1 := by decide
    rwa [e] at this
  · have := VR.i (θ := θ) (r.toNat + B63)
    rw [unb_add] at this
    have e : ((r.toNat : Nat) : Int) = r := by omega
    rwa [e] at this

theorem indexByte_ok {g : FuncId} (hg : IsIdx P g) {args h nx k θ w vs} {nat} (hk : indexByteF.f nat args h nx k = true) (hm : MRx P θ h nx w) (hv : VRs θ args (Array.toList vs)) : CalleeN P θ h w g vs k := fun c cs => by
  obtain ⟨a, b, rfl, h1⟩ := two_true hk
  obtain ⟨x, y, rfl, hx, hy⟩ := hv.two
  rw [asS_eq] at h1
  cases hx with
  | s l v s hs hvl =>
    simp only at h1
    rw [asU_eq] at h1
    cases hy with
    | u kd n =>
      simp only at h1
      obtain ⟨rfl, h2⟩ := kindK_true h1
      obtain ⟨h3, h4⟩ := iteK_true h2
      rw [forceN_eq] at h4
      obtain ⟨h5, h6⟩ := iteK_true h4
      have h3 := ble_le h3
      have h5 : n - B63 < 256 := ble_le h5
      have h6 : idxByte (n - B63) (fun i => forceN (Nat.add i B63) fun i => k (.i i) h nx) (k (.i B63m) h nx) l v 0 = true := h6
      rw [idxByte_eq _ h5] at h6
      have hu : unb n = ((n - B63 : Nat) : Int) := by unfold unb; omega
      have hc : (unb n).toNat.toUInt8 = UInt8.ofNat (n - B63) := by rw [hu, Int.toNat_natCast]
      have hrun : (callFunc g #[.string s, .int .u8 (unb n)]).run P w = .ok (.value (.int .i64 (Lib.indexByte (unnum l v) (UInt8.ofNat (n - B63))))) w := by
        obtain ⟨fn, f1, f2, f3, f4, f5⟩ := hg.ex
        rw [run_callFunc_indexByte f1 f2 f3 f4 f5, Lib.run_indexByteString, hs, hc]
        rfl
      have hge : -1 ≤ Lib.indexByte (unnum l v) (UInt8.ofNat (n - B63)) := indexByte_ge _ _
      refine ⟨θ, _, _, h, nx, w, ?_, VR.fin θ hge, hm, Fm.refl _ _ _, .inr hrun⟩
      split at h6
      · rename_i he; rw [if_pos he]; exact h6
      · rename_i he; rw [if_neg he]; rw [forceN_eq, Nat.zero_add] at h6; exact h6
    | _ => cases h1
  | _ => cases h1
end Go.Ax

namespace Go.Ax
variable {P : Program}

/-- out of a contract that tells the world behind the call -/
theorem callee_of_calls {g : FuncId} {vs : Array Value} {w W : World} {cv : Value} (hE : (callFunc g vs).run P w = .ok (.enter g vs) w) (hC : Calls P g vs w fun e w' => e = .returned cv ∧ w' = W)
    {θ θ' : Th} {h h' : Hp} {k : KC} {v : V} {nx' : A} (hk : k v h' nx' = true) (hv : VR θ' v cv) (hm : MRx P θ' h' nx' W) (hf : Fm θ (hget h) w θ' (hget h') W) : CalleeN P θ h w g vs k := fun c cs => by
  obtain ⟨e, w', fr, ⟨rfl, rfl⟩, h1, h2, h3⟩ := hC (c :: cs)
  exact ⟨θ', v, cv, h', nx', w', hk, hv, hm, hf, .inl ⟨hE, Steps.trans h1 (.one (step_leave_returned h3))⟩⟩

/-! ### strings.Builder's look at its own place -/
structure IsCopyCheck (P : Program) (g T : Nat) : Prop where
  enters : ∀ vs w, (callFunc g vs).run P w = .ok (.enter g vs) w
  used : ∀ (b : Nat) (w : World), w.cell? ⟨b, 0, none⟩ = some (.pointer (some ⟨b, 0, none⟩)) → Calls P g #[.pointer (some ⟨b, 0, none⟩)] w fun e w' => e = .returned (.tuple #[]) ∧ w' = w
  fresh : ∀ (b : Nat) (w : World), w.cell? ⟨b, 0, none⟩ = some (.pointer none) → w.shape? b = some (T, 2) → w.frozen? ⟨b, 0, none⟩ = false →
    Calls P g #[.pointer (some ⟨b, 0, none⟩)] w fun e w' => e = .returned (.tuple #[]) ∧ w' = w.setCell ⟨b, 0, none⟩ (.pointer (some ⟨b, 0, none⟩))

theorem setCell_heap {w : World} {r j : Nat} {c : Array Value} {el : TypeId} {fr : Nat × Nat} (hc : w.heap[r]? = some (.cells c el fr)) (v : Value) :
    (w.setCell ⟨r, j, none⟩ v).heap = w.heap.setIfInBounds r (.cells (c.setIfInBounds j v) el fr) ∧ (w.setCell ⟨r, j, none⟩ v).tape = w.tape ∧ (w.setCell ⟨r, j, none⟩ v).os = w.os ∧ (w.setCell ⟨r, j, none⟩ v).output = w.output := by
  refine ⟨?_, rfl, rfl, rfl⟩
  unfold World.setCell
  apply Array.ext_getElem?
  intro i
  simp only
  rw [Array.getElem?_modify, Array.getElem?_setIfInBounds]
  by_cases e : r = i
  · subst e
    rw [if_pos rfl, if_pos rfl, hc]
    have : r < w.heap.size := (Array.getElem?_eq_some_iff.1 hc).1
    simp [this]
  · rw [if_neg e, if_neg e]

theorem copyCheck_ok {g T : Nat} (hT : T ≠ 0) (hg : IsCopyCheck P g T) {args h nx k θ w vs} {nat} (hk : (copyCheckF T).f nat args h nx k = true) (hm : MRx P θ h nx w) (hv : VRs θ args (Array.toList vs)) : CalleeN P θ h w g vs k := by
  obtain ⟨a, rfl, h1⟩ := one_true hk
  obtain ⟨x, rfl, hx⟩ := hv.one
  rw [asP_eq] at h1
  cases hx with
  | p x off r hr =>
    simp only at h1
    obtain ⟨h0, h2⟩ := iteK_true h1
    obtain rfl : off = 0 := Nat.eq_of_beq_eq_true h0
    obtain ⟨n, gr, sz, t, hb, h3⟩ := hcellsK_true h2
    obtain ⟨h4, h5⟩ := iteK_true h3
    simp only [Bool.and_eq_true, Bool.not_eq_true'] at h4
    obtain ⟨⟨rfl, hn⟩, hs⟩ := h4
    obtain rfl : n = 2 := Nat.eq_of_beq_eq_true hn
    obtain rfl : sz = T := Nat.eq_of_beq_eq_true hs
    obtain ⟨ob, p2, cs, ⟨cel, htag⟩, rfl, hfl, p3, p4, p5, p6⟩ := hm.blk x _ r hb hr
    obtain rfl : cel = sz := htag.1 rfl hT
    have hsz : cs.size = 2 := p5 rfl
    have htup : VR θ (.tup .nil) (.tuple #[]) := VR.tup _ _ VRL.nil
    rw [PT.getK_eq] at h5
    cases hq : t.get 0 with
    | none => rw [hq] at h5; cases h5
    | some u =>
      rw [hq] at h5
      simp only at h5
      have hu := (p3 0 u hq).2
      have hcell : w.cell? ⟨r, 0, none⟩ = some (cs.getD 0 Go.undef) := by
        rw [Lib.cell_of_heap p2, Array.getElem?_eq_getElem (by omega), Array.getD_eq_getD_getElem?, Array.getElem?_eq_getElem (by omega), Option.getD_some]
      rw [asPtr_eq] at h5
      generalize hcv : cs.getD 0 Go.undef = cv at hu hcell
      cases hu with
      | p y i r' hr' =>
        simp only at h5
        obtain ⟨h6, h7⟩ := iteK_true h5
        rw [Bool.and_eq_true] at h6
        obtain rfl : x = y := A.beq_iff.1 h6.1
        obtain rfl : i = 0 := Nat.eq_of_beq_eq_true h6.2
        obtain rfl : r = r' := by rw [hr] at hr'; exact Option.some.inj hr'
        exact callee_of_calls (hg.enters _ _) (hg.used r w hcell) h7 htup hm (Fm.refl _ _ _)
      | pn =>
        simp only at h5
        rw [PT.setK_eq, hsetK_eq] at h5
        obtain ⟨q1, q2, q3, q4⟩ := setCell_heap (j := 0) p2 (.pointer (some ⟨r, 0, none⟩))
        have hbr : BR θ x (.cells 2 false cel (t.set 0 (.p x 0))) (.cells (cs.setIfInBounds 0 (.pointer (some ⟨r, 0, none⟩))) cel (0, 0)) := by
          refine ⟨_, ⟨cel, htag⟩, rfl, ?_, fun j v hj => ?_, by simp [hsz], fun _ => by simp [hsz], fun e => by cases e⟩
          · intro v hv
            rw [Array.toList_setIfInBounds] at hv
            rcases List.mem_or_eq_of_mem_set hv with h | h
            · exact hfl v h
            · subst h; rfl
          · rw [PT.get_set] at hj
            by_cases e : j = 0
            · subst e
              rw [if_pos rfl] at hj
              injection hj with hj
              subst hj
              refine ⟨by omega, ?_⟩
              rw [Array.getD_eq_getD_getElem?, Array.getElem?_setIfInBounds]
              simp only [if_true, hsz]
              exact VR.p x 0 r hr
            · rw [if_neg e] at hj
              refine ⟨(p3 j v hj).1, ?_⟩
              rw [Array.getD_eq_getD_getElem?, Array.getElem?_setIfInBounds, if_neg (Ne.symm e), ← Array.getD_eq_getD_getElem?]
              exact (p3 j v hj).2
        have hS := MR.set hm hb rfl hr hbr _ q1 q2 q3 q4
        refine callee_of_calls (hg.enters _ _) (hg.fresh r w hcell (by unfold World.shape?; rw [p2]; simp [hsz]) (Lib.frozen_of_heap p2 0)) h5 htup ?_ ?_
        · simp only [MRx, hget_hset_some]; exact hS.1
        · simp only [hget_hset_some]; exact hS.2
      | _ => cases h5
  | _ => cases h1
end Go.Ax

namespace Go.Ax
variable {P : Program}

/-! ### a string's first place -/
theorem index_short : ∀ (l sub : List UInt8), l.length < sub.length → Lib.index l sub = -1
  | [], sub, h => by
    have : sub.isEmpty = false := by cases sub with | nil => simp at h | cons => rfl
    simp [Lib.index, this]
  | b :: l, sub, h => by
    have hp : sub.isPrefixOf (b :: l) = false := by
      cases hq : sub.isPrefixOf (b :: l) with
      | false => rfl
      | true => have := (List.isPrefixOf_iff_prefix.1 hq).length_le; omega
    simp [Lib.index, hp, index_short l sub (by simp at h; omega)]

theorem prefix_num {m n w v : Nat} (hw : w < 256 ^ m) (hn : m ≤ n) : (unnum m w).isPrefixOf (unnum n v) = Nat.beq (Nat.mod v (256 ^ m)) w := by
  rw [Bool.eq_iff_iff, List.isPrefixOf_iff_prefix, List.prefix_iff_eq_take, unnum_length, unnum_take m n v hn, Nat.beq_eq]
  constructor
  · intro h
    have := unnum_inj m w (v % 256 ^ m) hw (Nat.mod_lt _ (Nat.pow_pos (by decide))) (by rw [unnum_mod]; exact h)
    exact this.symm
  · intro h
    have h : v % 256 ^ m = w := h
    rw [← unnum_mod m v, h]

theorem index_head {l sub : List UInt8} : Lib.index l sub = if sub.isPrefixOf l then 0 else if Lib.index l.tail sub = -1 then -1 else if l = [] then -1 else Lib.index l.tail sub + 1 := by
  cases l with
  | nil =>
    cases sub with
    | nil => simp [Lib.index]
    | cons x xs => simp [Lib.index]
  | cons b l => simp [Lib.index]

theorem idxStr_eq {R : Type} (m w : Nat) (hw : w < 256 ^ m) (k : Nat → R) (no : R) : ∀ (f v i : Nat), idxStr w (256 ^ m) k no f v i =
    if Lib.index (unnum (f + m) v) (unnum m w) = -1 then no else k (i + (Lib.index (unnum (f + m) v) (unnum m w)).toNat)
  | 0, v, i => by
    have e : idxStr w (256 ^ m) k no 0 v i = iteK (Nat.beq (Nat.mod v (256 ^ m)) w) (k i) no := rfl
    rw [e, iteK_eq, index_head, prefix_num hw (by omega)]
    cases hq : Nat.beq (Nat.mod v (256 ^ m)) w with
    | true => simp
    | false =>
      have hs : m ≠ 0 → Lib.index (unnum (0 + m) v).tail (unnum m w) = -1 := fun hm => index_short _ _ (by rw [List.length_tail, unnum_length, unnum_length]; omega)
      by_cases hm : m = 0
      · subst hm
        exfalso
        simp at hw
        subst hw
        have : Nat.mod v (256 ^ 0) = 0 := Nat.mod_one v
        rw [this] at hq
        cases hq
      · rw [hs hm]; simp
  | f + 1, v, i => by
    have e : idxStr w (256 ^ m) k no (f + 1) v i = iteK (Nat.beq (Nat.mod v (256 ^ m)) w) (k i) (forceN (Nat.div v 256) fun v => forceN (Nat.succ i) fun i => idxStr w (256 ^ m) k no f v i) := rfl
    rw [e, iteK_eq, forceN_eq, forceN_eq, idxStr_eq m w hw k no f, index_head (l := unnum (f + 1 + m) v), prefix_num hw (by omega)]
    have ht : (unnum (f + 1 + m) v).tail = unnum (f + m) (v / 256) := by
      rw [show f + 1 + m = (f + m) + 1 by omega]; rfl
    have hne : unnum (f + 1 + m) v ≠ [] := by
      rw [show f + 1 + m = (f + m) + 1 by omega]; simp [unnum]
    rw [ht, if_neg hne]
    have hge := Lib.index_ge (unnum (f + m) (v / 256)) (unnum m w)
    have hdiv : Nat.div v 256 = v / 256 := rfl
    rw [hdiv]
    cases hq : Nat.beq (Nat.mod v (256 ^ m)) w with
    | true => simp
    | false =>
      simp only [cond_false, Bool.false_eq_true, if_false]
      by_cases h1 : Lib.index (unnum (f + m) (v / 256)) (unnum m w) = -1
      · simp [h1]
      · rw [if_neg h1, if_neg h1, if_neg (by omega)]
        congr 1
        simp only [Nat.succ_eq_add_one]
        omega

/-- stringslite.Index, by its contract: 'gl' is the variable bytealg.MaxLen -/
structure IsIndex (P : Program) (g gl : Nat) : Prop where
  glob : gl < P.globals.size
  enters : ∀ vs w, (callFunc g vs).run P w = .ok (.enter g vs) w
  law : ∀ (s sub : ByteArray) (m : Int) (w : World), s.size < 4294967281 → w.cell? ⟨gl, 0, none⟩ = some (.int .i64 m) →
    Calls P g #[.string s, .string sub] w fun e w' => e = .returned (.int .i64 (Lib.index s.data.toList sub.data.toList)) ∧ w' = w

theorem hwildK_true {h : Hp} {x : A} {k : Bool} (e : hwildK h x k false = true) : hget h x = some .wild ∧ k = true := by
  unfold hwildK at e
  rw [hgetK_eq] at e
  cases hq : hget h x with
  | none => rw [hq] at e; cases e
  | some b => rw [hq] at e; cases b <;> first | (cases e; done) | exact ⟨rfl, e⟩

theorem index_ok {g gl : Nat} (hg : IsIndex P g gl) {args h nx k θ w vs} {nat} (hk : (indexF (A.ofNat gl)).f nat args h nx k = true) (hm : MRx P θ h nx w) (hv : VRs θ args (Array.toList vs)) : CalleeN P θ h w g vs k := by
  obtain ⟨a, b, rfl, h1⟩ := two_true hk
  obtain ⟨x, y, rfl, hx, hy⟩ := hv.two
  rw [asS_eq] at h1
  cases hx with
  | s l v s hs hvl =>
    simp only at h1
    rw [asS_eq] at h1
    cases hy with
    | s m u t ht hu =>
      simp only at h1
      obtain ⟨hw, h2⟩ := hwildK_true h1
      obtain ⟨hl, h3⟩ := iteK_true h2
      have hl : l < 4294967281 := ble_le hl
      have hss : s.size = l := by
        have : s.data.toList.length = l := by rw [hs, unnum_length]
        simpa using this
      obtain ⟨o, p2, c, el, fr, z, rfl, hc0, hcz⟩ := hm.blk _ _ gl hw (hm.glob gl hg.glob)
      have hcell : w.cell? ⟨gl, 0, none⟩ = some (.int .i64 z) := by
        rw [Lib.cell_of_heap p2, Array.getElem?_eq_getElem hc0]
        rw [Array.getD_eq_getD_getElem?, Array.getElem?_eq_getElem hc0, Option.getD_some] at hcz
        rw [hcz]
      have hC := hg.law s t z w (by omega) hcell
      rw [hs, ht] at hC
      have hge := Lib.index_ge (unnum l v) (unnum m u)
      refine callee_of_calls (hg.enters _ _) hC (v := if Lib.index (unnum l v) (unnum m u) = -1 then .i B63m else .i ((Lib.index (unnum l v) (unnum m u)).toNat + B63)) (h' := h) (nx' := nx) ?_ (VR.fin θ hge) hm (Fm.refl _ _ _)
      cases hq : Nat.ble m l with
      | false =>
        rw [hq, iteK_eq, cond_false] at h3
        have hlt : l < m := by
          rcases Nat.lt_or_ge l m with h | h
          · exact h
          · have : Nat.ble m l = true := Nat.ble_eq_true_of_le h
            rw [this] at hq; cases hq
        rw [if_pos (index_short _ _ (by rw [unnum_length, unnum_length]; exact hlt))]
        exact h3
      | true =>
        rw [hq, iteK_eq, cond_true, forceN_eq, forceN_eq] at h3
        have hle := ble_le hq
        have h3 : idxStr u (256 ^ m) (fun i => forceN (Nat.add i B63) fun i => k (.i i) h nx) (k (.i B63m) h nx) (l - m) v 0 = true := h3
        rw [idxStr_eq m u hu, show l - m + m = l by omega] at h3
        split at h3
        · rename_i he; rw [if_pos he]; exact h3
        · rename_i he; rw [if_neg he]; rw [forceN_eq, Nat.zero_add] at h3; exact h3
    | _ => cases h1
  | _ => cases h1
end Go.Ax

namespace Go.Ax
variable {P : Program}

/-! ### a row of cells laid into a block -/
def putAll : Array Value → Nat → List Value → Array Value
  | c, _, [] => c
  | c, o, v :: r => putAll (c.setIfInBounds o v) (o + 1) r
theorem putAll_ok : ∀ (vs : List Value) (c : Array Value) (o : Nat), (putAll c o vs).size = c.size ∧
    ∀ i, i < c.size → (putAll c o vs).getD i Go.undef = if o ≤ i ∧ i < o + vs.length then vs.getD (i - o) Go.undef else c.getD i Go.undef
  | [], c, o => ⟨rfl, fun i hi => by rw [if_neg (by simp)]; rfl⟩
  | v :: r, c, o => by
    obtain ⟨h1, h2⟩ := putAll_ok r (c.setIfInBounds o v) (o + 1)
    refine ⟨by rw [putAll, h1]; simp, fun i hi => ?_⟩
    rw [putAll, h2 i (by simpa using hi)]
    by_cases e : i = o
    · subst e
      rw [if_neg (by omega), if_pos (by simp), Nat.sub_self, Array.getD_eq_getD_getElem?, Array.getElem?_setIfInBounds]
      simp [hi]
    · by_cases hj : o + 1 ≤ i ∧ i < o + 1 + r.length
      · rw [if_pos hj, if_pos (by simp; omega), show i - o = (i - (o + 1)) + 1 by omega]
        simp
      · rw [if_neg hj, if_neg (by simp; omega), Array.getD_eq_getD_getElem?, Array.getElem?_setIfInBounds, if_neg (Ne.symm e), ← Array.getD_eq_getD_getElem?]
theorem putAll_flat : ∀ (vs : List Value) (c : Array Value) (o : Nat), Flat c → (∀ v ∈ vs, flat v = true) → Flat (putAll c o vs)
  | [], c, o, hc, _ => hc
  | v :: r, c, o, hc, hv => by
    refine putAll_flat r _ _ (fun u hu => ?_) (fun u hu => hv u (by simp [hu]))
    rw [Array.toList_setIfInBounds] at hu
    rcases List.mem_or_eq_of_mem_set hu with h | h
    · exact hc u h
    · subst h; exact hv u (by simp)

theorem setCells_heap {el : TypeId} {fr : Nat × Nat} {r : Nat} : ∀ (vs : List Value) (o : Nat) (c : Array Value) (w : World), w.heap[r]? = some (.cells c el fr) →
    (w.setCells r o vs).heap = w.heap.setIfInBounds r (.cells (putAll c o vs) el fr) ∧ (w.setCells r o vs).tape = w.tape ∧ (w.setCells r o vs).os = w.os ∧ (w.setCells r o vs).output = w.output
  | [], o, c, w, hc => by
    refine ⟨?_, rfl, rfl, rfl⟩
    show w.heap = _
    apply Array.ext_getElem?
    intro i
    rw [Array.getElem?_setIfInBounds]
    by_cases e : r = i
    · subst e
      have : r < w.heap.size := (Array.getElem?_eq_some_iff.1 hc).1
      rw [if_pos rfl, if_pos this, hc]; rfl
    · rw [if_neg e]
  | v :: vs, o, c, w, hc => by
    obtain ⟨q1, q2, q3, q4⟩ := setCell_heap (j := o) hc v
    have hlt : r < w.heap.size := (Array.getElem?_eq_some_iff.1 hc).1
    obtain ⟨p1, p2, p3, p4⟩ := setCells_heap vs (o + 1) (c.setIfInBounds o v) (w.setCell ⟨r, o, none⟩ v) (by rw [q1, Array.getElem?_setIfInBounds, if_pos rfl, if_pos hlt])
    refine ⟨?_, p2.trans q2, p3.trans q3, p4.trans q4⟩
    show ((w.setCell ⟨r, o, none⟩ v).setCells r (o + 1) vs).heap = _
    rw [p1, q1]
    apply Array.ext_getElem?
    intro i
    simp only [Array.getElem?_setIfInBounds, Array.size_setIfInBounds, putAll]
    by_cases e : r = i
    · subst e; simp [hlt]
    · simp [e]
end Go.Ax

namespace Go.Ax
variable {P : Program}

theorem seg_list {c : Array Value} {o l j : Nat} (h : j < l) : (seg c o l).toList.getD j Go.undef = c.getD (o + j) Go.undef := by
  rw [← seg_get c o l j h, ← getD_list]
theorem drop_getD (cs : List Value) (i k : Nat) : (cs.drop i).getD k Go.undef = cs.getD (i + k) Go.undef := by
  simp [List.getD_eq_getElem?_getD, List.getElem?_drop]

/-- what stands in a slice behind slices.Insert within it -/
theorem ins_ok {θ : Th} {c xc : Array Value} {st xt t1 t2 t3 : PT V} {o xo i l m n xn : Nat} (hst : ∀ j v, st.get j = some v → j < n ∧ VR θ v (c.getD j Go.undef)) (hxt : ∀ j v, xt.get j = some v → j < xn ∧ VR θ v (xc.getD j Go.undef))
    (hi : i < l) (m1 : st.move i o .nil 0 = some t1) (m2 : xt.move m xo t1 i = some t2) (m3 : st.move (l - i) (o + i) t2 (i + m) = some t3) (hsz : o + (l + m) ≤ c.size) :
    ∀ j v, t3.get j = some v → j < l + m ∧ VR θ v ((putAll (putAll c (o + (i + m)) ((seg c o l).toList.drop i)) (o + i) (seg xc xo m).toList).getD (o + j) Go.undef) := by
  intro j v hj
  rw [PT.get_move _ _ _ _ _ _ m3 j] at hj
  have hl1 : ((seg c o l).toList.drop i).length = l - i := by simp [seg]
  have hl2 : (seg xc xo m).toList.length = m := by simp [seg]
  obtain ⟨s1, g1⟩ := putAll_ok ((seg c o l).toList.drop i) c (o + (i + m))
  obtain ⟨s2, g2⟩ := putAll_ok (seg xc xo m).toList (putAll c (o + (i + m)) ((seg c o l).toList.drop i)) (o + i)
  have key : ∀ j, j < l + m → (putAll (putAll c (o + (i + m)) ((seg c o l).toList.drop i)) (o + i) (seg xc xo m).toList).getD (o + j) Go.undef =
      if i ≤ j ∧ j < i + m then xc.getD (xo + (j - i)) Go.undef else if i + m ≤ j then c.getD (o + i + (j - (i + m))) Go.undef else c.getD (o + j) Go.undef := by
    intro j hj
    rw [g2 (o + j) (by omega), hl2]
    by_cases h1 : i ≤ j ∧ j < i + m
    · rw [if_pos (by omega), if_pos h1, show o + j - (o + i) = j - i by omega, seg_list (by omega)]
    · rw [if_neg (by omega), if_neg h1, g1 (o + j) (by omega), hl1]
      by_cases h2 : i + m ≤ j
      · rw [if_pos (by omega), if_pos h2, show o + j - (o + (i + m)) = j - (i + m) by omega, drop_getD, seg_list (by omega)]
        congr 1; omega
      · rw [if_neg (by omega), if_neg h2]
  by_cases h3 : i + m ≤ j ∧ j < i + m + (l - i)
  · rw [if_pos h3] at hj
    refine ⟨by omega, ?_⟩
    rw [key j (by omega), if_neg (by omega), if_pos h3.1]
    exact (hst _ _ hj).2
  · rw [if_neg h3, PT.get_move _ _ _ _ _ _ m2 j] at hj
    by_cases h2 : i ≤ j ∧ j < i + m
    · rw [if_pos h2] at hj
      refine ⟨by omega, ?_⟩
      rw [key j (by omega), if_pos h2]
      exact (hxt _ _ hj).2
    · rw [if_neg h2, PT.get_move _ _ _ _ _ _ m1 j] at hj
      by_cases h1 : 0 ≤ j ∧ j < 0 + i
      · rw [if_pos h1] at hj
        refine ⟨by omega, ?_⟩
        rw [key j (by omega), if_neg h2, if_neg (by omega)]
        exact (hst _ _ hj).2
      · rw [if_neg h1, PT.get_nil] at hj; cases hj
end Go.Ax

namespace Go.Ax
variable {P : Program}

/-- slices.Insert at []int, by its contracts -/
structure IsInsert (P : Program) (g : FuncId) : Prop where
  enters : ∀ vs w, (callFunc g vs).run P w = .ok (.enter g vs) w
  shift : ∀ (b off n c i vb voff m vc : Nat) (cs vs : List Value) (w : World), i < n → 0 < m → n + m ≤ c → c ≤ 9223372036854775807 → vb ≠ b → cs.length = n → vs.length = m →
    (∀ j v, cs[j]? = some v → w.cell? ⟨b, off + j, none⟩ = some v) → (∀ j, j < n + m → (w.cell? ⟨b, off + j, none⟩).isSome = true) → (∀ j, j < n + m → w.frozen? ⟨b, off + j, none⟩ = false) →
    (∀ j v, vs[j]? = some v → w.cell? ⟨vb, voff + j, none⟩ = some v) → (∀ v ∈ cs, v.oneCell' = true) → (∀ v ∈ vs, v.oneCell' = true) →
    ∀ (tA tB : TypeId) (kA kB : Nat), w.shape? vb = some (tA, kA) → w.shape? b = some (tB, kB) → kB ≠ 0 → w.frozen? ⟨vb, voff, none⟩ = false → w.frozen? ⟨vb, kA, none⟩ = false →
    Calls P g #[.slice (some ⟨b, off, none⟩) n c, .int .i64 i, .slice (some ⟨vb, voff, none⟩) m vc] w fun e w' =>
      e = .returned (.slice (some ⟨b, off, none⟩) (n + m) c) ∧ w' = (w.drew.setCells b (off + (i + m)) (cs.drop i)).setCells b (off + i) vs
  grow : ∀ (b off n c i vb voff m vc : Nat) (cs vs : List Value) (w : World), i < n → 0 < m → n ≤ c → c < n + m → (n + m) * 8 ≤ 140737488355328 → cs.length = n → vs.length = m →
    (∀ j v, cs[j]? = some v → w.cell? ⟨b, off + j, none⟩ = some v) → (∀ j v, vs[j]? = some v → w.cell? ⟨vb, voff + j, none⟩ = some v) → (∀ v ∈ cs, v.oneCell' = true) → (∀ v ∈ vs, v.oneCell' = true) →
    Calls P g #[.slice (some ⟨b, off, none⟩) n c, .int .i64 i, .slice (some ⟨vb, voff, none⟩) m vc] w fun e w' =>
      e = .returned (.slice (some ⟨w.heap.size, 0, none⟩) (n + m) (grownCap w (n + m) c 3)) ∧
      w' = (((w.alloc (.cells ((cs.take i).toArray ++ Builtin.zeroCells (Value.int .i64 0).cells (n + m - i) ++ Builtin.zeroCells (Value.int .i64 0).cells (grownCap w (n + m) c 3 - (n + m))) 3)).drew.setCells w.heap.size i vs).drew).setCells w.heap.size (i + m) (cs.drop i)

theorem oneCell_flat {v : Value} (h : flat v = true) : v.oneCell' = true := by cases v <;> first | rfl | cases h

theorem seg_mem {c : Array Value} {o l : Nat} (hc : Flat c) (h : o + l ≤ c.size) : ∀ v ∈ (seg c o l).toList, flat v = true := fun v hv => seg_flat hc (fun j hj => by omega) v hv
theorem seg_at {c : Array Value} {o l j : Nat} {v : Value} (h : o + l ≤ c.size) (hv : (seg c o l).toList[j]? = some v) : c[o + j]? = some v := by
  have hj : j < l := by have := (List.getElem?_eq_some_iff.1 hv).1; simpa [seg] using this
  have h2 := seg_list (c := c) (o := o) hj
  rw [List.getD_eq_getElem?_getD, hv, Option.getD_some, Array.getD_eq_getD_getElem?, Array.getElem?_eq_getElem (by omega), Option.getD_some] at h2
  rw [Array.getElem?_eq_getElem (by omega), h2]

/-- Insert in place -/
theorem shift_calls {g : FuncId} (hg : IsInsert P g) {w : World} {r rx o xo l m i C vc : Nat} {c xc : Array Value} {el xel : TypeId} (hr : w.heap[r]? = some (.cells c el (0, 0))) (hx : w.heap[rx]? = some (.cells xc xel (0, 0))) (hne : rx ≠ r)
    (hfc : Flat c) (hfx : Flat xc) (hi : i < l) (hm : 0 < m) (hroom : l + m ≤ C) (hC : C ≤ maxCap) (hsz : o + (l + m) ≤ c.size) (hxz : xo + m ≤ xc.size) :
    ∃ W, Calls P g #[.slice (some ⟨r, o, none⟩) l C, .int .i64 i, .slice (some ⟨rx, xo, none⟩) m vc] w (fun e w' => e = .returned (.slice (some ⟨r, o, none⟩) (l + m) C) ∧ w' = W) ∧
      W.heap = w.heap.setIfInBounds r (.cells (putAll (putAll c (o + (i + m)) ((seg c o l).toList.drop i)) (o + i) (seg xc xo m).toList) el (0, 0)) ∧ W.tape = w.tape ∧ W.os = w.os ∧ W.output = w.output := by
  have hfz : ∀ j, w.frozen? ⟨r, j, none⟩ = false := Lib.frozen_of_heap hr
  have hfzx : ∀ j, w.frozen? ⟨rx, j, none⟩ = false := Lib.frozen_of_heap hx
  refine ⟨_, hg.shift r o l C i rx xo m vc (seg c o l).toList (seg xc xo m).toList w hi hm hroom hC hne (by simp [seg]) (by simp [seg])
    (fun j v hv => by rw [Lib.cell_of_heap hr]; exact seg_at (by omega) hv) (fun j hj => by rw [Lib.cell_of_heap hr, Array.getElem?_eq_getElem (by omega)]; rfl) (fun j _ => hfz _)
    (fun j v hv => by rw [Lib.cell_of_heap hx]; exact seg_at hxz hv) (fun v hv => oneCell_flat (seg_mem hfc (by omega) v hv)) (fun v hv => oneCell_flat (seg_mem hfx hxz v hv))
    xel el xc.size c.size (by unfold World.shape?; rw [hx]) (by unfold World.shape?; rw [hr]) (by omega) (hfzx _) (hfzx _), ?_⟩
  have hlt : r < w.heap.size := (Array.getElem?_eq_some_iff.1 hr).1
  obtain ⟨a1, a2, a3, a4⟩ := setCells_heap (r := r) ((seg c o l).toList.drop i) (o + (i + m)) c w.drew hr
  obtain ⟨b1, b2, b3, b4⟩ := setCells_heap (r := r) (el := el) (fr := (0, 0)) (seg xc xo m).toList (o + i) (putAll c (o + (i + m)) ((seg c o l).toList.drop i)) (w.drew.setCells r (o + (i + m)) ((seg c o l).toList.drop i)) (by
    rw [a1, Array.getElem?_setIfInBounds, if_pos rfl]; exact if_pos hlt)
  refine ⟨?_, b2.trans a2, b3.trans a3, b4.trans a4⟩
  have hh : w.drew.heap = w.heap := rfl
  rw [b1, a1, hh]
  apply Array.ext_getElem?
  intro k
  simp only [Array.getElem?_setIfInBounds, Array.size_setIfInBounds]
  by_cases e : r = k
  · subst e; simp [hlt]
  · simp [e]
end Go.Ax

namespace Go.Ax
variable {P : Program}

theorem zeros_size (n : Nat) : (Builtin.zeroCells (Value.int .i64 0).cells n).size = n := by simp [Builtin.zeroCells, Value.cells]
theorem zeros_flat (n : Nat) : Flat (Builtin.zeroCells (Value.int .i64 0).cells n) := by
  intro v hv
  simp only [Builtin.zeroCells, Array.toList_map, List.mem_map] at hv
  obtain ⟨j, _, rfl⟩ := hv
  simp [Value.cells, Nat.mod_one, flat]

/-- Insert into a new block -/
theorem grow_calls {g : FuncId} (hg : IsInsert P g) {w : World} {r rx o xo l m i C vc : Nat} {c xc : Array Value} {el xel : TypeId} (hr : w.heap[r]? = some (.cells c el (0, 0))) (hx : w.heap[rx]? = some (.cells xc xel (0, 0)))
    (hfc : Flat c) (hfx : Flat xc) (hi : i < l) (hm : 0 < m) (hlC : l ≤ C) (hroom : C < l + m) (hbig : (l + m) * 9 ≤ 1073741824) (hsz : o + l ≤ c.size) (hxz : xo + m ≤ xc.size) :
    ∃ W κ fin, Calls P g #[.slice (some ⟨r, o, none⟩) l C, .int .i64 i, .slice (some ⟨rx, xo, none⟩) m vc] w (fun e w' => e = .returned (.slice (some ⟨w.heap.size, 0, none⟩) (l + m) κ) ∧ w' = W) ∧
      l + m ≤ κ ∧ κ ≤ maxCap ∧ W.heap = w.heap.push (.cells fin 3 (0, 0)) ∧ W.tape = w.tape ∧ W.os = w.os ∧ W.output = w.output ∧ fin.size = κ ∧ Flat fin ∧
      ∀ j, j < l + m → fin.getD j Go.undef = if i ≤ j ∧ j < i + m then xc.getD (xo + (j - i)) Go.undef else if i + m ≤ j then c.getD (o + i + (j - (i + m))) Go.undef else c.getD (o + j) Go.undef := by
  have hκ1 : l + m ≤ grownCap w (l + m) C 3 := by unfold grownCap; simp only [Question.cut]; omega
  have hκ2 : grownCap w (l + m) C 3 ≤ maxCap := cap_le (B := 8) hbig
  generalize hκ : grownCap w (l + m) C 3 = κ at hκ1 hκ2
  have hC := hg.grow r o l C i rx xo m vc (seg c o l).toList (seg xc xo m).toList w hi hm hlC hroom (by omega) (by simp [seg]) (by simp [seg])
    (fun j v hv => by rw [Lib.cell_of_heap hr]; exact seg_at (by omega) hv) (fun j v hv => by rw [Lib.cell_of_heap hx]; exact seg_at hxz hv)
    (fun v hv => oneCell_flat (seg_mem hfc (by omega) v hv)) (fun v hv => oneCell_flat (seg_mem hfx hxz v hv))
  rw [hκ] at hC
  generalize hrow : (((seg c o l).toList.take i).toArray ++ Builtin.zeroCells (Value.int .i64 0).cells (l + m - i) ++ Builtin.zeroCells (Value.int .i64 0).cells (κ - (l + m))) = row at hC
  have hrs : row.size = κ := by
    rw [← hrow]
    simp only [Array.size_append, zeros_size, List.size_toArray, List.length_take, Array.length_toList, seg_size]
    omega
  have hrf : Flat row := by
    rw [← hrow]
    intro v hv
    simp only [Array.toList_append, List.mem_append] at hv
    rcases hv with (h | h) | h
    · exact seg_mem hfc (by omega) v (List.mem_of_mem_take h)
    · exact zeros_flat _ v h
    · exact zeros_flat _ v h
  have hw0 : (w.alloc (.cells row 3)).heap = w.heap.push (.cells row 3 (0, 0)) := rfl
  have hl1 : ((seg c o l).toList.drop i).length = l - i := by simp [seg]
  have hl2 : (seg xc xo m).toList.length = m := by simp [seg]
  obtain ⟨a1, a2, a3, a4⟩ := setCells_heap (r := w.heap.size) (el := 3) (fr := (0, 0)) (seg xc xo m).toList i row (w.alloc (.cells row 3)).drew (by show (w.heap.push _)[w.heap.size]? = _; simp)
  obtain ⟨b1, b2, b3, b4⟩ := setCells_heap (r := w.heap.size) (el := 3) (fr := (0, 0)) ((seg c o l).toList.drop i) (i + m) (putAll row i (seg xc xo m).toList) ((w.alloc (.cells row 3)).drew.setCells w.heap.size i (seg xc xo m).toList).drew (by
    show ((w.alloc (.cells row 3)).drew.setCells w.heap.size i (seg xc xo m).toList).heap[w.heap.size]? = _
    rw [a1, Array.getElem?_setIfInBounds, if_pos rfl]
    refine if_pos ?_
    show w.heap.size < (w.heap.push _).size
    simp)
  obtain ⟨s1, g1⟩ := putAll_ok (seg xc xo m).toList row i
  obtain ⟨s2, g2⟩ := putAll_ok ((seg c o l).toList.drop i) (putAll row i (seg xc xo m).toList) (i + m)
  refine ⟨_, κ, putAll (putAll row i (seg xc xo m).toList) (i + m) ((seg c o l).toList.drop i), hC, hκ1, hκ2, ?_, b2.trans a2, b3.trans a3, b4.trans a4, by rw [s2, s1, hrs], ?_, fun j hj => ?_⟩
  · rw [b1]
    show ((w.alloc (.cells row 3)).drew.setCells w.heap.size i (seg xc xo m).toList).heap.setIfInBounds _ _ = _
    rw [a1]
    show ((w.heap.push (.cells row 3 (0, 0))).setIfInBounds _ _).setIfInBounds _ _ = _
    apply Array.ext_getElem?
    intro k
    simp only [Array.getElem?_setIfInBounds, Array.size_setIfInBounds, Array.size_push, Array.getElem?_push]
    by_cases e : w.heap.size = k
    · subst e; simp
    · have : k ≠ w.heap.size := Ne.symm e
      simp [e, this]
  · exact putAll_flat _ _ _ (putAll_flat _ _ _ hrf (seg_mem hfx hxz)) (fun v hv => seg_mem hfc (by omega) v (List.mem_of_mem_drop hv))
  · rw [g2 j (by omega), hl1]
    by_cases h2 : i + m ≤ j ∧ j < i + m + (l - i)
    · rw [if_pos h2, if_neg (by omega), if_pos h2.1, drop_getD, seg_list (by omega)]
      congr 1; omega
    · rw [if_neg h2, g1 j (by omega), hl2]
      by_cases h1 : i ≤ j ∧ j < i + m
      · rw [if_pos h1, if_pos h1, seg_list (by omega)]
      · rw [if_neg h1, if_neg h1, if_neg (by omega)]
        have hji : j < i := by omega
        rw [← hrow, Array.getD_eq_getD_getElem?, Array.getElem?_append_left (by simp [seg]; omega), Array.getElem?_append_left (by simp [seg]; omega)]
        have := seg_list (c := c) (o := o) (l := l) (j := j) (by omega)
        rw [← this, List.getD_eq_getElem?_getD]
        simp [List.getElem?_take, hji]
end Go.Ax

namespace Go.Ax
variable {P : Program}

theorem three_true {args : List V} {k : V → V → V → Bool} (h : three args k false = true) : ∃ a b c, args = [a, b, c] ∧ k a b c = true := by
  cases args with
  | nil => cases h
  | cons a l =>
    obtain ⟨b, c, rfl, h1⟩ := two_true (k := fun b c => k a b c) (args := l) h
    exact ⟨a, b, c, rfl, h1⟩
theorem VRs.three {θ : Th} {a b c : V} {vs : Array Value} (h : VRs θ [a, b, c] vs.toList) : ∃ x y z, vs = #[x, y, z] ∧ VR θ a x ∧ VR θ b y ∧ VR θ c z := by
  generalize hl : vs.toList = l at h
  cases h with
  | cons _ _ x _ h1 h2 => cases h2 with
    | cons _ _ y _ h3 h4 => cases h4 with
      | cons _ _ z _ h5 h6 => cases h6; exact ⟨x, y, z, Array.toList_inj.1 hl, h1, h3, h5⟩

/-- the block, in place -/
theorem ins_place {θ : Th} {x : A} {c xc : Array Value} {st xt t1 t2 t3 t4 : PT V} {o xo i l m n xn tg : Nat} {gr : Bool} {el : {e : TypeId // Tag gr tg e}} (hfc : Flat c) (hfx : Flat xc) (hst : ∀ j v, st.get j = some v → j < n ∧ VR θ v (c.getD j Go.undef)) (hxt : ∀ j v, xt.get j = some v → j < xn ∧ VR θ v (xc.getD j Go.undef))
    (hi : i < l) (m1 : st.move i o .nil 0 = some t1) (m2 : xt.move m xo t1 i = some t2) (m3 : st.move (l - i) (o + i) t2 (i + m) = some t3) (m4 : t3.move (l + m) 0 st o = some t4) (hle : o + (l + m) ≤ n) (hnc : n ≤ c.size) (hxz : xo + m ≤ xc.size)
    (h5 : gr = false → c.size = n) (h6 : gr = true → c.size = θ.κ x * szOf tg) :
    BR θ x (.cells n gr tg t4) (.cells (putAll (putAll c (o + (i + m)) ((seg c o l).toList.drop i)) (o + i) (seg xc xo m).toList) el.1 (0, 0)) := by
  obtain ⟨s1, g1⟩ := putAll_ok ((seg c o l).toList.drop i) c (o + (i + m))
  obtain ⟨s2, g2⟩ := putAll_ok (seg xc xo m).toList (putAll c (o + (i + m)) ((seg c o l).toList.drop i)) (o + i)
  have hl1 : ((seg c o l).toList.drop i).length = l - i := by simp [seg]
  have hl2 : (seg xc xo m).toList.length = m := by simp [seg]
  refine ⟨_, el, rfl, putAll_flat _ _ _ (putAll_flat _ _ _ hfc (fun v hv => seg_mem hfc (by omega) v (List.mem_of_mem_drop hv))) (seg_mem hfx hxz), fun j v hj => ?_, by rw [s2, s1]; exact hnc, fun e => by rw [s2, s1]; exact h5 e, fun e => by rw [s2, s1]; exact h6 e⟩
  rw [PT.get_move _ _ _ _ _ _ m4 j] at hj
  by_cases hr : o ≤ j ∧ j < o + (l + m)
  · rw [if_pos hr, Nat.zero_add] at hj
    have := ins_ok hst hxt hi m1 m2 m3 (by omega) (j - o) v hj
    rw [show o + (j - o) = j by omega] at this
    exact ⟨by omega, this.2⟩
  · rw [if_neg hr] at hj
    obtain ⟨q1, q2⟩ := hst j v hj
    refine ⟨q1, ?_⟩
    rw [g2 j (by omega), hl2, if_neg (by omega), g1 j (by omega), hl1, if_neg (by omega)]
    exact q2

/-- Insert within the slice -/
theorem ins_main {g : FuncId} (hg : IsInsert P g) {θ : Th} {h : Hp} {nx : A} {w : World} (hm : MRx P θ h nx w) {xb : A} {xo rx vc m i l ks : Nat} {bs : Option Addr} (hrx : θ.ρ xb = some rx) {s : V} (hs : VR θ s (.slice bs l ks)) (hil : i < l) (hm0 : 0 < m) {kc : KC}
    (hk : insertK s i l m (.sl xb xo m false vc) ⟨h, nx, [], none⟩ (fun v cx => cxH cx fun h nx _ _ => kc v h nx) = true) : CalleeN P θ h w g #[.slice bs l ks, .int .i64 (i : Int), .slice (some ⟨rx, xo, none⟩) m vc] kc := by
  obtain ⟨xn, xg, xsz, xt, hxb, h1⟩ := hcellsK_true (show hcellsK h xb _ false = true from hk)
  rw [asSl_eq] at h1
  obtain ⟨ox, hpx, xc, xel, rfl, hxf, hxt, hxn, hx5, hx6⟩ := hm.blk xb _ rx hxb hrx
  have go : ∀ {b : A} {o c C r : Nat} {u : Bool}, θ.ρ b = some r → bs = some ⟨r, o, none⟩ → ks = C → l ≤ C → (u = false → c = C) → (u = true → C = θ.κ b - c ∧ c + l ≤ θ.κ b) →
      iteK (A.beq b xb) false (hcellsK h b (fun n g bz st =>
      moveK i st o .nil 0 (fun t => moveK m xt xo t i (fun t => moveK (Nat.sub l i) st (Nat.add o i) t (Nat.add i m) (fun t => forceN (Nat.add l m) fun need =>
        iteK u
          (iteK (g && Nat.beq bz 1) (iteK (Nat.ble (Nat.add c need) n)
            (intoK b o t 0 need ⟨h, nx, [], none⟩ fun cx => (fun v cx => cxH cx fun h nx _ _ => kc v h nx) (.sl b o need u c) cx)
            (iteK (Nat.beq o 0) (iteK (Nat.beq c 0) (growK 8 1 1 need (some b) t need .nil 0 0 ⟨h, nx, [], none⟩ (fun v cx => cxH cx fun h nx _ _ => kc v h nx)) false) false)) false)
          (iteK (Nat.ble need c)
            (iteK (Nat.ble c 1073741824) (intoK b o t 0 need ⟨h, nx, [], none⟩ fun cx => (fun v cx => cxH cx fun h nx _ _ => kc v h nx) (.sl b o need u c) cx) false)
            (growK 8 1 1 need none t need .nil 0 0 ⟨h, nx, [], none⟩ (fun v cx => cxH cx fun h nx _ _ => kc v h nx)))) false) false) false) false) = true → CalleeN P θ h w g #[.slice bs l ks, .int .i64 (i : Int), .slice (some ⟨rx, xo, none⟩) m vc] kc := by
    intro b o c C r u hr e1 e2 hlC hC0 hC1 hh
    subst e1; subst e2
    obtain ⟨hne, h2⟩ := iteK_false hh
    obtain ⟨n, gr, bz, st, hb, h3⟩ := hcellsK_true h2
    obtain ⟨t1, m1, h4⟩ := moveK_true h3
    obtain ⟨t2, m2, h5⟩ := moveK_true h4
    obtain ⟨t3, m3, h6⟩ := moveK_true h5
    rw [forceN_eq] at h6
    obtain ⟨ob, hpb, cc, el, rfl, hbf, hbt, hbn, hb5, hb6⟩ := hm.blk b _ r hb hr
    have hrne : rx ≠ r := fun e => by
      subst e
      have := hm.inj xb b _ _ rx hxb hb hrx hr
      subst this
      have : A.beq xb xb = true := A.beq_iff.2 rfl
      rw [this] at hne; cases hne
    have hxz : xo + m ≤ xc.size := by
      obtain ⟨v, hv⟩ := PT.move_some _ _ _ _ _ _ m2 (m - 1) (by omega)
      have := (hxt _ _ hv).1
      omega
    -- in place, the room known
    have place : l + m ≤ ks → ks ≤ maxCap → ∀ {c u}, VR θ (.sl b o (l + m) u c) (.slice (some ⟨r, o, none⟩) (l + m) ks) → intoK b o t3 0 (l + m) ⟨h, nx, [], none⟩ (fun cx => cxH cx fun h nx _ _ => kc (.sl b o (l + m) u c) h nx) = true →
        CalleeN P θ h w g #[.slice (some ⟨r, o, none⟩) l ks, .int .i64 (i : Int), .slice (some ⟨rx, xo, none⟩) m vc] kc := by
      intro hroom hcap c u hv hin
      obtain ⟨n', g', bz', st', hb', k1⟩ := hcellsK_true (show hcellsK h b _ false = true from hin)
      rw [hb] at hb'
      injection hb' with hb'
      injection hb' with e1 e2 e3 e4
      subst e1; subst e2; subst e3; subst e4
      obtain ⟨hfit, k2⟩ := iteK_true k1
      have hfit : o + (l + m) ≤ n := ble_le hfit
      obtain ⟨t4, m4, k3⟩ := moveK_true k2
      rw [hsetK_eq] at k3
      obtain ⟨W, w1, w2, w3, w4, w5⟩ := shift_calls (o := o) (xo := xo) hg hpb hpx hrne hbf hxf hil hm0 hroom hcap (vc := vc) (by omega) hxz
      have hbr := ins_place (x := b) (el := el) hbf hxf hbt hxt hil m1 m2 m3 m4 hfit hbn hxz hb5 hb6
      have hS := MR.set hm hb rfl hr hbr W w2 w3 w4 w5
      refine callee_of_calls (hg.enters _ _) w1 k3 hv ?_ ?_
      · simp only [MRx, hget_hset_some]; exact hS.1
      · simp only [hget_hset_some]; exact hS.2
    -- a new block
    have fresh : ∀ {h0 : Hp} {ny : A}, MRx P θ h0 nx w → Fm θ (hget h) w θ (hget h0) w → ks < l + m → (l + m) * 9 ≤ 1073741824 → nx.next = some ny →
        kc (.sl nx 0 (l + m) true 0) (hset h0 nx (some (.cells ((l + m) * 1) true 1 t3))) ny = true → CalleeN P θ h w g #[.slice (some ⟨r, o, none⟩) l ks, .int .i64 (i : Int), .slice (some ⟨rx, xo, none⟩) m vc] kc := by
      intro h0 ny hm0' hf0 hlt hbig hy hkc
      have hol : o + l ≤ cc.size := by
        rcases Nat.eq_zero_or_pos (l - i) with e | e
        · omega
        · obtain ⟨v, hv⟩ := PT.move_some _ _ _ _ _ _ m3 (l - i - 1) (show l - i - 1 < Nat.sub l i by simp only [Nat.sub_eq]; omega)
          have := (hbt _ _ hv).1
          simp only [Nat.add_eq] at this
          omega
      obtain ⟨W, κ, fin, w1, k1, k2, w2, w3, w4, w5, f1, f2, f3⟩ := grow_calls (o := o) (xo := xo) hg hpb hpx hbf hxf hil hm0 hlC hlt (vc := vc) hbig hol hxz
      have hle := Th.le_add (hm0'.fresh nx (Nat.le_refl _)) w.heap.size κ
      have hbr : BR (θ.add nx w.heap.size κ) nx (.cells ((l + m) * 1) true 1 t3) (.cells fin 3 (0, 0)) := by
        refine ⟨fin, ⟨3, fun e => (by cases e), fun _ e => (by cases e)⟩, rfl, f2, fun j v hj => ?_, by rw [f1]; omega, fun e => (by cases e), fun _ => by rw [Th.add_self_κ _ _ _ _ k2, f1]; exact (Nat.mul_one κ).symm⟩
        rw [PT.get_move _ _ _ _ _ _ m3 j] at hj
        by_cases q3 : Nat.add i m ≤ j ∧ j < Nat.add i m + Nat.sub l i
        · rw [if_pos q3] at hj
          simp only [Nat.add_eq, Nat.sub_eq] at q3 hj
          refine ⟨by omega, ?_⟩
          rw [f3 j (by omega), if_neg (by omega), if_pos q3.1]
          exact (hbt _ _ hj).2.mono hle
        · rw [if_neg q3, PT.get_move _ _ _ _ _ _ m2 j] at hj
          simp only [Nat.add_eq, Nat.sub_eq] at q3
          by_cases q2 : i ≤ j ∧ j < i + m
          · rw [if_pos q2] at hj
            refine ⟨by omega, ?_⟩
            rw [f3 j (by omega), if_pos q2]
            exact (hxt _ _ hj).2.mono hle
          · rw [if_neg q2, PT.get_move _ _ _ _ _ _ m1 j] at hj
            by_cases q1 : 0 ≤ j ∧ j < 0 + i
            · rw [if_pos q1] at hj
              refine ⟨by omega, ?_⟩
              rw [f3 j (by omega), if_neg q2, if_neg (by omega)]
              exact (hbt _ _ hj).2.mono hle
            · rw [if_neg q1, PT.get_nil] at hj; cases hj
      have hN := MR.new hm0' hy κ hbr
      have hv : VR (θ.add nx w.heap.size κ) (.sl nx 0 (l + m) true 0) (.slice (some ⟨w.heap.size, 0, none⟩) (l + m) κ) := by
        have := VR.slu (θ := θ.add nx w.heap.size κ) nx 0 (l + m) 0 w.heap.size (Th.add_self _ _ _ _) (by rw [Th.add_self_κ _ _ _ _ k2]; omega)
        rw [Th.add_self_κ _ _ _ _ k2, Nat.sub_zero] at this
        exact this
      refine callee_of_calls (hg.enters _ _) w1 hkc hv ?_ ?_
      · simp only [MRx, hget_hset_some]; exact MR.of_heap hN.1 w2
      · simp only [hget_hset_some]; exact hf0.trans (hN.2.trans (Fm.of_heap _ _ w2 w3 w4 w5))
    have big : (1073741824 : Nat) ≤ maxCap := by decide
    cases u with
    | false =>
      obtain rfl : c = ks := hC0 rfl
      rw [iteK_eq, cond_false] at h6
      cases hq : Nat.ble (Nat.add l m) c with
      | true =>
        rw [hq, iteK_eq, cond_true] at h6
        obtain ⟨hc, h7⟩ := iteK_true h6
        exact place (ble_le hq) (Nat.le_trans (ble_le hc) big) (VR.slk b o (l + m) c r hr (ble_le hq)) h7
      | false =>
        rw [hq, iteK_eq, cond_false] at h6
        obtain ⟨hb9, t', ny, hmv, hy, h7⟩ := growK_true h6
        obtain rfl : t3 = t' := by injection hmv
        have hlt : c < l + m := by
          rcases Nat.lt_or_ge c (l + m) with h | h
          · exact h
          · have : Nat.ble (Nat.add l m) c = true := Nat.ble_eq_true_of_le h
            rw [this] at hq; cases hq
        exact fresh hm (Fm.refl _ _ _) hlt hb9 hy h7
    | true =>
      obtain ⟨hCe, hcl⟩ := hC1 rfl
      rw [iteK_eq, cond_true] at h6
      obtain ⟨hgb, h7⟩ := iteK_true h6
      rw [Bool.and_eq_true] at hgb
      obtain ⟨rfl, hbz⟩ := hgb
      obtain rfl : bz = 1 := Nat.eq_of_beq_eq_true hbz
      have hκs : cc.size = θ.κ b := by rw [hb6 rfl]; exact Nat.mul_one _
      have hκm : ks ≤ maxCap := by have := θ.hκ b; omega
      cases hq : Nat.ble (Nat.add c (Nat.add l m)) n with
      | true =>
        rw [hq, iteK_eq, cond_true] at h7
        have hq : c + (l + m) ≤ n := ble_le hq
        refine place (by omega) hκm (c := c) (u := true) ?_ h7
        have := VR.slu (θ := θ) b o (l + m) c r hr (by omega)
        rwa [← hCe] at this
      | false =>
        rw [hq, iteK_eq, cond_false] at h7
        obtain ⟨ho0, h8⟩ := iteK_true h7
        obtain ⟨hc0, h9⟩ := iteK_true h8
        obtain rfl : o = 0 := Nat.eq_of_beq_eq_true ho0
        obtain rfl : c = 0 := Nat.eq_of_beq_eq_true hc0
        obtain ⟨hb9, t', ny, hmv, hy, h10⟩ := growK_true h9
        obtain rfl : t3 = t' := by injection hmv
        rw [Nat.sub_zero] at hCe
        rcases Nat.lt_or_ge ks (l + m) with hlt | hge
        · have hsub := MR.sub (m' := mdel (hget h) b) hm (fun x q hq => by
            simp only [mdel] at hq
            split at hq
            · cases hq
            · exact hq) (fun x h0 => by
            have ne : x ≠ b := fun e => by subst e; rw [hr] at h0; cases h0
            simp only [mdel, if_neg ne])
          exact fresh (h0 := hset h b none) (by simp only [MRx, hget_hset_none]; exact hsub.1) (by simp only [hget_hset_none]; exact hsub.2) hlt hb9 hy h10
        · obtain ⟨W, w1, w2, w3, w4, w5⟩ := shift_calls (o := 0) (xo := xo) hg hpb hpx hrne hbf hxf hil hm0 hge hκm (vc := vc) (by omega) hxz
          have hle := Th.le_add (hm.fresh nx (Nat.le_refl _)) r (θ.κ b)
          obtain ⟨s1, g1⟩ := putAll_ok ((seg cc 0 l).toList.drop i) cc (0 + (i + m))
          obtain ⟨s2, g2⟩ := putAll_ok (seg xc xo m).toList (putAll cc (0 + (i + m)) ((seg cc 0 l).toList.drop i)) (0 + i)
          have hbr : BR (θ.add nx r (θ.κ b)) nx (.cells ((l + m) * 1) true 1 t3) (.cells (putAll (putAll cc (0 + (i + m)) ((seg cc 0 l).toList.drop i)) (0 + i) (seg xc xo m).toList) el.1 (0, 0)) := by
            refine ⟨_, ⟨el.1, fun e => (by cases e), fun _ e => (by cases e)⟩, rfl, putAll_flat _ _ _ (putAll_flat _ _ _ hbf (fun v hv => seg_mem hbf (by omega) v (List.mem_of_mem_drop hv))) (seg_mem hxf hxz), fun j v hj => ?_, by rw [s2, s1]; omega, fun e => (by cases e), fun _ => by rw [s2, s1, Th.add_self_κ _ _ _ _ (θ.hκ b), hκs]; exact (Nat.mul_one _).symm⟩
            have := ins_ok hbt hxt hil m1 m2 m3 (by omega) j v hj
            rw [Nat.zero_add j] at this
            exact ⟨by omega, this.2.mono hle⟩
          have hA := MR.alias hm hy hb rfl hr (θ.κ b) hbr W w2 w3 w4 w5
          have hv : VR (θ.add nx r (θ.κ b)) (.sl nx 0 (l + m) true 0) (.slice (some ⟨r, 0, none⟩) (l + m) ks) := by
            have := VR.slu (θ := θ.add nx r (θ.κ b)) nx 0 (l + m) 0 r (Th.add_self _ _ _ _) (by rw [Th.add_self_κ _ _ _ _ (θ.hκ b)]; omega)
            rw [Th.add_self_κ _ _ _ _ (θ.hκ b), Nat.sub_zero] at this
            rw [hCe]; exact this
          refine callee_of_calls (hg.enters _ _) w1 h10 hv ?_ ?_
          · simp only [MRx, hget_hset_some, hget_hset_none]; exact hA.1
          · simp only [hget_hset_some, hget_hset_none]; exact hA.2
  cases hs with
  | slk b o l c r hr hl => exact go (u := false) hr rfl rfl hl (fun _ => rfl) (fun e => by cases e) h1
  | slu b o l c r hr hl => exact go (u := true) hr rfl rfl (by omega) (fun e => by cases e) (fun _ => ⟨rfl, hl⟩) h1
  | sln => cases h1
  | slz ad c => cases h1

theorem insert_ok {g : FuncId} (hg : IsInsert P g) {nat : List V → Hp → A → KC → Bool} (hN : ∀ {args h nx k θ w vs}, nat args h nx k = true → MRx P θ h nx w → VRs θ args (Array.toList vs) → CalleeN P θ h w g vs k)
    {args h nx k θ w vs} (hk : insertF.f nat args h nx k = true) (hm : MRx P θ h nx w) (hv : VRs θ args (Array.toList vs)) : CalleeN P θ h w g vs k := by
  obtain ⟨s, iv, x, rfl, h1⟩ := three_true hk
  obtain ⟨cs, ci, cx, rfl, hs, hi, hx⟩ := hv.three
  obtain ⟨bs, l, ks, rfl, h2⟩ := lenK_ok hs h1
  obtain ⟨bx, m, kx, rfl, h3⟩ := lenK_ok hx h2
  rw [asI_eq] at h3
  cases hi with
  | i n0 =>
    obtain ⟨h4, h5⟩ := iteK_true h3
    rw [forceN_eq] at h5
    have h4 := ble_le h4
    have hun : unb n0 = ((n0 - B63 : Nat) : Int) := by unfold unb; omega
    have hsub : Nat.sub n0 B63 = n0 - B63 := rfl
    rw [hsub] at h5
    generalize hi0 : n0 - B63 = i at h5 hun
    cases hq : (Nat.blt i l && Nat.blt 0 m) with
    | false => rw [hq, iteK_eq, cond_false] at h5; exact hN h5 hm hv
    | true =>
      rw [hq, iteK_eq, cond_true] at h5
      rw [Bool.and_eq_true] at hq
      have hil : i < l := ble_le hq.1
      have hm0 : 0 < m := ble_le hq.2
      rw [hun]
      cases hx with
      | slk xb xo _ c r hr hl => exact ins_main hg hm hr hs hil hm0 h5
      | slu xb xo _ c r hr hl => exact ins_main hg hm hr hs hil hm0 h5
      | sln => cases h5
      | slz ad c => cases h5
  | _ => cases h3
end Go.Ax
