/-
  The executor is right, part 2: slices, maps, strings.
-/
import Derived.Test.YtpppjkkncgkffaaGreatDoorExb
import Derived.Laws.StructEq
import Derived.Lib.UnsafeStr
import Derived.Lib.Builder
import Derived.Laws.BytesString
set_option linter.unusedVariables false
set_option linter.unusedSimpArgs false
namespace Go.Ax
variable {P : Program}

theorem PT.move_some {α : Type} (s : PT α) : ∀ (cnt so : Nat) (d : PT α) (at_ : Nat) (t : PT α), s.move cnt so d at_ = some t → ∀ j, j < cnt → ∃ v, s.get (so + j) = some v := by
  intro cnt
  induction cnt with
  | zero => intro so d at_ t h j hj; omega
  | succ cnt ih =>
    intro so d at_ t h j hj
    simp only [PT.move] at h
    cases hs : s.get so with
    | none => simp [hs] at h
    | some v =>
      simp only [hs] at h
      cases j with
      | zero => exact ⟨v, hs⟩
      | succ j =>
        obtain ⟨u, hu⟩ := ih _ _ _ _ h j (by omega)
        exact ⟨u, by rw [← hu]; congr 1; omega⟩

section
variable {θ : Th} {e : Env} {a : Act} {h : Hp} {nx : A} {ds : List D} {rnd : Option A} {w : World} {o : Oper} {k : V → Cx → Bool}

theorem lenK_ok {x : V} {cx : Value} (hx : VR θ x cx) {k : Nat → Bool} (hk : lenK x k = true) : ∃ b l c, cx = .slice b l c ∧ k l = true := by
  cases hx <;> first | exact absurd hk Bool.false_ne_true | exact ⟨_, _, _, rfl, hk⟩

/-- what is read of the cells that a tree stands for -/
def Reads (P : Program) (θ : Th) (w : World) (s : PT V) (so : Nat) (cx : Value) : Prop :=
  ∀ size n, (∀ j, j < n * size → ∃ v, s.get (so + j) = some v) →
    ∃ vs : Array Value, (∀ w' : World, w'.heap = w.heap → (Builtin.firstCells size n cx).run P w' = .ok vs w') ∧ vs.size = n * size ∧ Flat vs ∧ ∀ j v, j < n * size → s.get (so + j) = some v → VR θ v (vs.getD j Go.undef)

theorem reads_nil {cx : Value} {b : Option Addr} {l c : Nat} (hc : cx = .slice b l c) (so : Nat) : Reads P θ w .nil so cx := fun size n hj => by
  have h0 : n * size = 0 := by
    rcases Nat.eq_zero_or_pos (n * size) with e | e
    · exact e
    · obtain ⟨v, hv⟩ := hj 0 e
      rw [PT.get_nil] at hv; cases hv
  subst hc
  refine ⟨#[], fun w' _ => ?_, by simp [h0], fun v hv => by simp at hv, fun j v hj _ => by omega⟩
  cases b with
  | none => rfl
  | some b => simp only [Builtin.firstCells, h0]; rfl

theorem reads_blk (hm : MRx P θ h nx w) {x : A} {n : Nat} {tr : PT V} (hx : (∃ g s, hget h x = some (.cells n g s tr)) ∨ hget h x = some (.ro n tr)) {r : Nat} (hr : θ.ρ x = some r) (o l c : Nat) : Reads P θ w tr o (.slice (some ⟨r, o, none⟩) l c) := fun size n' hj => by
  obtain ⟨cs, el, fr, hc, hfl, hn, hcv⟩ := hm.reads hx hr
  have hlt : ∀ j, j < n' * size → o + j < cs.size := fun j hj' => by
    obtain ⟨v, hv⟩ := hj j hj'
    have := (hcv _ _ hv).1
    omega
  refine ⟨seg cs o (n' * size), fun w' hw => run_seg (by rw [hw]; exact hc) hlt, seg_size _ _ _, seg_flat hfl hlt, fun j v hj' hv => ?_⟩
  rw [seg_get _ _ _ _ hj']
  exact (hcv _ _ hv).2

theorem srcK_ok (hm : MRx P θ h nx w) {x : V} {cx : Value} (hx : VR θ x cx) {k : PT V → Nat → Bool} (hk : srcK x h k = true) : ∃ s so, k s so = true ∧ Reads P θ w s so cx := by
  cases hx <;> try exact absurd hk Bool.false_ne_true
  case slk x o l c r hr hl =>
    have hk : iteK (Nat.beq l 0) (k .nil 0) (hreadK h x (fun _ tr => k tr o) false) = true := hk
    cases hq : Nat.beq l 0 with
    | true => rw [hq, iteK_eq] at hk; exact ⟨_, _, hk, reads_nil rfl _⟩
    | false =>
      rw [hq, iteK_eq] at hk
      obtain ⟨n, tr, hx, h2⟩ := hreadK_true hk
      exact ⟨_, _, h2, reads_blk hm hx hr _ _ _⟩
  case slu x o l c r hr hl =>
    have hk : iteK (Nat.beq l 0) (k .nil 0) (hreadK h x (fun _ tr => k tr o) false) = true := hk
    cases hq : Nat.beq l 0 with
    | true => rw [hq, iteK_eq] at hk; exact ⟨_, _, hk, reads_nil rfl _⟩
    | false =>
      rw [hq, iteK_eq] at hk
      obtain ⟨n, tr, hx, h2⟩ := hreadK_true hk
      exact ⟨_, _, h2, reads_blk hm hx hr _ _ _⟩
  case sln => exact ⟨_, _, hk, reads_nil rfl _⟩
  case slz => exact ⟨_, _, hk, reads_nil rfl _⟩

theorem intoK_ok (hm : MRx P θ h nx w) {b : A} {r : Nat} (hr : θ.ρ b = some r) {o : Nat} {s : PT V} {so cnt : Nat} {k : Cx → Bool} (hk : intoK b o s so cnt ⟨h, nx, ds, rnd⟩ k = true) :
    (∀ j, j < cnt → ∃ v, s.get (so + j) = some v) ∧ ∃ h', k ⟨h', nx, ds, rnd⟩ = true ∧
      ∀ vs : List Value, vs.length = cnt → (∀ v ∈ vs, flat v = true) → (∀ j v, j < cnt → s.get (so + j) = some v → VR θ v (vs.getD j Go.undef)) →
        ∃ w', (storeCells ⟨r, o, none⟩ vs 0).run P w = .ok () w' ∧ MRx P θ h' nx w' ∧ Fm θ (hget h) w θ (hget h') w' := by
  obtain ⟨n, g, sz, tr, hx, h1⟩ := hcellsK_true hk
  obtain ⟨hle, h2⟩ := iteK_true h1
  have hle : o + cnt ≤ n := ble_le hle
  obtain ⟨t', hmv, h3⟩ := moveK_true h2
  rw [hsetK_eq] at h3
  refine ⟨fun j hj => PT.move_some _ _ _ _ _ _ hmv j hj, _, h3, fun vs hl hf hv => ?_⟩
  exact wr_ok hm (t' := t') hx hr (o := o) (vs := vs) hf (by omega) fun c hc hcf hcv => (over_ok (so := so) hc hcf hcv hl hf hv hle hmv).2.2

theorem getD_list (vs : Array Value) (j : Nat) : vs.toList.getD j Go.undef = vs.getD j Go.undef := by
  simp [Array.getD_eq_getD_getElem?, List.getD_eq_getElem?_getD]

theorem copyK_ok {sz : Nat} {d x : V} {cd cx : Value} (hm : MRx P θ h nx w) (hd : VR θ d cd) (hx : VR θ x cx) (hk : copyK sz d x ⟨h, nx, ds, rnd⟩ k = true) {at_ : Array TypeId} {t el ty : TypeId} (ht : at_[0]? = some t) (hu : undF P t = some (.slice el)) (hs : sizeT P el = some sz) :
    ∃ h' v cv w', k v ⟨h', nx, ds, rnd⟩ = true ∧ VR θ v cv ∧ MRx P θ h' nx w' ∧ Fm θ (hget h) w θ (hget h') w' ∧ (Builtin.copy_ at_ ty #[cd, cx]).run P w = .ok cv w' := by
  obtain ⟨bx, lx, kx, rfl, h1⟩ := lenK_ok hx hk
  obtain ⟨bd, ld, kd, rfl, h2⟩ := lenK_ok hd h1
  rw [forceN_eq] at h2
  obtain ⟨s, so, h3, hr⟩ := srcK_ok hm hx h2
  have fin : ∀ w', (∃ cells : Array Value, (Builtin.firstCells sz (Nat.min lx ld) (.slice bx lx kx)).run P w = .ok cells w ∧ (match bd with | some a => storeCells a cells.toList | none => pure () : Sem Unit).run P w = .ok () w') →
      (Builtin.copy_ at_ ty #[.slice bd ld kd, .slice bx lx kx]).run P w = .ok (goInt (Nat.min lx ld)) w' := by
    intro w' ⟨cells, e1, e2⟩
    cases bd with
    | none =>
      have e2 : w = w' := by simpa using e2
      subst e2
      simp [Builtin.copy_, ht, run_under hu, Builtin.lenOf, run_sizeOf hs, e1]
    | some b => simp [Builtin.copy_, ht, run_under hu, Builtin.lenOf, run_sizeOf hs, e1, e2]
  have v0 : Nat.min lx ld = 0 → VR θ (.i B63) (goInt (Nat.min lx ld)) := fun h0 => by
    rw [h0]
    have := VR.nat64 (θ := θ) 0
    exact this
  have zero : Nat.min lx ld = 0 → k (.i B63) ⟨h, nx, ds, rnd⟩ = true → ∃ h' v cv w', k v ⟨h', nx, ds, rnd⟩ = true ∧ VR θ v cv ∧ MRx P θ h' nx w' ∧ Fm θ (hget h) w θ (hget h') w' ∧ (Builtin.copy_ at_ ty #[.slice bd ld kd, .slice bx lx kx]).run P w = .ok cv w' := fun h0 hk => by
    obtain ⟨vs, g1, g2, g3, g4⟩ := hr sz (Nat.min lx ld) (fun j hj => by rw [h0] at hj; omega)
    refine ⟨h, _, _, w, hk, v0 h0, hm, Fm.refl _ _ _, fin w ⟨vs, g1 w rfl, ?_⟩⟩
    have : vs.toList = [] := by
      rw [h0] at g2
      exact List.length_eq_zero_iff.1 (by simpa using g2)
    cases bd with
    | none => rfl
    | some b => simp only [this]; rfl
  have full : ∀ b r o, θ.ρ b = some r → bd = some ⟨r, o, none⟩ → iteK (Nat.beq (Nat.min lx ld) 0) (k (.i B63) ⟨h, nx, ds, rnd⟩) (forceN (Nat.mul (Nat.min lx ld) sz) fun mc => intoK b o s so mc ⟨h, nx, ds, rnd⟩ fun cx => forceN (Nat.add (Nat.min lx ld) B63) fun n => k (.i n) cx) = true →
      ∃ h' v cv w', k v ⟨h', nx, ds, rnd⟩ = true ∧ VR θ v cv ∧ MRx P θ h' nx w' ∧ Fm θ (hget h) w θ (hget h') w' ∧ (Builtin.copy_ at_ ty #[.slice bd ld kd, .slice bx lx kx]).run P w = .ok cv w' := fun b r o hbr hbd hk => by
    cases hq : Nat.beq (Nat.min lx ld) 0 with
    | true => rw [hq, iteK_eq] at hk; exact zero (Nat.eq_of_beq_eq_true hq) hk
    | false =>
      rw [hq, iteK_eq] at hk
      have hk : forceN (Nat.mul (Nat.min lx ld) sz) (fun mc => intoK b o s so mc ⟨h, nx, ds, rnd⟩ fun cx => forceN (Nat.add (Nat.min lx ld) B63) fun n => k (.i n) cx) = true := hk
      rw [forceN_eq] at hk
      obtain ⟨q1, h', q2, q3⟩ := intoK_ok hm hbr hk
      rw [forceN_eq] at q2
      obtain ⟨vs, g1, g2, g3, g4⟩ := hr sz (Nat.min lx ld) q1
      obtain ⟨w', e1, e2, e3⟩ := q3 vs.toList (by simpa using g2) g3 (fun j v hj hv => by rw [getD_list]; exact g4 j v hj hv)
      refine ⟨h', _, _, w', q2, VR.nat64 _, e2, e3, fin w' ⟨vs, g1 w rfl, ?_⟩⟩
      subst hbd
      exact e1
  cases hd with
  | slk b o _ _ r hbr hl => exact full b r o hbr rfl h3
  | slu b o _ _ r hbr hl => exact full b r o hbr rfl h3
  | sln => exact zero (Nat.min_eq_right (Nat.zero_le _)) h3
  | slz b c => exact zero (Nat.min_eq_right (Nat.zero_le _)) h3
end
end Go.Ax

namespace Go.Ax
variable {P : Program}

/-- a block gets a new name, and is turned; its old name is forgotten -/
theorem MR.alias {P : Program} {θ : Th} {m : A → Option B} {nx ny : A} {w : World} (h : MR P θ m nx w) (hn : nx.next = some ny) {x : A} {b0 b : B} (hx : m x = some b0) (hro : b0.isRo = false) {r : Nat} (hr : θ.ρ x = some r) (κ : Nat) {o : Obj}
    (hb : BR (θ.add nx r κ) nx b o) (w' : World) (hw : w'.heap = w.heap.setIfInBounds r o) (ht : w'.tape = w.tape) (ho : w'.os = w.os) (hp : w'.output = w.output) :
    MR P (θ.add nx r κ) (madd (mdel m x) nx b) ny w' ∧ Fm θ m w (θ.add nx r κ) (madd (mdel m x) nx b) w' := by
  have hlt := h.lt hx hr
  have hxn : θ.ρ nx = none := h.fresh nx (Nat.le_refl _)
  have hle := Th.le_add hxn r κ
  have hnx := A.next_toNat hn
  have hold : ∀ y c, (madd (mdel m x) nx b) y = some c → y = nx ∧ c = b ∨ y ≠ nx ∧ y ≠ x ∧ m y = some c := fun y c hc => by
    simp only [madd, mdel] at hc
    by_cases e : y = nx
    · rw [if_pos e] at hc
      exact .inl ⟨e, by simpa using hc.symm⟩
    · rw [if_neg e] at hc
      by_cases e' : y = x
      · rw [if_pos e'] at hc; cases hc
      · rw [if_neg e'] at hc; exact .inr ⟨e, e', hc⟩
  have hρ : ∀ y, y ≠ nx → (θ.add nx r κ).ρ y = θ.ρ y := fun y e => by simp only [Th.add, if_neg e]
  refine ⟨⟨fun y c s hc hs => ?_, fun y z c d s hc hd hs hs' => ?_, fun y hy => ?_, fun g hg => (hle _ _ (h.glob g hg)).1, hnx.symm, fun y c hc => ?_⟩, ⟨hle, ht, ho, hp, by rw [hw]; simp, fun s hs hs' => ?_, ?_, fun y hy h0 => ?_, fun y c s hc hs => ?_⟩⟩
  · rcases hold y c hc with ⟨rfl, rfl⟩ | ⟨e1, e2, e3⟩
    · rw [Th.add_self] at hs
      obtain rfl : r = s := by simpa using hs
      exact ⟨o, by rw [hw]; simp [hlt], hb⟩
    · rw [hρ y e1] at hs
      obtain ⟨o', g2, g3⟩ := h.blk y c s e3 hs
      refine ⟨o', ?_, g3.mono hle hs⟩
      have ne : r ≠ s := fun es => by subst es; exact e2 (h.inj y x c b0 r e3 hx hs hr)
      rw [hw, Array.getElem?_setIfInBounds, if_neg ne]; exact g2
  · rcases hold y c hc with ⟨rfl, rfl⟩ | ⟨e1, e2, e3⟩
    · rcases hold z d hd with ⟨rfl, rfl⟩ | ⟨f1, f2, f3⟩
      · rfl
      · rw [Th.add_self] at hs; rw [hρ z f1] at hs'
        obtain rfl : r = s := by simpa using hs
        exact absurd (h.inj z x d b0 r f3 hx hs' hr) f2
    · rcases hold z d hd with ⟨rfl, rfl⟩ | ⟨f1, f2, f3⟩
      · rw [Th.add_self] at hs'; rw [hρ y e1] at hs
        obtain rfl : r = s := by simpa using hs'
        exact absurd (h.inj y x c b0 r e3 hx hs hr) e2
      · rw [hρ y e1] at hs; rw [hρ z f1] at hs'
        exact h.inj y z c d s e3 f3 hs hs'
  · have ne : y ≠ nx := fun e => by subst e; omega
    rw [hρ y ne]
    exact h.fresh y (by omega)
  · rcases hold y c hc with ⟨rfl, rfl⟩ | ⟨e1, e2, e3⟩
    · omega
    · have := h.bd y c e3; omega
  · have ne : r ≠ s := fun es => by subst es; have := hs' x b0 hx hr; rw [hro] at this; cases this
    rw [hw, Array.getElem?_setIfInBounds, if_neg ne]
  · rw [h.lim]; exact Nat.le_succ _
  · have n1 : y ≠ nx := fun e => by subst e; rw [h.lim] at hy; omega
    have n2 : y ≠ x := fun e => by subst e; rw [hr] at h0; cases h0
    rw [hρ y n1]
    simp only [madd, mdel, if_neg n1, if_neg n2]
    exact ⟨h0, trivial⟩
  · rcases hold y c hc with ⟨rfl, rfl⟩ | ⟨e1, e2, e3⟩
    · rw [Th.add_self] at hs
      obtain rfl : r = s := by simpa using hs
      exact .inl ⟨x, b0, hx, hr, fun h => by rw [hro] at h; cases h⟩
    · rw [hρ y e1] at hs
      exact .inl ⟨y, c, e3, hs, id⟩

section
variable {θ : Th} {e : Env} {a : Act} {h : Hp} {nx : A} {ds : List D} {rnd : Option A} {w : World} {o : Oper} {k : V → Cx → Bool}

theorem zeroCells_reps (z : Array Value) (n : Nat) : Builtin.zeroCells z n = reps z (n * z.size) := rfl

theorem clearC_ok {x : V} {cx : Value} (hm : MRx P θ h nx w) (hx : VR θ x cx) {el t ty : TypeId} {at_ : Array TypeId} (hk : (clearC P el).f x ⟨h, nx, ds, rnd⟩ k = true) (ht : at_[0]? = some t) (hu : undF P t = some (.slice el)) :
    ∃ h' v cv w', k v ⟨h', nx, ds, rnd⟩ = true ∧ VR θ v cv ∧ MRx P θ h' nx w' ∧ Fm θ (hget h) w θ (hget h') w' ∧ (Builtin.clear_ at_ ty #[cx]).run P w = .ok cv w' := by
  unfold clearC at hk
  cases hz : zeroT P el with
  | none => simp only [hz] at hk; cases hk
  | some nz =>
    obtain ⟨zn, z⟩ := nz
    cases hs : sizeT P el with
    | none => simp only [hz, hs] at hk; cases hk
    | some sz =>
      simp only [hz, hs] at hk
      cases hq : Nat.beq zn sz with
      | false => rw [hq] at hk; cases hk
      | true =>
        rw [hq, cond_true] at hk
        obtain rfl : zn = sz := Nat.eq_of_beq_eq_true hq
        obtain ⟨i, zv, hi, hzv, htr⟩ := zeroT_some (θ := θ) hz
        have full : ∀ b r o l c, θ.ρ b = some r → iteK (Nat.beq l 0) (k .undef ⟨h, nx, ds, rnd⟩) (repK zn z l 0 .nil (fun zs => forceN (Nat.mul l zn) fun mc => intoK b o zs 0 mc ⟨h, nx, ds, rnd⟩ fun cx => k .undef cx) false) = true →
            ∃ h' v cv w', k v ⟨h', nx, ds, rnd⟩ = true ∧ VR θ v cv ∧ MRx P θ h' nx w' ∧ Fm θ (hget h) w θ (hget h') w' ∧ (Builtin.clear_ at_ ty #[.slice (some ⟨r, o, none⟩) l c]).run P w = .ok cv w' := fun b r o l c hbr hk => by
          cases l with
          | zero =>
            rw [show Nat.beq 0 0 = true from rfl, iteK_eq, cond_true] at hk
            exact ⟨h, .undef, Go.undef, w, hk, VR.undef _, hm, Fm.refl _ _ _, by simp [Builtin.clear_, ht, run_under hu, Go.undef]⟩
          | succ l =>
            rw [show Nat.beq (l + 1) 0 = false from rfl, iteK_eq, cond_false] at hk
            obtain ⟨t', h1, ht'⟩ := rep_ok htr hk
            rw [forceN_eq] at h1
            obtain ⟨q1, h', q2, q3⟩ := intoK_ok hm hbr h1
            obtain ⟨w', e1, e2, e3⟩ := q3 (reps zv.cells ((l + 1) * zn)).toList (by simpa using ht'.1) ht'.2.1 (fun j v hj hv => by
              rw [Nat.zero_add] at hv
              rw [getD_list]; exact (ht'.2.2 j v hv).2)
            refine ⟨h', .undef, Go.undef, w', q2, VR.undef _, e2, e3, ?_⟩
            have hzs : zv.cells.size = zn := htr.1
            have ez : Builtin.zeroCells zv.cells (l + 1) = reps zv.cells ((l + 1) * zn) := by rw [zeroCells_reps, hzs]
            simp [Builtin.clear_, ht, run_under hu, run_zero hi hzv, ez, e1, Go.undef]
        cases hx <;> try exact absurd hk Bool.false_ne_true
        case slk b o l c r hr hl => exact full b r o l c hr hk
        case slu b o l c r hr hl => exact full b r o l _ hr hk
        case sln => exact ⟨h, .undef, Go.undef, w, hk, VR.undef _, hm, Fm.refl _ _ _, by simp [Builtin.clear_, ht, run_under hu, Go.undef]⟩
        case slz b c => exact ⟨h, .undef, Go.undef, w, hk, VR.undef _, hm, Fm.refl _ _ _, by simp [Builtin.clear_, ht, run_under hu, Go.undef]⟩
end
end Go.Ax

namespace Go.Ax
variable {P : Program}
section
variable {θ : Th} {e : Env} {a : Act} {h : Hp} {nx : A} {ds : List D} {rnd : Option A} {w : World} {o : Oper} {k : V → Cx → Bool}

/-- three parts of a row -/
theorem row3 (c1 c2 c3 : Array Value) (j : Nat) : (c1 ++ c2 ++ c3).getD j Go.undef = if j < c1.size then c1.getD j Go.undef else if j < c1.size + c2.size then c2.getD (j - c1.size) Go.undef else c3.getD (j - c1.size - c2.size) Go.undef := by
  simp only [Array.getD_eq_getD_getElem?, Array.getElem?_append, Array.size_append]
  by_cases h1 : j < c1.size
  · rw [if_pos (by omega), if_pos h1, if_pos h1]
  · rw [if_neg h1, if_neg h1]
    by_cases h2 : j < c1.size + c2.size
    · rw [if_pos h2, if_pos h2]
    · rw [if_neg h2, if_neg h2]
      congr 2; omega

/-- what 'growK' makes -/
theorem growK_true {bs tg sz need : Nat} {gone : Option A} {tr : PT V} {at_ : Nat} {s : PT V} {so cnt : Nat} (hk : growK bs tg sz need gone tr at_ s so cnt ⟨h, nx, ds, rnd⟩ k = true) :
    need * (bs + 1) ≤ 1073741824 ∧ ∃ t' ny, s.move cnt so tr at_ = some t' ∧ nx.next = some ny ∧
      k (.sl nx 0 need true 0) ⟨hset (match gone with | none => h | some b => hset h b none) nx (some (.cells (need * sz) true tg t')), ny, ds, rnd⟩ = true := by
  unfold growK at hk
  obtain ⟨h1, h2⟩ := iteK_true hk
  obtain ⟨t', h3, h4⟩ := moveK_true h2
  rw [forceN_eq] at h4
  refine ⟨ble_le h1, t', ?_⟩
  cases gone with
  | none =>
    obtain ⟨ny, hy, h5⟩ := newK_true h4
    exact ⟨ny, h3, hy, h5⟩
  | some b =>
    have h4 : hsetK h b none (fun h => newK h nx (.cells (Nat.mul need sz) true tg t') (fun h' nx' => k (.sl nx 0 need true 0) ⟨h', nx', ds, rnd⟩) false) = true := h4
    rw [hsetK_eq] at h4
    obtain ⟨ny, hy, h5⟩ := newK_true h4
    exact ⟨ny, h3, hy, h5⟩

/-- a row that is made longer: the old cells, the new ones, zeros -/
theorem row_ok {sz l m κ : Nat} {tr s t' : PT V} {so : Nat} {old new zs : Array Value} (ho : old.size = l * sz) (hn : new.size = m * sz) (hz : zs.size = sz) (hκ : l + m ≤ κ)
    (fo : Flat old) (fn : Flat new) (fz : Flat zs) (hmv : s.move (m * sz) so tr (l * sz) = some t')
    (h1 : ∀ j v, tr.get j = some v → j < (l + m) * sz ∧ (j < l * sz → VR θ v (old.getD j Go.undef)))
    (h2 : ∀ j v, j < m * sz → s.get (so + j) = some v → VR θ v (new.getD j Go.undef)) :
    (old ++ new ++ Builtin.zeroCells zs (κ - (l + m))).size = κ * sz ∧ Flat (old ++ new ++ Builtin.zeroCells zs (κ - (l + m))) ∧
    ∀ j v, t'.get j = some v → j < (l + m) * sz ∧ VR θ v ((old ++ new ++ Builtin.zeroCells zs (κ - (l + m))).getD j Go.undef) := by
  have e1 : (l + m) * sz = l * sz + m * sz := Nat.add_mul l m sz
  have e2 : κ * sz = (l + m) * sz + (κ - (l + m)) * sz := by rw [← Nat.add_mul]; congr 1; omega
  have hsz : (Builtin.zeroCells zs (κ - (l + m))).size = (κ - (l + m)) * sz := by rw [zeroCells_reps, hz]; simp [reps]
  refine ⟨by simp only [Array.size_append, ho, hn, hsz]; omega, ?_, fun j v hj => ?_⟩
  · intro v hv
    simp only [Array.toList_append, List.mem_append] at hv
    rcases hv with (hv | hv) | hv
    · exact fo v hv
    · exact fn v hv
    · rw [zeroCells_reps, hz] at hv
      simp only [reps, Array.toList_map, List.mem_map, Array.mem_toList_iff, Array.mem_range] at hv
      obtain ⟨i, hi, rfl⟩ := hv
      have hp : 0 < sz := Nat.pos_of_ne_zero fun e => by rw [e] at hi; omega
      have hlt : i % zs.size < zs.size := Nat.mod_lt _ (by omega)
      rw [getElem!_pos zs _ hlt]
      exact fz _ (by simp)
  · rw [PT.get_move _ _ _ _ _ _ hmv j] at hj
    rw [row3, ho, hn]
    by_cases c : l * sz ≤ j ∧ j < l * sz + m * sz
    · rw [if_pos c] at hj
      refine ⟨by omega, ?_⟩
      rw [if_neg (by omega), if_pos c.2]
      exact h2 _ v (by omega) hj
    · rw [if_neg c] at hj
      obtain ⟨g1, g2⟩ := h1 _ _ hj
      have hlt : j < l * sz := by omega
      refine ⟨g1, ?_⟩
      rw [if_pos hlt]
      exact g2 hlt
end
end Go.Ax

namespace Go.Ax
variable {P : Program}
section
variable {θ : Th} {e : Env} {a : Act} {h : Hp} {nx : A} {ds : List D} {rnd : Option A} {w : World} {o : Oper} {k : V → Cx → Bool}

theorem growBy_le (n : Nat) : ∀ r c, Builtin.growBy n r c ≤ 2 ^ r * (c + 768) := by
  intro r
  induction r with
  | zero => intro c; simp [Builtin.growBy]
  | succ r ih =>
    intro c
    simp only [Builtin.growBy]
    have hp : 0 < 2 ^ (r + 1) := Nat.two_pow_pos _
    split
    · exact Nat.le_trans (by omega) (Nat.le_mul_of_pos_left _ hp)
    · refine Nat.le_trans (ih _) ?_
      rw [Nat.pow_succ, Nat.mul_assoc]
      exact Nat.mul_le_mul_left _ (by omega)

theorem nextcap_le {need K : Nat} (h : K < need) : Builtin.nextslicecap need K ≤ 16 * (need + 768) := by
  unfold Builtin.nextslicecap
  split
  · omega
  · split
    · omega
    · refine Nat.le_trans (growBy_le need 4 K) ?_
      have e : (2 : Nat) ^ 4 = 16 := by decide
      rw [e]
      exact Nat.mul_le_mul_left _ (by omega)

theorem nextcap_room {need K B : Nat} (h : K < need) (hb : need * (B + 1) ≤ 1073741824) : ¬ (Builtin.nextslicecap need K * B > 2 ^ 48) := by
  have h1 := Nat.mul_le_mul_right B (nextcap_le h)
  have h2 : 16 * (need + 768) * B = 16 * (need * B) + 12288 * B := by
    rw [Nat.mul_assoc, Nat.add_mul, Nat.mul_add, ← Nat.mul_assoc 16 768 B]
  have h3 : need * (B + 1) = need * B + need := by rw [Nat.mul_add, Nat.mul_one]
  have h4 : B ≤ need * B := Nat.le_mul_of_pos_left _ (by omega)
  have h5 : (2 : Nat) ^ 48 = 281474976710656 := by decide
  omega

theorem cap_le {need B K : Nat} {el : TypeId} {t : Nat} (hb : need * (B + 1) ≤ 1073741824) : (Question.appendCap need K el).cut t ≤ maxCap := by
  have h : need ≤ need * (B + 1) := Nat.le_mul_of_pos_right _ (by omega)
  have h2 := Nat.mod_lt t (show 0 < 2 ^ 63 - need by omega)
  have hm : maxCap = 9223372036854775807 := rfl
  rw [hm]
  show need + t % (2 ^ 63 - need) ≤ _
  omega

theorem append_grow {at_ : Array TypeId} {t el ty t1 el1 : TypeId} (ht : at_[0]? = some t) (hu : undF P t = some (.slice el)) (ht1 : at_[1]? = some t1) (hu1 : undF P t1 = some (.slice el1)) {sz : Nat} (hs : sizeT P el = some sz)
    {i : TypeInfo} {zv : Value} (hi : P.info? el = some i) (hzv : i.zero = some zv) {base bx : Option Addr} {l n K kx : Nat} (hcap : K < l + n) (hb : (l + n) * (i.bytes + 1) ≤ 1073741824) (w : World) :
    ∃ w1 κ, w1.heap = w.heap ∧ w1.tape = w.tape ∧ w1.os = w.os ∧ w1.output = w.output ∧ l + n ≤ κ ∧ κ ≤ maxCap ∧
      ∀ old new, (Builtin.firstCells sz l (.slice base l K)).run P w1 = .ok old w1 → (Builtin.firstCells sz n (.slice bx n kx)).run P w1 = .ok new w1 →
        (Builtin.append_ at_ ty #[.slice base l K, .slice bx n kx]).run P w = .ok (.slice (some ⟨w1.heap.size, 0, none⟩) (l + n) κ) (World.put w1 (.cells (old ++ new ++ Builtin.zeroCells zv.cells (κ - (l + n))) el)) := by
  refine ⟨{ w with drawn := w.drawn + 1 }, (Question.appendCap (l + n) K el).cut (w.tape w.drawn (.appendCap (l + n) K el)), rfl, rfl, rfl, rfl, ?_, ?_, fun old new ho hn => ?_⟩
  · simp only [Question.cut]; omega
  · exact cap_le hb
  · have hti : ∀ w, (typeInfo el).run P w = .ok i w := fun w => by simp [typeInfo, hi]
    have hroom := nextcap_room hcap hb
    have hle : ¬ (l + n ≤ K) := by omega
    have h3 : (l + n) * (i.bytes + 1) = (l + n) * i.bytes + (l + n) := by rw [Nat.mul_add, Nat.mul_one]
    have hmax : ¬ (((l + n : Nat) : Int) > IntKind.i64.max ∧ (False ∨ i.bytes = 0)) := by
      have : IntKind.i64.max = 9223372036854775807 := by decide
      rw [this]
      intro ⟨h, _⟩
      omega
    have h1 : (#[.slice base l K, .slice bx n kx] : Array Value)[0]? = some (.slice base l K) := rfl
    have h2 : (#[.slice base l K, .slice bx n kx] : Array Value)[1]? = some (.slice bx n kx) := rfl
    simp only [Builtin.append_, ht, h1, h2, ht1, Sem.run_bind, run_under hu, run_under hu1, Result.andThen_ok, run_sizeOf hs, Sem.run_pure, Bool.false_eq_true, if_false, Builtin.lenOf, if_neg hle, hti]
    rw [if_neg hmax]
    simp only [Sem.run_bind, hti, Result.andThen_ok]
    rw [if_neg hroom]
    have hch : (choose (.appendCap (l + n) K el)).run P w = .ok ((Question.appendCap (l + n) K el).cut (w.tape w.drawn (.appendCap (l + n) K el))) { w with drawn := w.drawn + 1 } := rfl
    have hask : ∀ b (w : World), (askRoom b).run P w = .ok () w := fun b w => by unfold askRoom; split <;> rfl
    have hnew : (if (!false) = true then Builtin.firstCells sz n (.slice bx n kx) else if n * sz = 0 then pure #[] else do
        let z ← zeroValue el
        pure (Builtin.zeroCells z.cells n) : Sem (Array Value)) = Builtin.firstCells sz n (.slice bx n kx) := rfl
    simp only [Sem.run_bind, hch, hti, hask, Result.andThen_ok, ho, hnew, hn, run_zero hi hzv]
    rfl
end
end Go.Ax

namespace Go.Ax
variable {P : Program}
section
variable {θ : Th} {e : Env} {a : Act} {h : Hp} {nx : A} {ds : List D} {rnd : Option A} {w : World} {o : Oper} {k : V → Cx → Bool}

/-- an append in place -/
theorem append_here {at_ : Array TypeId} {t el ty t1 el1 : TypeId} (ht : at_[0]? = some t) (hu : undF P t = some (.slice el)) (ht1 : at_[1]? = some t1) (hu1 : undF P t1 = some (.slice el1)) {sz : Nat} (hs : sizeT P el = some sz)
    {base bx : Option Addr} {l n K kx : Nat} (hcap : l + n ≤ K) {w w' : World} {new : Array Value} (hn : (Builtin.firstCells sz n (.slice bx n kx)).run P w = .ok new w)
    (hst : (match base with | some a => storeCells (a.add (l * sz)) new.toList | none => pure () : Sem Unit).run P w = .ok () w') :
    (Builtin.append_ at_ ty #[.slice base l K, .slice bx n kx]).run P w = .ok (.slice base (l + n) K) w' := by
  have h1 : (#[.slice base l K, .slice bx n kx] : Array Value)[0]? = some (.slice base l K) := rfl
  have h2 : (#[.slice base l K, .slice bx n kx] : Array Value)[1]? = some (.slice bx n kx) := rfl
  have hnew : (if (!false) = true then Builtin.firstCells sz n (.slice bx n kx) else if n * sz = 0 then pure #[] else do
        let z ← zeroValue el
        pure (Builtin.zeroCells z.cells n) : Sem (Array Value)) = Builtin.firstCells sz n (.slice bx n kx) := rfl
  simp only [Builtin.append_, ht, h1, h2, ht1, Sem.run_bind, run_under hu, run_under hu1, Result.andThen_ok, run_sizeOf hs, Sem.run_pure, Bool.false_eq_true, if_false, Builtin.lenOf, if_pos hcap, hnew, hn]
  cases base with
  | none =>
    have e : w = w' := by simpa using hst
    subst e; rfl
  | some b => simp only [Sem.run_bind, hst, Result.andThen_ok, Sem.run_pure]

/-- what is appended: how the model's append goes, in place and into a new block -/
structure AppArg (P : Program) (at_ : Array TypeId) (ty el : TypeId) (sz : Nat) (w : World) (x : Value) (n : Nat) (new : Array Value) : Prop where
  here : ∀ (base : Option Addr) (l K : Nat) (w' : World), l + n ≤ K → (match base with | some a => storeCells (a.add (l * sz)) new.toList | none => pure () : Sem Unit).run P w = .ok () w' →
    (Builtin.append_ at_ ty #[.slice base l K, x]).run P w = .ok (.slice base (l + n) K) w'
  grow : ∀ (base : Option Addr) (l K : Nat) (i : TypeInfo) (zv : Value), P.info? el = some i → i.zero = some zv → K < l + n → (l + n) * (i.bytes + 1) ≤ 1073741824 →
    ∃ w1 κ, w1.heap = w.heap ∧ w1.tape = w.tape ∧ w1.os = w.os ∧ w1.output = w.output ∧ l + n ≤ κ ∧ κ ≤ maxCap ∧
      ∀ old, (Builtin.firstCells sz l (.slice base l K)).run P w1 = .ok old w1 →
        (Builtin.append_ at_ ty #[.slice base l K, x]).run P w = .ok (.slice (some ⟨w1.heap.size, 0, none⟩) (l + n) κ) (World.put w1 (.cells (old ++ new ++ Builtin.zeroCells zv.cells (κ - (l + n))) el))

theorem AppArg.of_slice {at_ : Array TypeId} {t el ty t1 el1 : TypeId} (ht : at_[0]? = some t) (hu : undF P t = some (.slice el)) (ht1 : at_[1]? = some t1) (hu1 : undF P t1 = some (.slice el1)) {sz : Nat} (hs : sizeT P el = some sz)
    {bx : Option Addr} {n kx : Nat} {new : Array Value} (rn : ∀ w' : World, w'.heap = w.heap → (Builtin.firstCells sz n (.slice bx n kx)).run P w' = .ok new w') : AppArg P at_ ty el sz w (.slice bx n kx) n new where
  here := fun base l K w' hcap hst => append_here ht hu ht1 hu1 hs hcap (rn w rfl) hst
  grow := fun base l K i zv hi hzv hcap hb => by
    obtain ⟨w1, κ, q1, q2, q3, q4, q5, q5', q6⟩ := append_grow (ty := ty) ht hu ht1 hu1 hs hi hzv (base := base) (bx := bx) (kx := kx) hcap hb w
    exact ⟨w1, κ, q1, q2, q3, q4, q5, q5', fun old ho => q6 old new ho (rn w1 q1)⟩

/-- what is appended, where the executor has it as cells of a tree -/
def Src (P : Program) (θ : Th) (w : World) (at_ : Array TypeId) (ty el : TypeId) (sz : Nat) (s : PT V) (so : Nat) (x : Value) (n : Nat) : Prop :=
  (∀ j, j < n * sz → ∃ v, s.get (so + j) = some v) →
    ∃ new : Array Value, AppArg P at_ ty el sz w x n new ∧ new.size = n * sz ∧ Flat new ∧ ∀ j v, j < n * sz → s.get (so + j) = some v → VR θ v (new.getD j Go.undef)

theorem Src.of_reads {at_ : Array TypeId} {t el ty t1 el1 : TypeId} (ht : at_[0]? = some t) (hu : undF P t = some (.slice el)) (ht1 : at_[1]? = some t1) (hu1 : undF P t1 = some (.slice el1)) {sz : Nat} (hs : sizeT P el = some sz)
    {bx : Option Addr} {n kx : Nat} {s : PT V} {so : Nat} (hr : Reads P θ w s so (.slice bx n kx)) : Src P θ w at_ ty el sz s so (.slice bx n kx) n := fun hj => by
  obtain ⟨vs, g1, g2, g3, g4⟩ := hr sz n hj
  exact ⟨vs, .of_slice ht hu ht1 hu1 hs g1, g2, g3, g4⟩

/-- an append into a new block -/
theorem grow_ok {tg : Nat} {h0 : Hp} (hm0 : MRx P θ h0 nx w) (hf0 : Fm θ (hget h) w θ (hget h0) w) {at_ : Array TypeId} {el ty : TypeId} {sz : Nat} (htg : Tag true tg el) (hso : szOf tg = sz)
    {i : TypeInfo} {zv : Value} {z : PT V} (hi : P.info? el = some i) (hzv : i.zero = some zv) (htr : TR θ sz z zv.cells) {base : Option Addr} {l n K : Nat} {x : Value} (hcap : K < l + n) (hb : (l + n) * (i.bytes + 1) ≤ 1073741824)
    {tr s t' : PT V} {so : Nat} {ny : A} (hy : nx.next = some ny) (hmv : s.move (n * sz) so tr (l * sz) = some t')
    (hk : k (.sl nx 0 (l + n) true 0) ⟨hset h0 nx (some (.cells ((l + n) * sz) true tg t')), ny, ds, rnd⟩ = true)
    {old new : Array Value} (ro : ∀ w' : World, w'.heap = w.heap → (Builtin.firstCells sz l (.slice base l K)).run P w' = .ok old w') (hA : AppArg P at_ ty el sz w x n new)
    (ho : old.size = l * sz) (hn : new.size = n * sz) (fo : Flat old) (fn : Flat new)
    (h1 : ∀ j v, tr.get j = some v → j < (l + n) * sz ∧ (j < l * sz → VR θ v (old.getD j Go.undef)))
    (h2 : ∀ j v, j < n * sz → s.get (so + j) = some v → VR θ v (new.getD j Go.undef)) :
    ∃ θ' h' nx' v cv w', k v ⟨h', nx', ds, rnd⟩ = true ∧ VR θ' v cv ∧ MRx P θ' h' nx' w' ∧ Fm θ (hget h) w θ' (hget h') w' ∧ (Builtin.append_ at_ ty #[.slice base l K, x]).run P w = .ok cv w' := by
  obtain ⟨w1, κ, q1, q2, q3, q4, q5, q5', q6⟩ := hA.grow base l K i zv hi hzv hcap hb
  have hrun := q6 old (ro w1 q1)
  obtain ⟨r1, r2, r3⟩ := row_ok (θ := θ) (κ := κ) ho hn htr.1 q5 fo fn htr.2.1 hmv h1 h2
  have hm1 : MRx P θ h0 nx w1 := MR.of_heap hm0 q1
  have hle := Th.le_add (hm1.fresh nx (Nat.le_refl _)) w1.heap.size κ
  have hbr : BR (θ.add nx w1.heap.size κ) nx (.cells ((l + n) * sz) true tg t') (.cells (old ++ new ++ Builtin.zeroCells zv.cells (κ - (l + n))) el (0, 0)) :=
    ⟨_, ⟨el, htg⟩, rfl, r2, fun j v hj => ⟨(r3 j v hj).1, (r3 j v hj).2.mono hle⟩, by rw [r1]; exact Nat.mul_le_mul_right _ q5, (fun e => by cases e), fun _ => by rw [Th.add_self_κ _ _ _ _ q5', hso]; exact r1⟩
  have hN := MR.new hm1 hy κ hbr
  have hv : VR (θ.add nx w1.heap.size κ) (.sl nx 0 (l + n) true 0) (.slice (some ⟨w1.heap.size, 0, none⟩) (l + n) κ) := by
    have := VR.slu (θ := θ.add nx w1.heap.size κ) nx 0 (l + n) 0 w1.heap.size (Th.add_self _ _ _ _) (by rw [Th.add_self_κ _ _ _ _ q5']; omega)
    rw [Th.add_self_κ _ _ _ _ q5', Nat.sub_zero] at this
    exact this
  refine ⟨_, _, _, _, _, _, hk, hv, ?_, ?_, hrun⟩
  · simp only [MRx, hget_hset_some]; exact hN.1
  · simp only [hget_hset_some]
    exact (hf0.trans (Fm.of_heap θ (hget h0) q1 q2 q3 q4)).trans hN.2
end
end Go.Ax

namespace Go.Ax
variable {P : Program}
section
variable {θ : Th} {e : Env} {a : Act} {h : Hp} {nx : A} {ds : List D} {rnd : Option A} {w : World} {o : Oper} {k : V → Cx → Bool}

theorem bytesT_eq {el : TypeId} {sz : Nat} {i : TypeInfo} (hs : sizeT P el = some sz) (hi : P.info? el = some i) : bytesT P el = i.bytes := by
  unfold bytesT
  have : infoF P el = some i := by
    cases hq : infoF P el with
    | none => unfold sizeT at hs; rw [hq] at hs; cases hs
    | some j => have := infoF_some hq; rw [hi] at this; exact this.symm
  rw [this]; rfl

/-- an append to a slice of known capacity -/
theorem append_slk {tg : Nat} (hm : MRx P θ h nx w) {at_ : Array TypeId} {el ty : TypeId} {sz : Nat} (htg : Tag true tg el) (hso : szOf tg = sz) (hs : sizeT P el = some sz) {z : PT V} (hz : zeroT P el = some (sz, z))
    {b : A} {of l c r : Nat} (hbr : θ.ρ b = some r) (hl : l ≤ c) {s : PT V} {so n : Nat} {x : Value} (hr : Src P θ w at_ ty el sz s so x n) (hk : appK (bytesT P el) tg sz (.sl b of l false c) s so n ⟨h, nx, ds, rnd⟩ k = true) :
    ∃ θ' h' nx' v cv w', k v ⟨h', nx', ds, rnd⟩ = true ∧ VR θ' v cv ∧ MRx P θ' h' nx' w' ∧ Fm θ (hget h) w θ' (hget h') w' ∧ (Builtin.append_ at_ ty #[.slice (some ⟨r, of, none⟩) l c, x]).run P w = .ok cv w' := by
  obtain ⟨i, zv, hi, hzv, htr⟩ := zeroT_some (θ := θ) hz
  have hk : forceN (Nat.mul n sz) (fun mc => forceN (Nat.add l n) fun need => forceN (Nat.mul l sz) fun lc =>
        iteK (Nat.beq n 0) (k (.sl b of l false c) ⟨h, nx, ds, rnd⟩)
        (hcellsK h b (fun n' g bz tr => 
          (iteK (Nat.ble need c)
            (forceN (Nat.add of lc) fun o' => intoK b o' s so mc ⟨h, nx, ds, rnd⟩ fun cx => k (.sl b of need false c) cx)
            (moveK lc tr of .nil 0 (fun old => growK (bytesT P el) tg sz need none old lc s so mc ⟨h, nx, ds, rnd⟩ k) false))) false)) = true := hk
  rw [forceN_eq, forceN_eq, forceN_eq] at hk
  cases hq : Nat.beq n 0 with
  | true =>
    obtain rfl : n = 0 := Nat.eq_of_beq_eq_true hq
    rw [hq, iteK_eq, cond_true] at hk
    obtain ⟨vs, g1, g2, g3, g4⟩ := hr (fun j hj => by omega)
    refine ⟨θ, h, nx, _, _, w, hk, VR.slk b of l c r hbr hl, hm, Fm.refl _ _ _, ?_⟩
    have e0 : vs.toList = [] := List.length_eq_zero_iff.1 (by simpa using g2)
    exact g1.here _ _ _ _ (by omega) (by simp only [e0]; rfl)
  | false =>
    rw [hq, iteK_eq, cond_false] at hk
    obtain ⟨n', g, bz, tr, hx, h1⟩ := hcellsK_true hk
    cases hc : Nat.ble (Nat.add l n) c with
    | true =>
      rw [hc, iteK_eq, cond_true, forceN_eq] at h1
      have hc : l + n ≤ c := ble_le hc
      obtain ⟨q1, h', q2, q3⟩ := intoK_ok hm hbr h1
      obtain ⟨vs, g1, g2, g3, g4⟩ := hr q1
      obtain ⟨w', e1, e2, e3⟩ := q3 vs.toList (by simpa using g2) g3 (fun j v hj hv => by rw [getD_list]; exact g4 j v hj hv)
      refine ⟨θ, h', nx, _, _, w', q2, VR.slk b of (l + n) c r hbr hc, e2, e3, g1.here _ _ _ _ hc ?_⟩
      simp only [Addr.add_of]
      exact e1
    | false =>
      rw [hc, iteK_eq, cond_false] at h1
      obtain ⟨old, hmv, h2⟩ := moveK_true h1
      obtain ⟨hb, t', ny, hmv2, hy, h3⟩ := growK_true h2
      have hcap : c < l + n := by
        rcases Nat.lt_or_ge c (l + n) with h | h
        · exact h
        · have : Nat.ble (Nat.add l n) c = true := Nat.ble_eq_true_of_le h
          rw [this] at hc; cases hc
      rw [bytesT_eq hs hi] at hb
      have hold := reads_blk hm (.inl ⟨g, bz, hx⟩) hbr of l c sz l (PT.move_some _ _ _ _ _ _ hmv)
      obtain ⟨ov, o1, o2, o3, o4⟩ := hold
      obtain ⟨vs, g1, g2, g3, g4⟩ := hr (PT.move_some _ _ _ _ _ _ hmv2)
      refine grow_ok hm (Fm.refl _ _ _) htg hso hi hzv htr hcap hb hy hmv2 h3 o1 g1 o2 g2 o3 g3 (fun j v hj => ?_) g4
      rw [PT.get_move _ _ _ _ _ _ hmv j] at hj
      have e1 : (l + n) * sz = l * sz + n * sz := Nat.add_mul l n sz
      have em : Nat.mul l sz = l * sz := rfl
      by_cases cc : 0 ≤ j ∧ j < 0 + Nat.mul l sz
      · rw [if_pos cc, Nat.sub_zero] at hj
        exact ⟨by omega, fun hlt => o4 j v hlt hj⟩
      · rw [if_neg cc, PT.get_nil] at hj; cases hj
end
end Go.Ax

namespace Go.Ax
variable {P : Program}
section
variable {θ : Th} {e : Env} {a : Act} {h : Hp} {nx : A} {ds : List D} {rnd : Option A} {w : World} {o : Oper} {k : V → Cx → Bool}

/-- an append to a slice of unknown capacity -/
theorem append_slu {tg : Nat} (hm : MRx P θ h nx w) {at_ : Array TypeId} {el ty : TypeId} {sz : Nat} (htg : Tag true tg el) (hso : szOf tg = sz) (hs : sizeT P el = some sz) (hpos : 0 < sz) {z : PT V} (hz : zeroT P el = some (sz, z))
    {b : A} {of l c r : Nat} (hbr : θ.ρ b = some r) (hl : c + l ≤ θ.κ b) {s : PT V} {so n : Nat} {x : Value} (hr : Src P θ w at_ ty el sz s so x n) (hk : appK (bytesT P el) tg sz (.sl b of l true c) s so n ⟨h, nx, ds, rnd⟩ k = true) :
    ∃ θ' h' nx' v cv w', k v ⟨h', nx', ds, rnd⟩ = true ∧ VR θ' v cv ∧ MRx P θ' h' nx' w' ∧ Fm θ (hget h) w θ' (hget h') w' ∧ (Builtin.append_ at_ ty #[.slice (some ⟨r, of, none⟩) l (θ.κ b - c), x]).run P w = .ok cv w' := by
  obtain ⟨i, zv, hi, hzv, htr⟩ := zeroT_some (θ := θ) hz
  have hk : forceN (Nat.mul n sz) (fun mc => forceN (Nat.add l n) fun need => forceN (Nat.mul l sz) fun lc =>
        iteK (Nat.beq n 0) (k (.sl b of l true c) ⟨h, nx, ds, rnd⟩)
        (hcellsK h b (fun n' g bz tr => 
          (iteK (g && Nat.beq bz tg) (iteK (Nat.ble (Nat.mul (Nat.add c need) sz) n')
            (forceN (Nat.add of lc) fun o' => intoK b o' s so mc ⟨h, nx, ds, rnd⟩ fun cx => k (.sl b of need true c) cx)
            (iteK (Nat.beq of 0) (iteK (Nat.beq c 0) (growK (bytesT P el) tg sz need (some b) tr lc s so mc ⟨h, nx, ds, rnd⟩ k) false) false)) false)) false)) = true := hk
  rw [forceN_eq, forceN_eq, forceN_eq] at hk
  cases hq : Nat.beq n 0 with
  | true =>
    obtain rfl : n = 0 := Nat.eq_of_beq_eq_true hq
    rw [hq, iteK_eq, cond_true] at hk
    obtain ⟨vs, g1, g2, g3, g4⟩ := hr (fun j hj => by omega)
    refine ⟨θ, h, nx, _, _, w, hk, VR.slu b of l c r hbr hl, hm, Fm.refl _ _ _, ?_⟩
    have e0 : vs.toList = [] := List.length_eq_zero_iff.1 (by simpa using g2)
    exact g1.here _ _ _ _ (by omega) (by simp only [e0]; rfl)
  | false =>
    rw [hq, iteK_eq, cond_false] at hk
    obtain ⟨n', g, bz, tr, hx, h1⟩ := hcellsK_true hk
    obtain ⟨hg, h2⟩ := iteK_true h1
    clear h1
    rw [Bool.and_eq_true] at hg
    obtain ⟨rfl, hbz⟩ := hg
    obtain rfl : bz = tg := Nat.eq_of_beq_eq_true hbz
    obtain ⟨ob, p2, cs, cel, rfl, hfl, p3, p4, p5, p6⟩ := hm.blk b _ r hx hbr
    have hsz : cs.size = θ.κ b * sz := by rw [← hso]; exact p6 rfl
    cases hc : Nat.ble (Nat.mul (Nat.add c (Nat.add l n)) sz) n' with
    | true =>
      rw [hc, iteK_eq, cond_true, forceN_eq] at h2
      have hc : (c + (l + n)) * sz ≤ n' := ble_le hc
      have hcap : c + (l + n) ≤ θ.κ b := by
        have : (c + (l + n)) * sz ≤ θ.κ b * sz := by omega
        exact Nat.le_of_mul_le_mul_right this hpos
      obtain ⟨q1, h', q2, q3⟩ := intoK_ok hm hbr h2
      obtain ⟨vs, g1, g2, g3, g4⟩ := hr q1
      obtain ⟨w', e1, e2, e3⟩ := q3 vs.toList (by simpa using g2) g3 (fun j v hj hv => by rw [getD_list]; exact g4 j v hj hv)
      refine ⟨θ, h', nx, _, _, w', q2, VR.slu b of (l + n) c r hbr hcap, e2, e3, g1.here _ _ _ _ (by omega) ?_⟩
      simp only [Addr.add_of]
      exact e1
    | false =>
      rw [hc, iteK_eq, cond_false] at h2
      have hc : n' < (c + (l + n)) * sz := by
        rcases Nat.lt_or_ge n' ((c + (l + n)) * sz) with h | h
        · exact h
        · have : Nat.ble (Nat.mul (Nat.add c (Nat.add l n)) sz) n' = true := Nat.ble_eq_true_of_le h
          rw [this] at hc; cases hc
      obtain ⟨ho0, h3⟩ := iteK_true h2
      obtain ⟨hc0, h4⟩ := iteK_true h3
      obtain rfl : of = 0 := Nat.eq_of_beq_eq_true ho0
      obtain rfl : c = 0 := Nat.eq_of_beq_eq_true hc0
      rw [Nat.zero_add] at hc
      rw [Nat.sub_zero]
      obtain ⟨hb, t', ny, hmv, hy, h5⟩ := growK_true h4
      rw [bytesT_eq hs hi] at hb
      have e1 : (l + n) * sz = l * sz + n * sz := Nat.add_mul l n sz
      obtain ⟨vs, g1, g2, g3, g4⟩ := hr (PT.move_some _ _ _ _ _ _ hmv)
      rcases Nat.lt_or_ge (θ.κ b) (l + n) with hcap | hcap
      · -- a new block
        have hsub := MR.sub (m' := mdel (hget h) b) hm (fun x q hq => by
          simp only [mdel] at hq
          split at hq
          · cases hq
          · exact hq) (fun x h0 => by
          have ne : x ≠ b := fun e => by subst e; rw [hbr] at h0; cases h0
          simp only [mdel, if_neg ne])
        have hlt : ∀ j, j < l * sz → 0 + j < cs.size := fun j hj => by
          have : l * sz ≤ θ.κ b * sz := Nat.mul_le_mul_right _ (by omega)
          omega
        refine grow_ok (h0 := hset h b none) (by simp only [MRx, hget_hset_none]; exact hsub.1) (by simp only [hget_hset_none]; exact hsub.2) htg hso hi hzv htr hcap hb hy hmv h5
          (old := seg cs 0 (l * sz)) (fun w' hw => run_seg (by rw [hw]; exact p2) hlt) g1 (seg_size _ _ _) g2 (seg_flat hfl hlt) g3 (fun j v hj => ?_) g4
        obtain ⟨u1, u2⟩ := p3 j v hj
        refine ⟨by omega, fun hj' => ?_⟩
        rw [seg_get _ _ _ _ hj', Nat.zero_add]
        exact u2
      · -- in place
        have hfit : l * sz + vs.toList.length ≤ cs.size := by
          have : (l + n) * sz ≤ θ.κ b * sz := Nat.mul_le_mul_right _ hcap
          have : vs.toList.length = n * sz := by simpa using g2
          omega
        obtain ⟨w', e2, e3, e4, e5, e6⟩ := run_storeCells (P := P) vs.toList cs cel (l * sz) 0 w p2 g3 (by omega)
        obtain ⟨f1, f2⟩ := foldl_cells vs.toList cs (l * sz) 0
        have hle := Th.le_add (hm.fresh nx (Nat.le_refl _)) r (θ.κ b)
        have hbr' : BR (θ.add nx r (θ.κ b)) nx (.cells ((l + n) * sz) true bz t') (.cells (over cs (l * sz) vs.toList) cel (0, 0)) := by
          refine ⟨_, cel, rfl, foldl_flat vs.toList g3 cs (l * sz) 0 hfl, fun j v hj => ?_, by unfold over; rw [f1, hsz]; exact Nat.mul_le_mul_right _ hcap, (fun e => by cases e), fun _ => by unfold over; rw [f1, Th.add_self_κ _ _ _ _ (θ.hκ b)]; rw [hso]; exact hsz⟩
          rw [PT.get_move _ _ _ _ _ _ hmv j] at hj
          have em : Nat.mul l sz = l * sz := rfl
          have en : Nat.mul n sz = n * sz := rfl
          have hln : vs.toList.length = n * sz := by simpa using g2
          by_cases cc : Nat.mul l sz ≤ j ∧ j < Nat.mul l sz + Nat.mul n sz
          · rw [if_pos cc] at hj
            refine ⟨by omega, ?_⟩
            unfold over
            rw [f2 j (by omega), if_pos (by omega), Nat.add_zero, getD_list]
            exact (g4 _ v (by omega) hj).mono hle
          · rw [if_neg cc] at hj
            obtain ⟨u1, u2⟩ := p3 j v hj
            refine ⟨by omega, ?_⟩
            unfold over
            rw [f2 j (by omega), if_neg (by omega)]
            exact u2.mono hle
        have hA := MR.alias hm hy hx rfl hbr (θ.κ b) hbr' w' e3 e4 e5 e6
        have hv : VR (θ.add nx r (θ.κ b)) (.sl nx 0 (l + n) true 0) (.slice (some ⟨r, 0, none⟩) (l + n) (θ.κ b)) := by
          have := VR.slu (θ := θ.add nx r (θ.κ b)) nx 0 (l + n) 0 r (Th.add_self _ _ _ _) (by rw [Th.add_self_κ _ _ _ _ (θ.hκ b)]; omega)
          rw [Th.add_self_κ _ _ _ _ (θ.hκ b), Nat.sub_zero] at this
          exact this
        refine ⟨_, _, _, _, _, w', h5, hv, ?_, ?_, g1.here _ _ _ _ hcap ?_⟩
        · simp only [MRx, hget_hset_some, hget_hset_none]; exact hA.1
        · simp only [hget_hset_some, hget_hset_none]; exact hA.2
        · simp only [Addr.add_of, Nat.zero_add]
          exact e2
end
end Go.Ax

namespace Go.Ax
variable {P : Program}
section
variable {θ : Th} {e : Env} {a : Act} {h : Hp} {nx : A} {ds : List D} {rnd : Option A} {w : World} {o : Oper} {k : V → Cx → Bool}

/-- an append of cells that are read -/
theorem appK_ok {tg : Nat} (hm : MRx P θ h nx w) {at_ : Array TypeId} {el ty : TypeId} {sz : Nat} (htg : Tag true tg el) (hso : szOf tg = sz) (hs : sizeT P el = some sz) (hpos : 0 < sz) {z : PT V} (hz : zeroT P el = some (sz, z))
    {va : V} {ca : Value} (ha : VR θ va ca) {s : PT V} {so n : Nat} {x : Value} (hr : Src P θ w at_ ty el sz s so x n) (hk : appK (bytesT P el) tg sz va s so n ⟨h, nx, ds, rnd⟩ k = true) :
    ∃ θ' h' nx' v cv w', k v ⟨h', nx', ds, rnd⟩ = true ∧ VR θ' v cv ∧ MRx P θ' h' nx' w' ∧ Fm θ (hget h) w θ' (hget h') w' ∧ (Builtin.append_ at_ ty #[ca, x]).run P w = .ok cv w' := by
  have none_ok : ∀ base K va, VR θ va (.slice base 0 K) → n = 0 → (hk2 : k va ⟨h, nx, ds, rnd⟩ = true) → ∃ θ' h' nx' v cv w', k v ⟨h', nx', ds, rnd⟩ = true ∧ VR θ' v cv ∧ MRx P θ' h' nx' w' ∧ Fm θ (hget h) w θ' (hget h') w' ∧ (Builtin.append_ at_ ty #[.slice base 0 K, x]).run P w = .ok cv w' := fun base K va hv h0 hk2 => by
    subst h0
    obtain ⟨vs, g1, g2, g3, g4⟩ := hr (fun j hj => by omega)
    have e0 : vs.toList = [] := List.length_eq_zero_iff.1 (by simpa using g2)
    refine ⟨θ, h, nx, _, _, w, hk2, hv, hm, Fm.refl _ _ _, g1.here _ _ _ _ (by omega) ?_⟩
    cases base <;> simp only [e0] <;> rfl
  cases ha <;> try exact absurd hk (by unfold appK; simp only [cxH, forceN_eq, asSl]; exact Bool.false_ne_true)
  case slk b of l c r hbr hl => exact append_slk hm htg hso hs hz hbr hl hr hk
  case slu b of l c r hbr hl => exact append_slu hm htg hso hs hpos hz hbr hl hr hk
  case sln =>
    have hk : forceN (Nat.mul n sz) (fun mc => iteK (Nat.beq n 0) (k .sln ⟨h, nx, ds, rnd⟩) (growK (bytesT P el) tg sz n none .nil 0 s so mc ⟨h, nx, ds, rnd⟩ k)) = true := hk
    rw [forceN_eq] at hk
    cases hq : Nat.beq n 0 with
    | true =>
      rw [hq, iteK_eq, cond_true] at hk
      exact none_ok _ _ _ VR.sln (Nat.eq_of_beq_eq_true hq) hk
    | false =>
      rw [hq, iteK_eq, cond_false] at hk
      obtain ⟨i, zv, hi, hzv, htr⟩ := zeroT_some (θ := θ) hz
      obtain ⟨hb, t', ny, hmv, hy, h5⟩ := growK_true hk
      rw [bytesT_eq hs hi] at hb
      obtain ⟨vs, g1, g2, g3, g4⟩ := hr (PT.move_some _ _ _ _ _ _ hmv)
      have hn0 : n ≠ 0 := fun e => by rw [e] at hq; cases hq
      refine grow_ok (l := 0) (K := 0) (old := #[]) (tr := .nil) hm (Fm.refl _ _ _) htg hso hi hzv htr (by omega) (by rw [Nat.zero_add]; exact hb) hy (by rw [Nat.zero_mul]; exact hmv) (by rw [Nat.zero_add]; exact h5) (fun w' _ => rfl) g1 (by simp) g2 (fun v hv => by simp at hv) g3 (fun j v hj => by rw [PT.get_nil] at hj; cases hj) g4
  case slz b c =>
    have hk : forceN (Nat.mul n sz) (fun mc => iteK (Nat.beq n 0) (k .slz ⟨h, nx, ds, rnd⟩) false) = true := hk
    rw [forceN_eq] at hk
    obtain ⟨h1, h2⟩ := iteK_true hk
    exact none_ok _ _ _ (VR.slz b c) (Nat.eq_of_beq_eq_true h1) h2

theorem appendK_ok (hm : MRx P θ h nx w) {at_ : Array TypeId} {t el ty t1 el1 : TypeId} (ht : at_[0]? = some t) (hu : undF P t = some (.slice el)) (ht1 : at_[1]? = some t1) (hu1 : undF P t1 = some (.slice el1)) {sz : Nat} (hs : sizeT P el = some sz) (hpos : 0 < sz) {z : PT V} (hz : zeroT P el = some (sz, z))
    {va vx : V} {ca cx : Value} (ha : VR θ va ca) (hx : VR θ vx cx) (hk : appendK (bytesT P el) (tagE el sz) sz va vx ⟨h, nx, ds, rnd⟩ k = true) :
    ∃ θ' h' nx' v cv w', k v ⟨h', nx', ds, rnd⟩ = true ∧ VR θ' v cv ∧ MRx P θ' h' nx' w' ∧ Fm θ (hget h) w θ' (hget h') w' ∧ (Builtin.append_ at_ ty #[ca, cx]).run P w = .ok cv w' := by
  have hk : lenK vx (fun m => srcK vx h fun s so => appK (bytesT P el) (tagE el sz) sz va s so m ⟨h, nx, ds, rnd⟩ k) = true := hk
  obtain ⟨bx, lx, kx, rfl, h1⟩ := lenK_ok hx hk
  obtain ⟨s, so, h2, hr⟩ := srcK_ok hm hx h1
  exact appK_ok hm (Tag.elem el sz hpos) (szOf_tagE el hpos) hs hpos hz ha (.of_reads ht hu ht1 hu1 hs hr) h2
end
end Go.Ax

namespace Go.Ax
variable {P : Program}
section
variable {θ : Th} {e : Env} {a : Act} {h : Hp} {nx : A} {ds : List D} {rnd : Option A} {w : World} {o : Oper} {k : V → Cx → Bool}

/-- zeros appended -/
theorem AppArg.of_int {at_ : Array TypeId} {t el ty t1 : TypeId} {kd kx : IntKind} (ht : at_[0]? = some t) (hu : undF P t = some (.slice el)) (ht1 : at_[1]? = some t1) (hu1 : undF P t1 = some (.int kd)) {sz : Nat} (hs : sizeT P el = some sz)
    {i : TypeInfo} {zv : Value} (hi : P.info? el = some i) (hzv : i.zero = some zv) (hz : zv.cells.size = sz) {n : Nat} (hn : n ≤ 65536) (hb : n * i.bytes ≤ 1048576) : AppArg P at_ ty el sz w (.int kx (n : Int)) n (reps zv.cells (n * sz)) := by
  have hwn : IntKind.i64.wrap (n : Int) = n := by rw [wrap_i64]; omega
  have hti : ∀ w, (typeInfo el).run P w = .ok i w := fun w => by simp [typeInfo, hi]
  have hneg : ¬ ((n : Int) < 0) := by omega
  have hbig : ¬ ((n : Int) * (i.bytes : Int) > 2 ^ 48) := by rw [← Int.natCast_mul]; omega
  have happ : ∀ w, (if n * sz = 0 then pure #[] else (do pure (Builtin.zeroCells (← zeroValue el).cells n)) : Sem (Array Value)).run P w = .ok (reps zv.cells (n * sz)) w := fun w => by
    by_cases h0 : n * sz = 0
    · rw [if_pos h0, h0]; simp [reps]
    · rw [if_neg h0]
      simp [run_zero hi hzv, zeroCells_reps, hz]
  refine ⟨fun base l K w' hcap hst => ?_, fun base l K i' zv' hi' hzv' hcap hb' => ?_⟩
  · have h1 : (#[.slice base l K, .int kx (n : Int)] : Array Value)[0]? = some (.slice base l K) := rfl
    have h2 : (#[.slice base l K, .int kx (n : Int)] : Array Value)[1]? = some (.int kx (n : Int)) := rfl
    simp only [Builtin.append_, ht, h1, h2, ht1, Sem.run_bind, run_under hu, run_under hu1, Result.andThen_ok, run_sizeOf hs, Sem.run_pure, if_true, asInt, asIntOf, hwn, if_neg hneg, hti, if_neg hbig, Int.toNat_natCast, if_pos hcap]
    simp only [Bool.not_true, Bool.false_eq_true, if_false, happ, Result.andThen_ok]
    cases base with
    | none =>
      have e : w = w' := by simpa using hst
      subst e; rfl
    | some b => simp only [Sem.run_bind, hst, Result.andThen_ok, Sem.run_pure]
  · rw [hi] at hi'
    obtain rfl : i = i' := by simpa using hi'
    rw [hzv] at hzv'
    obtain rfl : zv = zv' := by simpa using hzv'
    refine ⟨{ w with drawn := w.drawn + 1 }, (Question.appendCap (l + n) K el).cut (w.tape w.drawn (.appendCap (l + n) K el)), rfl, rfl, rfl, rfl, ?_, cap_le hb', fun old ho => ?_⟩
    · simp only [Question.cut]; omega
    · have hroom := nextcap_room hcap hb'
      have hle : ¬ (l + n ≤ K) := by omega
      have h3 : (l + n) * (i.bytes + 1) = (l + n) * i.bytes + (l + n) := by rw [Nat.mul_add, Nat.mul_one]
      have hmax : ¬ (((l + n : Nat) : Int) > IntKind.i64.max ∧ (True ∨ i.bytes = 0)) := by
        have : IntKind.i64.max = 9223372036854775807 := by decide
        rw [this]
        intro ⟨h, _⟩
        omega
      have h1 : (#[.slice base l K, .int kx (n : Int)] : Array Value)[0]? = some (.slice base l K) := rfl
      have h2 : (#[.slice base l K, .int kx (n : Int)] : Array Value)[1]? = some (.int kx (n : Int)) := rfl
      have hch : (choose (.appendCap (l + n) K el)).run P w = .ok ((Question.appendCap (l + n) K el).cut (w.tape w.drawn (.appendCap (l + n) K el))) { w with drawn := w.drawn + 1 } := rfl
      have hask : ∀ b (w : World), (askRoom b).run P w = .ok () w := fun b w => by unfold askRoom; split <;> rfl
      simp only [Builtin.append_, ht, h1, h2, ht1, Sem.run_bind, run_under hu, run_under hu1, Result.andThen_ok, run_sizeOf hs, Sem.run_pure, if_true, asInt, asIntOf, hwn, if_neg hneg, hti, if_neg hbig, Int.toNat_natCast, if_neg hle]
      rw [if_neg hmax]
      simp only [Sem.run_bind, hti, Result.andThen_ok]
      rw [if_neg hroom]
      simp only [Sem.run_bind, hch, hti, hask, Result.andThen_ok, ho, Bool.not_true, Bool.false_eq_true, if_false, happ, run_zero hi hzv]
      rfl

theorem appendN_ok (hm : MRx P θ h nx w) {at_ : Array TypeId} {t el ty t1 : TypeId} {kd : IntKind} (ht : at_[0]? = some t) (hu : undF P t = some (.slice el)) (ht1 : at_[1]? = some t1) (hu1 : undF P t1 = some (.int kd)) {sz : Nat} (hs : sizeT P el = some sz) (hpos : 0 < sz) {z : PT V} (hz : zeroT P el = some (sz, z))
    {va vx : V} {ca cx : Value} (ha : VR θ va ca) (hx : VR θ vx cx)
    (hk : idxK vx 65536 (fun m => iteK (Nat.ble (Nat.mul m (bytesT P el)) 1048576) (repK sz z m 0 .nil (fun new => appK (bytesT P el) (tagE el sz) sz va new 0 m ⟨h, nx, ds, rnd⟩ k) false) false) false = true) :
    ∃ θ' h' nx' v cv w', k v ⟨h', nx', ds, rnd⟩ = true ∧ VR θ' v cv ∧ MRx P θ' h' nx' w' ∧ Fm θ (hget h) w θ' (hget h') w' ∧ (Builtin.append_ at_ ty #[ca, cx]).run P w = .ok cv w' := by
  obtain ⟨kx, n, rfl, hn, h1⟩ := idxK_true hx hk
  obtain ⟨hb, h2⟩ := iteK_true h1
  obtain ⟨i, zv, hi, hzv, htr⟩ := zeroT_some (θ := θ) hz
  rw [bytesT_eq hs hi] at hb
  obtain ⟨tn, h3, ht'⟩ := rep_ok htr h2
  refine appK_ok hm (Tag.elem el sz hpos) (szOf_tagE el hpos) hs hpos hz ha (fun hj => ⟨reps zv.cells (n * sz), .of_int ht hu ht1 hu1 hs hi hzv htr.1 hn (ble_le hb), ht'.1, ht'.2.1, fun j v hj hv => ?_⟩) h3
  rw [Nat.zero_add] at hv
  exact (ht'.2.2 j v hv).2

/-! ### a slice of a slice -/
/-- bounds, where the executor knows less room than there is -/
theorem bnds_top {lo hi : Option Operand} (hlo : ∀ y, lo = some y → VR θ (opnd e y) (a.eval y)) (hhi : ∀ y, hi = some y → VR θ (opnd e y) (a.eval y)) {len top cap : Nat} {k : Nat → Nat → Bool}
    (hlc : len ≤ cap) (htc : top ≤ cap) (hlt : len ≤ top) (h : (bndC hi).f e len top (fun h => (bndC lo).f e 0 h fun l => k h l) = true) :
    ∃ h l : Nat, l ≤ h ∧ h ≤ top ∧ k h l = true ∧ ∀ s w, (Instr.sliceBounds s len cap (lo.map a.eval) (hi.map a.eval) none).run P w = .ok (l, h, cap) w := by
  rcases bndC_true hhi h with ⟨rfl, h1⟩ | ⟨y, kd, hb, rfl, hy, hc, h1⟩
  · rcases bndC_true hlo h1 with ⟨rfl, h2⟩ | ⟨z, kd', l, rfl, hz, hc', h2⟩
    · exact ⟨len, 0, by omega, hlt, h2, fun s w => run_bounds (.inl ⟨rfl, rfl⟩) (.inl ⟨rfl, rfl⟩) w⟩
    · exact ⟨len, l, hc', hlt, h2, fun s w => run_bounds (.inl ⟨rfl, rfl⟩) (.inr ⟨z, kd', rfl, hz, hc'⟩) w⟩
  · rcases bndC_true hlo h1 with ⟨rfl, h2⟩ | ⟨z, kd', l, rfl, hz, hc', h2⟩
    · exact ⟨hb, 0, by omega, hc, h2, fun s w => run_bounds (.inr ⟨y, kd, rfl, hy, by omega⟩) (.inl ⟨rfl, rfl⟩) w⟩
    · exact ⟨hb, l, hc', hc, h2, fun s w => run_bounds (.inr ⟨y, kd, rfl, hy, by omega⟩) (.inr ⟨z, kd', rfl, hz, hc'⟩) w⟩

/-- three bounds -/
theorem run_bounds3 {s : Bool} {len cap : Nat} {lo : Option Operand} {m hi : Operand} {km kh : IntKind} {mv hv l : Nat} (hm : a.eval m = .int km (mv : Int)) (hmc : mv ≤ cap) (hh : a.eval hi = .int kh (hv : Int)) (hhm : hv ≤ mv)
    (hl : (lo = none ∧ l = 0) ∨ (∃ y kd, lo = some y ∧ a.eval y = .int kd (l : Int) ∧ l ≤ hv)) (w : World) :
    (Instr.sliceBounds s len cap (lo.map a.eval) (some (a.eval hi)) (some (a.eval m))).run P w = .ok (l, hv, mv) w := by
  unfold Instr.sliceBounds
  rcases hl with ⟨rfl, rfl⟩ | ⟨z, kd', rfl, hz, hc'⟩
  · simp only [Option.map_none, Sem.run_bind, Sem.run_pure, Result.andThen_ok, hm, hh, run_bound _ hmc, run_bound _ hhm]
  · simp only [Option.map_some, Sem.run_bind, Sem.run_pure, Result.andThen_ok, hm, hh, hz, run_bound _ hmc, run_bound _ hhm, run_bound _ hc']

theorem sliceAt_run {t el : TypeId} {sz : Nat} (hd : undF P t = some (.slice el)) (hs : sizeT P el = some sz) {b : Option Addr} {len cap l hb m : Nat} {lo hi mx : Option Value} {w : World}
    (hrun : (Instr.sliceBounds true len cap lo hi mx).run P w = .ok (l, hb, m) w) :
    (Instr.sliceAt t (.slice b len cap) lo hi mx).run P w = .ok (.slice (if m = l then b else b.map (·.add (l * sz))) (hb - l) (m - l)) w := by
  simp only [Instr.sliceAt, Instr.slice, Sem.run_bind, run_under hd, Result.andThen_ok, hrun, run_sizeOf hs, Sem.run_pure]

theorem beq_sub {m l : Nat} (h : l ≤ m) : Nat.beq (Nat.sub m l) 0 = decide (m = l) := by
  rw [Bool.eq_iff_iff, Nat.beq_eq, decide_eq_true_iff, Nat.sub_eq]; omega

/-- the slice that is cut out of one of known capacity -/
theorem cut_known {x : A} {r of sz l hb m : Nat} (hr : θ.ρ x = some r) (hl : l ≤ hb) (hm : hb ≤ m) :
    VR θ (.sl x (iteK (Nat.beq (Nat.sub m l) 0) of (Nat.add of (Nat.mul l sz))) (Nat.sub hb l) false (Nat.sub m l)) (.slice (if m = l then some ⟨r, of, none⟩ else (some (⟨r, of, none⟩ : Addr)).map (·.add (l * sz))) (hb - l) (m - l)) := by
  rw [iteK_eq, beq_sub (by omega)]
  by_cases hq : m = l
  · rw [decide_eq_true hq, cond_true, if_pos hq]
    exact VR.slk _ _ _ _ _ hr (by simp only [Nat.sub_eq]; omega)
  · rw [decide_eq_false hq, cond_false, if_neg hq]
    simp only [Option.map_some, Addr.add_of]
    exact VR.slk _ _ _ _ _ hr (by simp only [Nat.sub_eq]; omega)

theorem rd_sliceC {t : TypeId} {x : Operand} {lo hi mx : Option Operand} (ho : o.op = .slice t x lo hi mx) (hm : MRx P θ h nx w) (hx : VR θ (opnd e x) (a.eval x))
    (hlo : ∀ y, lo = some y → VR θ (opnd e y) (a.eval y)) (hhi : ∀ y, hi = some y → VR θ (opnd e y) (a.eval y)) (hmx : ∀ y, mx = some y → VR θ (opnd e y) (a.eval y)) {ev : Ev} (hk : (sliceC P t x lo hi mx).f ev e ⟨h, nx, ds, rnd⟩ k = true) :
    RdOk P θ w (execOp a.eval o) (fun v => k v ⟨h, nx, ds, rnd⟩) := by
  have pure_case : ((pureC P (.slice t x lo hi mx)).on fun f => (⟨fun _ e cx k => f e fun v => k v cx⟩ : OC)).f ev e ⟨h, nx, ds, rnd⟩ k = true → RdOk P θ w (execOp a.eval o) (fun v => k v ⟨h, nx, ds, rnd⟩) := fun hk => by
    simp only [Clo.on_f] at hk
    exact RdOk.of_pure (ok_slice (k := fun v => k v ⟨h, nx, ds, rnd⟩) ho hx hlo hhi (by rw [ho]; exact hk))
  have he : execOp a.eval o = (do pure (.value (← Instr.sliceAt t (a.eval x) (lo.map a.eval) (hi.map a.eval) (mx.map a.eval)))) := by unfold execOp; rw [ho]
  unfold sliceC at hk
  cases hd : undF P t with
  | none => simp only [hd] at hk; exact pure_case hk
  | some d =>
    cases d with
    | slice el =>
      simp only [hd] at hk
      cases hs : sizeT P el with
      | none => simp only [hs] at hk; cases hk
      | some sz =>
        simp only [hs] at hk
        have fin : ∀ {v : V} {cv : Value}, k v ⟨h, nx, ds, rnd⟩ = true → VR θ v cv → (Instr.sliceAt t (a.eval x) (lo.map a.eval) (hi.map a.eval) (mx.map a.eval)).run P w = .ok cv w → RdOk P θ w (execOp a.eval o) (fun v => k v ⟨h, nx, ds, rnd⟩) :=
          fun h1 h2 h3 => RdOk.of_val h1 h2 h3 he
        cases mx with
        | none =>
          simp only [Clo.on_f, opndC_eq] at hk
          rw [asSl_eq] at hk
          simp only [Option.map_none] at fin
          generalize hxv : opnd e x = v at hk hx
          generalize hcv : a.eval x = cv at hx fin
          cases hx with
          | slk b of len c r hr hl =>
            simp only [iteK_eq, cond_false, forceN_eq] at hk
            obtain ⟨hb, l, hle, hcap, hno, h2, hrun⟩ := bnds_true (P := P) hlo hhi hl hk
            have := cut_known (θ := θ) (of := of) (sz := sz) hr hle hcap
            rw [iteK_eq] at this
            exact fin h2 this (sliceAt_run hd hs (hrun true w))
          | slu b of len c r hr hl =>
            have hk : hcellsK h b (fun n g bz _ => iteK (g && Nat.beq bz sz) (forceN (Nat.max len (Nat.sub (Nat.div n sz) c)) fun top => (bndC hi).f e len top fun h' => (bndC lo).f e 0 h' fun l =>
                iteK (Nat.beq l 0) (k (.sl b of h' true c) ⟨h, nx, ds, rnd⟩)
                  (iteK (Nat.ble (Nat.succ l) top) (forceN (Nat.add of (Nat.mul l sz)) fun o => forceN (Nat.sub h' l) fun n => forceN (Nat.add c l) fun c => k (.sl b o n true c) ⟨h, nx, ds, rnd⟩) (k .slz ⟨h, nx, ds, rnd⟩))) false) false = true := hk
            obtain ⟨n, g, bz, tr, hbk, h1⟩ := hcellsK_true hk
            obtain ⟨hg, h2⟩ := iteK_true h1
            rw [Bool.and_eq_true] at hg
            obtain ⟨rfl, hbz⟩ := hg
            obtain rfl : bz = sz := Nat.eq_of_beq_eq_true hbz
            simp only [forceN_eq] at h2
            obtain ⟨ob, p2, cs, cel, rfl, hfl, p3, p4, p5, p6⟩ := hm.blk b _ r hbk hr
            have hsz : cs.size = θ.κ b * szOf bz := p6 rfl
            have hdiv : n / bz ≤ θ.κ b := by
              rcases Nat.eq_zero_or_pos bz with e0 | e0
              · subst e0; simp
              · rw [szOf_pos e0] at hsz
                exact Nat.div_le_of_le_mul (by rw [Nat.mul_comm]; omega)
            have hmax : Nat.max len (Nat.sub (Nat.div n bz) c) ≤ θ.κ b - c := by
              refine Nat.max_le.2 ⟨by omega, ?_⟩
              simp only [Nat.sub_eq, divEq]; omega
            obtain ⟨hb, l, hle, hcap, h3, hrun⟩ := bnds_top (P := P) hlo hhi (by omega) hmax (Nat.le_max_left _ _) h2
            have hr' := sliceAt_run hd hs (b := some ⟨r, of, none⟩) (hrun true w)
            cases hq : Nat.beq l 0 with
            | true =>
              obtain rfl : l = 0 := Nat.eq_of_beq_eq_true hq
              rw [hq, iteK_eq, cond_true] at h3
              have e1 : (if θ.κ b - c = 0 then some (⟨r, of, none⟩ : Addr) else (some (⟨r, of, none⟩ : Addr)).map (·.add (0 * bz))) = some ⟨r, of, none⟩ := by
                split
                · rfl
                · simp [Addr.add_of]
              rw [e1, Nat.sub_zero, Nat.sub_zero] at hr'
              exact fin h3 (VR.slu b of hb c r hr (by omega)) hr'
            | false =>
              rw [hq, iteK_eq, cond_false] at h3
              cases hq2 : Nat.ble (Nat.succ l) (Nat.max len (Nat.sub (Nat.div n bz) c)) with
              | true =>
                rw [hq2, iteK_eq, cond_true] at h3
                have hq2 := ble_le hq2
                rw [if_neg (by omega)] at hr'
                simp only [Option.map_some, Addr.add_of] at hr'
                have hv := VR.slu (θ := θ) b (of + l * bz) (hb - l) (c + l) r hr (by omega)
                rw [← Nat.sub_sub] at hv
                exact fin h3 hv hr'
              | false =>
                rw [hq2, iteK_eq, cond_false] at h3
                have hlt : ¬ (l + 1 ≤ Nat.max len (Nat.sub (Nat.div n bz) c)) := fun hh => by
                  have : Nat.ble (Nat.succ l) (Nat.max len (Nat.sub (Nat.div n bz) c)) = true := Nat.ble_eq_true_of_le hh
                  rw [this] at hq2; cases hq2
                have e0 : hb - l = 0 := by omega
                rw [e0] at hr'
                have e1 : ∃ ad, (if θ.κ b - c = l then some (⟨r, of, none⟩ : Addr) else (some (⟨r, of, none⟩ : Addr)).map (·.add (l * bz))) = some ad := by
                  split
                  · exact ⟨_, rfl⟩
                  · exact ⟨_, rfl⟩
                obtain ⟨ad, e1⟩ := e1
                rw [e1] at hr'
                exact fin h3 (VR.slz ad _) hr'
          | sln =>
            obtain ⟨hb, l, hle, hcap, hno, h2, hrun⟩ := bnds_true (P := P) hlo hhi (Nat.le_refl _) hk
            obtain rfl : hb = 0 := by omega
            obtain rfl : l = 0 := by omega
            exact fin h2 VR.sln (sliceAt_run hd hs (b := none) (hrun true w))
          | slz ad c =>
            obtain ⟨hb, l, hle, hcap, h2, hrun⟩ := bnds_top (P := P) (cap := c) hlo hhi (Nat.zero_le _) (Nat.zero_le _) (Nat.le_refl _) hk
            obtain rfl : hb = 0 := by omega
            obtain rfl : l = 0 := by omega
            have hr' := sliceAt_run hd hs (b := some ad) (hrun true w)
            have e1 : ∃ ad', (if c = 0 then some ad else (some ad).map (·.add (0 * sz))) = some ad' := by
              split
              · exact ⟨_, rfl⟩
              · exact ⟨_, rfl⟩
            obtain ⟨ad', e1⟩ := e1
            rw [e1] at hr'
            exact fin h2 (VR.slz ad' _) hr'
          | _ => cases hk
        | some m =>
          cases hi with
          | none => cases hk
          | some hi =>
            simp only [Clo.on_f, opndC_eq] at hk
            rw [asSl_eq] at hk
            simp only [Option.map_some] at fin
            have hmv := hmx m rfl
            have hhv := hhi hi rfl
            generalize hxv : opnd e x = v at hk hx
            generalize hcv : a.eval x = cv at hx fin
            -- three bounds within 'top'
            have tri : ∀ {top cap len : Nat} {q : Nat → Nat → Nat → Bool}, top ≤ cap → idxK (opnd e m) top (fun m => idxK (opnd e hi) m (fun h => (bndC lo).f e 0 h fun l => q m h l) false) false = true →
                ∃ mv hv l : Nat, l ≤ hv ∧ hv ≤ mv ∧ mv ≤ top ∧ q mv hv l = true ∧ ∀ w, (Instr.sliceBounds true len cap (lo.map a.eval) (some (a.eval hi)) (some (a.eval m))).run P w = .ok (l, hv, mv) w := fun htop hh => by
              obtain ⟨km, mv, h1, h2, h3⟩ := idxK_true hmv hh
              obtain ⟨kh, hv, h4, h5, h6⟩ := idxK_true hhv h3
              rcases bndC_true hlo h6 with ⟨rfl, h7⟩ | ⟨z, kd, l, rfl, hz, hc, h7⟩
              · exact ⟨mv, hv, 0, Nat.zero_le _, h5, h2, h7, fun w => run_bounds3 h1 (by omega) h4 h5 (.inl ⟨rfl, rfl⟩) w⟩
              · exact ⟨mv, hv, l, hc, h5, h2, h7, fun w => run_bounds3 h1 (by omega) h4 h5 (.inr ⟨z, kd, rfl, hz, hc⟩) w⟩
            cases hx with
            | slk b of len c r hr hl =>
              simp only [iteK_eq, cond_false, Bool.false_and, forceN_eq] at hk
              obtain ⟨mv, hv, l, h1, h2, h3, h4, hrun⟩ := tri (len := len) (Nat.le_refl c) hk
              have := cut_known (θ := θ) (of := of) (sz := sz) hr h1 h2
              rw [iteK_eq] at this
              exact fin h4 this (sliceAt_run hd hs (hrun w))
            | slu b of len c r hr hl =>
              simp only [iteK_eq, cond_true, Bool.true_and, forceN_eq] at hk
              obtain ⟨mv, hv, l, h1, h2, h3, h4, hrun⟩ := tri (len := len) (cap := θ.κ b - c) (by omega) hk
              have h4 : iteK (Nat.beq l len && Nat.ble 1 l) false (k (.sl b (bif Nat.beq (Nat.sub mv l) 0 then of else Nat.add of (Nat.mul l sz)) (Nat.sub hv l) false (Nat.sub mv l)) ⟨h, nx, ds, rnd⟩) = true := by rw [iteK_eq]; exact h4
              have := cut_known (θ := θ) (of := of) (sz := sz) hr h1 h2
              rw [iteK_eq] at this
              exact fin (iteK_false h4).2 this (sliceAt_run hd hs (hrun w))
            | sln =>
              obtain ⟨mv, hv, l, h1, h2, h3, h4, hrun⟩ := tri (len := 0) (Nat.le_refl 0) hk
              obtain rfl : mv = 0 := by omega
              obtain rfl : hv = 0 := by omega
              obtain rfl : l = 0 := by omega
              exact fin h4 VR.sln (sliceAt_run hd hs (b := none) (hrun w))
            | slz ad c =>
              obtain ⟨mv, hv, l, h1, h2, h3, h4, hrun⟩ := tri (len := 0) (Nat.zero_le c) hk
              obtain rfl : mv = 0 := by omega
              obtain rfl : hv = 0 := by omega
              obtain rfl : l = 0 := by omega
              exact fin h4 (VR.slz ad _) (sliceAt_run hd hs (b := some ad) (hrun w))
            | _ => cases hk
    | _ => simp only [hd] at hk; exact pure_case hk
end
end Go.Ax

namespace Go.Ax
variable {P : Program}

/-! ### keys -/
theorem eqIK_true {θ : Th} {a b : V} {ca cb : Value} (ha : VR θ a ca) (hb : VR θ b cb) {k : Bool → Bool} (h : eqIK a b k false = true) : ∃ (kd : IntKind) (x y : Int), ca = .int kd x ∧ cb = .int kd y ∧ k (x == y) = true := by
  unfold eqIK at h
  rw [asI_eq] at h
  cases ha with
  | i n =>
    obtain ⟨m, rfl, h1⟩ := asI_true h
    cases hb
    rw [forceB_eq, beq_iff'] at h1
    exact ⟨_, _, _, rfl, rfl, h1⟩
  | u kd n =>
    obtain ⟨kd1, n1, e1, h1⟩ := asU_true h
    injection e1 with e1 e2
    subst e1 e2
    obtain ⟨kd2, m, rfl, h2⟩ := asU_true h1
    obtain ⟨rfl, h3⟩ := kindK_true h2
    cases hb
    rw [forceB_eq, beq_iff'] at h3
    exact ⟨_, _, _, rfl, rfl, h3⟩
  | _ => cases h

theorem beq_bytes (s t : ByteArray) : (s == t) = (s.toList == t.toList) := beq_toListBytes s t
theorem eqSK_true {θ : Th} {a b : V} {ca cb : Value} (ha : VR θ a ca) (hb : VR θ b cb) {k : Bool → Bool} (h : eqSK a b k false = true) : ∃ s t : ByteArray, ca = .string s ∧ cb = .string t ∧ k (s == t) = true := by
  unfold eqSK at h
  obtain ⟨l, x, rfl, h1⟩ := asS_true h
  obtain ⟨m, y, rfl, h2⟩ := asS_true h1
  obtain ⟨s, rfl, hs, hv, hsz⟩ := ha.str_inv
  obtain ⟨t, rfl, ht, hw, htz⟩ := hb.str_inv
  refine ⟨s, t, rfl, rfl, ?_⟩
  rw [beq_bytes, str_eq hs hv ht hw]
  rw [iteK_eq] at h2
  cases hq : Nat.beq l m with
  | true => rw [hq, cond_true, forceB_eq] at h2; simpa [hq] using h2
  | false => rw [hq, cond_false] at h2; simpa [hq] using h2

theorem run_part1 {t : TypeId} {cs : Array Value} {off sz : Nat} {kd : IntKind} (hu : undF P t = some (.int kd)) (hs : sizeT P t = some sz) (hlt : off < cs.size) (w : World) : (part t cs off).run P w = .ok (cs.getD off Go.undef) w := by
  have ha : aggT P t = some false := by unfold aggT; rw [hu]
  rw [run_part (n := 0) hs ha]
  simp only [Bool.false_eq_true, if_false]
  rw [Array.getD_eq_getD_getElem?, Array.getElem?_eq_getElem hlt]; rfl

theorem keyFs_cons {f : Field} {fs : List Field} {i : Nat} (h : keyFs P (f :: fs) i = true) : f.name ≠ "_" ∧ f.offset = i ∧ (∃ kd, undF P f.type = some (.int kd)) ∧ (∃ sz, sizeT P f.type = some sz) ∧ keyFs P fs (i + 1) = true := by
  unfold keyFs at h
  simp only [Bool.and_eq_true] at h
  obtain ⟨⟨⟨⟨h1, h2⟩, h3⟩, h4⟩, h5⟩ := h
  refine ⟨by simpa using h1, Nat.eq_of_beq_eq_true h2, ?_, Option.isSome_iff_exists.1 h4, h5⟩
  split at h3
  · rename_i kd hu; exact ⟨kd, hu⟩
  · cases h3

theorem fields_eq {θ : Th} {n : Nat} {s t : PT V} {cs ds : Array Value} (hs : TR θ n s cs) (ht : TR θ n t ds) : ∀ (fs : List Field) (i : Nat), keyFs P fs i = true → i + fs.length = n → ∀ {k : Bool → Bool}, cellsEqK s t fs.length i k false = true →
    ∃ r, k r = true ∧ (∀ d w, (Op.eqFields (d + 1) cs ds fs).run P w = .ok r w) ∧ (r = true → ∀ j, i ≤ j → j < n → ∃ kd x, cs.getD j Go.undef = .int kd x ∧ ds.getD j Go.undef = .int kd x) := by
  intro fs
  induction fs with
  | nil => intro i _ hn k h; exact ⟨true, h, fun _ _ => rfl, fun _ j h1 h2 => by simp only [List.length_nil] at hn; omega⟩
  | cons f fs ih =>
    intro i hf hn k h
    obtain ⟨f1, rfl, ⟨kd, f3⟩, ⟨sz, f4⟩, f5⟩ := keyFs_cons hf
    have h : PT.getK s f.offset (fun a => PT.getK t f.offset (fun b => eqIK a b (fun q => iteK q (cellsEqK s t fs.length (f.offset + 1) k false) (k false)) false) false) false = true := h
    obtain ⟨x, hx, h1⟩ := getK_true h
    obtain ⟨y, hy, h2⟩ := getK_true h1
    obtain ⟨g1, g2⟩ := hs.2.2 _ _ hx
    obtain ⟨g3, g4⟩ := ht.2.2 _ _ hy
    obtain ⟨kd', zx, zy, e1, e2, h3⟩ := eqIK_true g2 g4 h2
    have p1 : ∀ w, (part f.type cs f.offset).run P w = .ok (.int kd' zx) w := fun w => by rw [run_part1 f3 f4 (by rw [hs.1]; exact g1), e1]
    have p2 : ∀ w, (part f.type ds f.offset).run P w = .ok (.int kd' zy) w := fun w => by rw [run_part1 f3 f4 (by rw [ht.1]; exact g3), e2]
    have hun : P.underlying f.type = some (.int kd) := undF_some f3
    cases hq : (zx == zy) with
    | false =>
      rw [hq, iteK_eq, cond_false] at h3
      refine ⟨false, h3, fun d w => ?_, fun hh => by cases hh⟩
      simp only [Op.eqFields, f1, ne_eq, not_false_eq_true, if_true, Sem.run_bind, p1, p2, Result.andThen_ok, run_equalIn_int w d f.type kd' kd zx zy hun, hq]
      rfl
    | true =>
      rw [hq, iteK_eq, cond_true] at h3
      obtain ⟨r, h4, h5, h6⟩ := ih (f.offset + 1) f5 (by simp only [List.length_cons] at hn; omega) h3
      refine ⟨r, h4, fun d w => ?_, fun hr j hj hj' => ?_⟩
      · simp only [Op.eqFields, f1, ne_eq, not_false_eq_true, if_true, Sem.run_bind, p1, p2, Result.andThen_ok, run_equalIn_int w d f.type kd' kd zx zy hun, hq]
        exact h5 d w
      · by_cases ej : j = f.offset
        · subst ej
          have : zx = zy := by simpa using hq
          subst this
          exact ⟨kd', zx, e1, e2⟩
        · exact h6 hr j (by omega) hj'

/-- two keys held against each other, as the model does it -/
def EqK (P : Program) (kt : TypeId) (ca cb : Value) (r : Bool) : Prop :=
  ((∃ d, undF P kt = some d ∧ Instr.sameNow d ca cb = some r) ∨ ((∃ fs, undF P kt = some (.struct fs)) ∧ ∀ w, (Op.equal kt ca cb).run P w = .ok r w)) ∧ (r = true → Instr.sameBits 10000 cb ca = true)

theorem keyN_some {kt : TypeId} {c : Nat} (h : keyN P kt = some c) : (c = 0 ∧ ∃ kd, undF P kt = some (.int kd)) ∨ (c = 1 ∧ undF P kt = some .string) ∨ (∃ fs : Array Field, c = fs.toList.length + 2 ∧ undF P kt = some (.struct fs) ∧ P.stoodInHeld kt = false ∧ keyFs P fs.toList 0 = true) := by
  unfold keyN at h
  split at h
  · rename_i kd hu; simp only [Option.some.injEq] at h; exact .inl ⟨h.symm, kd, hu⟩
  · rename_i hu; simp only [Option.some.injEq] at h; exact .inr (.inl ⟨h.symm, hu⟩)
  · rename_i fs hu
    cases hq : (!P.stoodInHeld kt && keyFs P fs.toList 0) with
    | false => rw [hq] at h; cases h
    | true =>
      rw [hq, cond_true, Option.some.injEq] at h
      rw [Bool.and_eq_true, Bool.not_eq_true'] at hq
      exact .inr (.inr ⟨fs, h.symm, hu, hq.1, hq.2⟩)
  · cases h

theorem sameBits_cells {n : Nat} : ∀ (l m : List Value), l.length = m.length → (∀ j, j < l.length → ∃ kd x, l.getD j Go.undef = .int kd x ∧ m.getD j Go.undef = .int kd x) → ((l.zip m).all fun (x, y) => Instr.sameBits n x y) = true := by
  intro l
  induction l with
  | nil => intro m _ _; rfl
  | cons a l ih =>
    intro m hl h
    cases m with
    | nil => cases hl
    | cons b m =>
      obtain ⟨kd, x, h1, h2⟩ := h 0 (by simp)
      simp only [List.getD_cons_zero] at h1 h2
      subst h1 h2
      simp only [List.zip_cons_cons, List.all_cons, Bool.and_eq_true]
      refine ⟨by cases n <;> simp [Instr.sameBits], ih m (by simpa using hl) fun j hj => ?_⟩
      have := h (j + 1) (by simpa using hj)
      simpa only [List.getD_cons_succ] using this

theorem keyQ_true {θ : Th} {kt : TypeId} {c : Nat} (hc : keyN P kt = some c) {a b : V} {ca cb : Value} (ha : VR θ a ca) (hb : VR θ b cb) {k : Bool → Bool} (h : keyQ c a b k false = true) : ∃ r, k r = true ∧ EqK P kt ca cb r := by
  rcases keyN_some hc with ⟨rfl, kd, hu⟩ | ⟨rfl, hu⟩ | ⟨fs, rfl, hu, hst, hf⟩
  · obtain ⟨kd', x, y, rfl, rfl, h1⟩ := eqIK_true ha hb h
    exact ⟨_, h1, .inl ⟨_, hu, by simp [Instr.sameNow]⟩, fun hr => by
      have : x = y := by simpa using hr
      subst this
      show (kd' == kd' && x == x) = true
      simp⟩
  · obtain ⟨s, t, rfl, rfl, h1⟩ := eqSK_true ha hb h
    refine ⟨_, h1, .inl ⟨_, hu, by simp [Instr.sameNow]⟩, fun hr => ?_⟩
    show (t == s) = true
    have : s = t := by
      rw [beq_bytes, beq_iff_eq] at hr
      exact ByteArray.ext (Array.toList_inj.1 (by rw [← ByteArray.toList_eq, ← ByteArray.toList_eq, hr]))
    subst this
    rw [beq_bytes]; simp
  · have h : asAgg a (fun m s => asAgg b (fun m' t => iteK (Nat.beq m fs.toList.length) (iteK (Nat.beq m' fs.toList.length) (cellsEqK s t fs.toList.length 0 k false) false) false) false) false = true := h
    obtain ⟨m, s, rfl, h1⟩ := asAgg_true h
    obtain ⟨m', t, rfl, h2⟩ := asAgg_true h1
    obtain ⟨e1, h3⟩ := iteK_true h2
    obtain ⟨e2, h4⟩ := iteK_true h3
    obtain rfl : m = fs.toList.length := Nat.eq_of_beq_eq_true e1
    obtain rfl : m' = fs.toList.length := Nat.eq_of_beq_eq_true e2
    obtain ⟨cs, rfl, hs⟩ := ha.agg_inv
    obtain ⟨ds, rfl, ht⟩ := hb.agg_inv
    obtain ⟨r, h5, h6, h7⟩ := fields_eq hs ht fs.toList 0 hf (by omega) h4
    have hun : P.underlying kt = some (.struct fs) := undF_some hu
    have hfo : P.fieldsOf kt = fs := by unfold Program.fieldsOf; rw [hun]
    refine ⟨r, h5, .inr ⟨⟨fs, hu⟩, fun w => ?_⟩, fun hr => ?_⟩
    · unfold Op.equal Op.maxDepth
      rw [run_equalIn_struct w 9999 kt cs ds (by rw [hfo]; exact hun) hst, hfo]
      exact h6 9998 w
    · have h8 := h7 hr
      show (ds.size == cs.size && (ds.toList.zip cs.toList).all fun (x, y) => Instr.sameBits 9999 x y) = true
      rw [Bool.and_eq_true]
      refine ⟨by rw [hs.1, ht.1]; simp, sameBits_cells _ _ (by simpa using (ht.1.trans hs.1.symm)) fun j hj => ?_⟩
      have hj' : j < fs.toList.length := by
        have : ds.toList.length = fs.toList.length := by simpa using ht.1
        omega
      obtain ⟨kd, x, g1, g2⟩ := h8 j (Nat.zero_le _) hj'
      exact ⟨kd, x, by rw [getD_list]; exact g2, by rw [getD_list]; exact g1⟩

/-! ### looking a key up -/
theorem ER.length {θ : Th} {es : List (V × V)} {ms : List MapEntry} (h : ER θ es ms) : es.length = ms.length := by
  induction h with
  | nil => rfl
  | cons a b e es ms ha hb _ ih => simp [ih]

/-- what the model finds -/
def Found' (P : Program) (kt : TypeId) (ck : Value) (ms : List MapEntry) (i : Nat) (r : Option (Nat × Value)) : Prop :=
  (∃ d, undF P kt = some d ∧ Instr.findNow d ck ms i = some r) ∨
  ((∃ fs, undF P kt = some (.struct fs)) ∧ (∀ fs, Instr.findNow (.struct fs) ck ms i = if ms = [] then some none else none) ∧ ∀ w, (Instr.findAsking kt ck ms i).run P w = .ok r w)

theorem sameNow_struct (fs : Array Field) (a b : Value) : Instr.sameNow (.struct fs) a b = none := by cases a <;> cases b <;> rfl
theorem findNow_struct (fs : Array Field) (a : Value) (ms : List MapEntry) (i : Nat) : Instr.findNow (.struct fs) a ms i = if ms = [] then some none else none := by
  cases ms with
  | nil => rfl
  | cons e ms => simp [Instr.findNow, sameNow_struct]

theorem Found'.nil {kt : TypeId} {c : Nat} (hc : keyN P kt = some c) (ck : Value) (i : Nat) : Found' P kt ck [] i none := by
  rcases keyN_some hc with ⟨rfl, kd, hu⟩ | ⟨rfl, hu⟩ | ⟨fs, rfl, hu, hst, hf⟩
  · exact .inl ⟨_, hu, rfl⟩
  · exact .inl ⟨_, hu, rfl⟩
  · exact .inl ⟨_, hu, rfl⟩

theorem Found'.yes {kt : TypeId} {ck : Value} {m : MapEntry} {ms : List MapEntry} {i : Nat} (h : EqK P kt ck m.key true) : Found' P kt ck (m :: ms) i (some (i, m.val)) := by
  rcases h.1 with ⟨d, hu, hs⟩ | ⟨⟨fs, hu⟩, hs⟩
  · exact .inl ⟨d, hu, by simp [Instr.findNow, hs]⟩
  · exact .inr ⟨⟨fs, hu⟩, fun fs => findNow_struct _ _ _ _, fun w => by simp [Instr.findAsking, hs w]⟩

theorem Found'.no {kt : TypeId} {c : Nat} (hc : keyN P kt = some c) {ck : Value} {m : MapEntry} {ms : List MapEntry} {i : Nat} {r : Option (Nat × Value)} (h : EqK P kt ck m.key false) (hf : Found' P kt ck ms (i + 1) r) : Found' P kt ck (m :: ms) i r := by
  rcases h.1 with ⟨d, hu, hs⟩ | ⟨⟨fs, hu⟩, hs⟩
  · rcases hf with ⟨d', hu', hf⟩ | ⟨⟨fs, hu'⟩, _, _⟩
    · rw [hu] at hu'
      obtain rfl : d = d' := by simpa using hu'
      exact .inl ⟨d, hu, by simp [Instr.findNow, hs, hf]⟩
    · rw [hu] at hu'
      obtain rfl : d = .struct fs := by simpa using hu'
      rw [sameNow_struct] at hs; cases hs
  · refine .inr ⟨⟨fs, hu⟩, fun fs => findNow_struct _ _ _ _, fun w => ?_⟩
    have hrest : (Instr.findAsking kt ck ms (i + 1)).run P w = .ok r w := by
      rcases hf with ⟨d', hu', hf⟩ | ⟨_, _, hf⟩
      · rw [hu] at hu'
        obtain rfl : TypeDesc.struct fs = d' := by simpa using hu'
        rw [findNow_struct] at hf
        split at hf
        · rename_i e; subst e
          simp only [Option.some.injEq] at hf; subst hf; rfl
        · cases hf
      · exact hf w
    simp [Instr.findAsking, hs w, hrest]

theorem Found'.run {kt : TypeId} {ck : Value} {ms : List MapEntry} {r : Option (Nat × Value)} (h : Found' P kt ck ms 0 r) (w : World) : (Instr.findKey kt ck ms).run P w = .ok r w := by
  unfold Instr.findKey
  rcases h with ⟨d, hu, hf⟩ | ⟨⟨fs, hu⟩, h1, h2⟩
  · simp [run_under hu, hf]
  · simp only [Sem.run_bind, run_under hu, Result.andThen_ok, h1 fs]
    split
    · rename_i r' e
      split at e
      · rename_i em; subst em
        simp only [Option.some.injEq] at e; subst e
        have := h2 w
        simpa [Instr.findAsking] using this
      · cases e
    · exact h2 w

theorem findE_true {θ : Th} {kt : TypeId} {c : Nat} (hc : keyN P kt = some c) {key : V} {ck : Value} (hkey : VR θ key ck) {no : Bool} {k : V → Bool} : ∀ (es : List (V × V)) (ms : List MapEntry) (i : Nat), ER θ es ms → findE (keyQ c) key es k no false = true →
    (∃ v e j, e ∈ ms ∧ VR θ v e.val ∧ k v = true ∧ Found' P kt ck ms i (some (j, e.val))) ∨ (no = true ∧ Found' P kt ck ms i none) := by
  intro es
  induction es with
  | nil =>
    intro ms i her h
    cases her
    exact .inr ⟨h, Found'.nil hc ck i⟩
  | cons p es ih =>
    intro ms i her h
    cases her with
    | cons a b m _ ms ha hb ht =>
      have h : keyQ c key a (fun r => iteK r (k b) (findE (keyQ c) key es k no false)) false = true := h
      obtain ⟨r, h1, h2⟩ := keyQ_true hc hkey ha h
      cases r with
      | true =>
        rw [iteK_eq, cond_true] at h1
        exact .inl ⟨b, m, i, by simp, hb, h1, Found'.yes h2⟩
      | false =>
        rw [iteK_eq, cond_false] at h1
        rcases ih ms (i + 1) ht h1 with ⟨v, e, j, g1, g2, g3, g4⟩ | ⟨g1, g2⟩
        · exact .inl ⟨v, e, j, by simp [g1], g2, g3, g4.no hc h2⟩
        · exact .inr ⟨g1, g2.no hc h2⟩

theorem checkKey_plain {t : TypeId} {d : TypeDesc} (hu : undF P t = some d) (hd : (∃ kd, d = .int kd) ∨ d = .string) (n : Nat) (q : Bool) (v : Value) (w : World) : (Instr.checkKey q (n + 1) t v).run P w = .ok () w := by
  simp only [Instr.checkKey, Sem.run_bind, run_under hu, Result.andThen_ok]
  rcases hd with ⟨kd, rfl⟩ | rfl <;> cases v <;> rfl

theorem checkKey_struct {t : TypeId} {fs : Array Field} (hu : undF P t = some (.struct fs)) (hf : keyFs P fs.toList 0 = true) {cs : Array Value} (hs : fs.toList.length ≤ cs.size) (n : Nat) (q : Bool) (w : World) : (Instr.checkKey q (n + 2) t (.agg cs)).run P w = .ok () w := by
  have key : ∀ (l : List Field) (i : Nat), keyFs P l i = true → i + l.length ≤ cs.size → (forIn l PUnit.unit (fun f _ => (do
      if f.name ≠ "_" then Instr.checkKey q (n + 1) f.type (← part f.type cs f.offset)
      pure (ForInStep.yield PUnit.unit) : Sem (ForInStep PUnit)))).run P w = .ok PUnit.unit w := by
    intro l
    induction l with
    | nil => intro i _ _; rfl
    | cons f l ih =>
      intro i hl hn
      obtain ⟨f1, rfl, ⟨kd, f3⟩, ⟨sz, f4⟩, f5⟩ := keyFs_cons hl
      simp only [List.length_cons] at hn
      rw [List.forIn_cons]
      simp only [Sem.run_bind, f1, ne_eq, not_false_eq_true, if_true, run_part1 f3 f4 (show f.offset < cs.size by omega), Result.andThen_ok, checkKey_plain f3 (.inl ⟨kd, rfl⟩), Sem.run_pure]
      exact ih (f.offset + 1) f5 (by omega)
  have := key fs.toList 0 hf (by omega)
  rw [Instr.checkKey]
  simp only [Sem.run_bind, run_under hu, Result.andThen_ok]
  rw [← Array.forIn_toList]
  simp at this ⊢
  rw [this]; rfl

/-- the key is of the kind -/
theorem keyIn_true {θ : Th} {kt : TypeId} {c : Nat} (hc : keyN P kt = some c) {key : V} {ck : Value} (hkey : VR θ key ck) {x : Bool} (h : keyIn c key x = true) : x = true ∧ ∀ q w, (Instr.checkKey q 10000 kt ck).run P w = .ok () w := by
  rcases keyN_some hc with ⟨rfl, kd, hu⟩ | ⟨rfl, hu⟩ | ⟨fs, rfl, hu, hst, hf⟩
  · exact ⟨h, fun q w => checkKey_plain hu (.inl ⟨kd, rfl⟩) 9999 q ck w⟩
  · exact ⟨h, fun q w => checkKey_plain hu (.inr rfl) 9999 q ck w⟩
  · have h : asAgg key (fun m _ => iteK (Nat.beq m fs.toList.length) x false) false = true := h
    obtain ⟨m, s, rfl, h1⟩ := asAgg_true h
    obtain ⟨e1, h2⟩ := iteK_true h1
    obtain rfl : m = fs.toList.length := Nat.eq_of_beq_eq_true e1
    obtain ⟨cs, rfl, hs⟩ := hkey.agg_inv
    exact ⟨h2, fun q w => checkKey_struct hu hf (by rw [hs.1]; exact Nat.le_refl _) 9998 q w⟩

section
variable {θ : Th} {e : Env} {a : Act} {h : Hp} {nx : A} {ds : List D} {rnd : Option A} {w : World} {o : Oper} {k : V → Cx → Bool}

theorem okV_true {ok q : Bool} {v : V} {cv : Value} (hv : VR θ v cv) {k : V → Bool} (h : okV ok v q k = true) : ∃ u, k u = true ∧ VR θ u (if ok then .tuple #[cv, .bool q] else cv) := by
  unfold okV at h
  rw [iteK_eq] at h
  cases ok with
  | true => exact ⟨_, h, VR.tup _ _ (VRL.cons _ _ _ _ hv (VRL.cons _ _ _ _ (VR.b _) VRL.nil))⟩
  | false => exact ⟨_, h, hv⟩

theorem zeroAgg_some {t : TypeId} {q : Bool} (h : zeroAgg P t = some q) : ∃ i z, P.info? t = some i ∧ i.zero = some z ∧ (q = true → ∃ cs, z = .agg cs) ∧ (q = false → ∀ cs, z ≠ .agg cs) := by
  unfold zeroAgg at h
  cases hi : infoF P t with
  | none => simp [hi] at h
  | some i =>
    simp only [hi] at h
    cases hz : i.zero with
    | none => simp [hz] at h
    | some z =>
      simp only [hz] at h
      refine ⟨i, z, infoF_some hi, hz, ?_⟩
      cases z <;> simp only [Option.some.injEq] at h <;> subst h <;> simp

theorem zeroV_ok {t : TypeId} {z : V} (h : zeroV P t = some z) : ∃ cz, VR θ z cz ∧ ∀ w, (zeroValue t).run P w = .ok cz w := by
  unfold zeroV at h
  split at h
  · rename_i n tr ha hz
    simp only [Option.some.injEq] at h; subst h
    obtain ⟨i, zv, hi, hzv, htr⟩ := zeroT_some (θ := θ) hz
    obtain ⟨i', z', hi', hz', h1, h2⟩ := zeroAgg_some ha
    rw [hi] at hi'
    obtain rfl : i = i' := by simpa using hi'
    rw [hzv] at hz'
    obtain rfl : zv = z' := by simpa using hz'
    obtain ⟨cs, rfl⟩ := h1 rfl
    exact ⟨_, VR.agg_mk htr, run_zero hi hzv⟩
  · rename_i v ha hz
    simp only [Option.some.injEq] at h; subst h
    obtain ⟨i, zv, hi, hzv, htr⟩ := zeroT_some (θ := θ) hz
    obtain ⟨i', z', hi', hz', h1, h2⟩ := zeroAgg_some ha
    rw [hi] at hi'
    obtain rfl : i = i' := by simpa using hi'
    rw [hzv] at hz'
    obtain rfl : zv = z' := by simpa using hz'
    have hc : zv.cells = #[zv] := by
      cases zv <;> first | rfl | exact absurd rfl (h2 rfl _)
    rw [hc] at htr
    have := (htr.2.2 0 v rfl).2
    exact ⟨zv, this, run_zero hi hzv⟩
  · cases h

theorem map_of (hm : MRx P θ h nx w) {x : A} {es : List (V × V)} (hx : hget h x = some (.map es)) {r : Nat} (hr : θ.ρ x = some r) : ∃ cs ck, w.heap[r]? = some (.map cs ck) ∧ ER θ es cs.toList := by
  obtain ⟨o, h1, cs, ck, rfl, h2⟩ := hm.blk x _ r hx hr
  exact ⟨cs, ck, h1, h2⟩

theorem run_getObj {r : Nat} {cs : Array MapEntry} {ck : Nat} (h : w.heap[r]? = some (.map cs ck)) : (getObj r).run P w = .ok (.map cs ck) w := by
  simp [getObj, Sem.run, h]

theorem run_lookup {t kt el : TypeId} (hd : undF P t = some (.map kt el)) {ck cz : Value} (hck : ∀ q w, (Instr.checkKey q 10000 kt ck).run P w = .ok () w) (hz : ∀ w, (zeroValue el).run P w = .ok cz w) {x : Value} {es : Array MapEntry}
    (hx : x = .map none ∧ es = #[] ∨ ∃ r c, x = .map (some r) ∧ w.heap[r]? = some (.map es c)) (ok : Bool) :
    (∀ j v, Found' P kt ck es.toList 0 (some (j, v)) → (Instr.lookup t x ck ok).run P w = .ok (if ok then .tuple #[v, .bool true] else v) w) ∧
    (Found' P kt ck es.toList 0 none → (Instr.lookup t x ck ok).run P w = .ok (if ok then .tuple #[cz, .bool false] else cz) w) := by
  rcases hx with ⟨rfl, rfl⟩ | ⟨r, c, rfl, hr⟩
  · refine ⟨fun j v hf => ?_, fun hf => ?_⟩
    · simp only [Instr.lookup, Sem.run_bind, run_under hd, Result.andThen_ok, Sem.run_pure, hck, hf.run]
    · simp only [Instr.lookup, Sem.run_bind, run_under hd, Result.andThen_ok, Sem.run_pure, hck, hf.run, hz]
  · refine ⟨fun j v hf => ?_, fun hf => ?_⟩
    · simp only [Instr.lookup, Sem.run_bind, run_under hd, Result.andThen_ok, Sem.run_pure, run_getObj hr, hck, hf.run]
    · simp only [Instr.lookup, Sem.run_bind, run_under hd, Result.andThen_ok, Sem.run_pure, run_getObj hr, hck, hf.run, hz]

theorem rd_lookup {t : TypeId} {x ix : Operand} {ok : Bool} (ho : o.op = .lookup t x ix ok) (hm : MRx P θ h nx w) (hx : VR θ (opnd e x) (a.eval x)) (hi : VR θ (opnd e ix) (a.eval ix)) {k : V → Bool} (hk : (lookC P t x ix ok).f e h k = true) :
    RdOk P θ w (execOp a.eval o) k := by
  have he : execOp a.eval o = (do pure (.value (← Instr.lookup t (a.eval x) (a.eval ix) ok))) := by unfold execOp; rw [ho]
  unfold lookC at hk
  split at hk
  · rename_i kt el hd
    split at hk
    · rename_i c z hc hz
      simp only [Clo.on_f, opndC_eq] at hk
      obtain ⟨hk, hck⟩ := keyIn_true hc hi hk
      rw [asM_eq] at hk
      obtain ⟨cz, hcz, hzr⟩ := zeroV_ok (θ := θ) hz
      generalize hxv : opnd e x = v at hk hx
      generalize hcv : a.eval x = cv at hx he
      cases hx with
      | m b r hr =>
        obtain ⟨es, hb, h1⟩ := hmapK_true hk
        obtain ⟨cs, ck, g1, g2⟩ := map_of hm hb hr
        obtain ⟨r1, r2⟩ := run_lookup hd hck hzr (x := .map (some r)) (.inr ⟨r, ck, rfl, g1⟩) ok
        rcases findE_true hc hi es cs.toList 0 g2 h1 with ⟨v, m, j, f1, f2, f3, f4⟩ | ⟨f1, f2⟩
        · obtain ⟨u, u1, u2⟩ := okV_true (q := true) f2 f3
          exact RdOk.of_val u1 u2 (r1 _ _ f4) he
        · obtain ⟨u, u1, u2⟩ := okV_true (q := false) hcz f1
          exact RdOk.of_val u1 u2 (r2 f2) he
      | mn =>
        obtain ⟨r1, r2⟩ := run_lookup (w := w) hd hck hzr (x := .map none) (.inl ⟨rfl, rfl⟩) ok
        obtain ⟨u, u1, u2⟩ := okV_true (q := false) hcz hk
        exact RdOk.of_val u1 u2 (r2 (Found'.nil hc _ _)) he
      | _ => cases hk
    · cases hk
  · cases hk

theorem lenE_eq {R : Type} : ∀ (es : List (V × V)) (n : Nat) (k : Nat → R), lenE es n k = k (n + es.length) := by
  intro es
  induction es with
  | nil => intro n k; rfl
  | cons p es ih =>
    intro n k
    have : lenE (p :: es) n k = forceN (Nat.succ n) fun n => lenE es n k := rfl
    rw [this, forceN_eq, ih]; congr 1; simp only [List.length_cons]; omega

/-- a key turned or put behind the others -/
theorem putE_true {kt : TypeId} {c : Nat} (hc : keyN P kt = some c) {key v : V} {ck cv : Value} (hkey : VR θ key ck) (hv : VR θ v cv) : ∀ (es : List (V × V)) (ms : List MapEntry) (i : Nat) (k : List (V × V) → Bool), ER θ es ms → putE (keyQ c) key v es k false = true →
    ∃ es', k es' = true ∧ ((∃ j m, Found' P kt ck ms i (some (i + j, m.val)) ∧ ms[j]? = some m ∧ Instr.sameBits 10000 m.key ck = true ∧ ER θ es' (ms.modify j fun m => { m with key := ck, val := cv })) ∨
      (Found' P kt ck ms i none ∧ ∀ b, ER θ es' (ms ++ [{ key := ck, val := cv, born := b }]))) := by
  intro es
  induction es with
  | nil =>
    intro ms i k her h
    cases her
    exact ⟨_, h, .inr ⟨Found'.nil hc ck i, fun b => ER.cons _ _ _ _ _ hkey hv ER.nil⟩⟩
  | cons p es ih =>
    intro ms i k her h
    cases her with
    | cons a b m _ ms ha hb ht =>
      have h : keyQ c key a (fun r => iteK r (k ((key, v) :: es)) (putE (keyQ c) key v es (fun l => k ((a, b) :: l)) false)) false = true := h
      obtain ⟨r, h1, h2⟩ := keyQ_true hc hkey ha h
      cases r with
      | true =>
        rw [iteK_eq, cond_true] at h1
        refine ⟨_, h1, .inl ⟨0, m, Found'.yes h2, rfl, h2.2 rfl, ?_⟩⟩
        simp only [List.modify_zero_cons]
        exact ER.cons _ _ _ _ _ hkey hv ht
      | false =>
        rw [iteK_eq, cond_false] at h1
        obtain ⟨es', g1, g2⟩ := ih ms (i + 1) _ ht h1
        refine ⟨_, g1, ?_⟩
        rcases g2 with ⟨j, m', f1, f2, f3, f4⟩ | ⟨f1, f2⟩
        · refine .inl ⟨j + 1, m', ?_, by simpa using f2, f3, ?_⟩
          · have : i + (j + 1) = i + 1 + j := by omega
            rw [this]; exact f1.no hc h2
          · simp only [List.modify_succ_cons]
            exact ER.cons _ _ _ _ _ ha hb f4
        · exact .inr ⟨f1.no hc h2, fun b' => ER.cons _ _ _ _ _ ha hb (f2 b')⟩

theorem run_setObj {r : Nat} {cs : Array MapEntry} {ck : Nat} (hr : w.heap[r]? = some (.map cs ck)) (o : Obj) : (setObj r o).run P w = .ok () { w with heap := w.heap.setIfInBounds r o } := by
  simp [setObj, Sem.run, hr]

theorem ok_mapUpdate {t : TypeId} {x ix y : Operand} (ho : o.op = .mapUpdate t x ix y) (hm : MRx P θ h nx w) (hx : VR θ (opnd e x) (a.eval x)) (hi : VR θ (opnd e ix) (a.eval ix)) (hy : VR θ (opnd e y) (a.eval y)) {ev : Ev} (hk : (mapUpC P t x ix y).f ev e ⟨h, nx, ds, rnd⟩ k = true) :
    OpOk P θ h nx ds rnd w (execOp a.eval o) k := by
  have he : execOp a.eval o = (do Instr.mapUpdate t (a.eval x) (a.eval ix) (a.eval y); pure .skip) := by unfold execOp; rw [ho]
  unfold mapUpC at hk
  split at hk
  · rename_i kt el hd
    split at hk
    · rename_i c hc
      simp only [Clo.on_f, opndC_eq] at hk
      obtain ⟨hk, hck⟩ := keyIn_true hc hi hk
      rw [asM_eq] at hk
      generalize hxv : opnd e x = v at hk hx
      generalize hcv : a.eval x = cv at hx he
      cases hx with
      | m b r hr =>
        have hk : hmapK h b (fun es => putE (keyQ c) (opnd e ix) (opnd e y) es (fun es' => hsetK h b (some (.map es')) fun h' => k .undef ⟨h', nx, ds, rnd⟩) false) false = true := hk
        obtain ⟨es, hb, h1⟩ := hmapK_true hk
        obtain ⟨cs, clock, g1, g2⟩ := map_of hm hb hr
        have hlt : r < w.heap.size := (Array.getElem?_eq_some_iff.1 g1).1
        obtain ⟨es', h2, h3⟩ := putE_true hc hi hy es cs.toList 0 _ g2 h1
        rw [hsetK_eq] at h2
        have fin : ∀ ms ck, ER θ es' (Array.toList ms) → (Instr.mapUpdate t (.map (some r)) (a.eval ix) (a.eval y)).run P w = .ok () { w with heap := w.heap.setIfInBounds r (.map ms ck) } → OpOk P θ h nx ds rnd w (execOp a.eval o) k := fun ms ck hER hrun => by
          have hS := MR.set hm hb rfl hr (b := .map es') (o := .map ms ck) ⟨ms, ck, rfl, hER⟩ { w with heap := w.heap.setIfInBounds r (.map ms ck) } rfl rfl rfl rfl
          exact ⟨θ, _, nx, .undef, Go.undef, .skip, _, h2, VR.undef _, by simp only [MRx, hget_hset_some]; exact hS.1, by simp only [hget_hset_some]; exact hS.2, by rw [he]; simp [hrun], .inr ⟨rfl, rfl⟩⟩
        rcases h3 with ⟨j, m, f1, f2, f3, f4⟩ | ⟨f1, f2⟩
        · rw [Nat.zero_add] at f1
          refine fin (cs.modify j fun m => { m with key := a.eval ix, val := a.eval y }) clock (by rw [Array.toList_modify]; exact f4) ?_
          have f2' : cs[j]? = some m := by simpa using f2
          have hkeep : (Instr.keyThatStays m.key (a.eval ix)).run P w = .ok (a.eval ix) w := by simp [Instr.keyThatStays, f3]
          simp only [Instr.mapUpdate, Sem.run_bind, run_under hd, Result.andThen_ok, run_getObj g1, hck, f1.run, f2', Option.map_some, Option.getD_some, hkeep, run_setObj g1]
        · refine fin (cs.push { key := a.eval ix, val := a.eval y, born := clock }) (clock + 1) (by rw [Array.toList_push]; exact f2 clock) ?_
          simp only [Instr.mapUpdate, Sem.run_bind, run_under hd, Result.andThen_ok, run_getObj g1, hck, f1.run, run_setObj g1]
      | _ => cases hk
    · cases hk
  · cases hk
end
end Go.Ax

namespace Go.Ax
variable {P : Program}

/-! ### bytes as cells, cells as bytes -/
theorem bytesK_eq {R : Type} : ∀ (l v i : Nat) (t : PT V) (k : PT V → R), ∃ t', bytesK l v i t k = k t' ∧ ∀ j, t'.get j = if i ≤ j ∧ j < i + l then some (.u .u8 (B63 + v / 256 ^ (j - i) % 256)) else t.get j
  | 0, v, i, t, k => ⟨t, rfl, fun j => by rw [if_neg (by omega)]⟩
  | l + 1, v, i, t, k => by
    obtain ⟨t', h1, h2⟩ := bytesK_eq l (v / 256) (i + 1) (t.set i (.u .u8 (B63 + v % 256))) k
    refine ⟨t', ?_, fun j => ?_⟩
    · have : bytesK (l + 1) v i t k = forceN (Nat.add B63 (Nat.mod v 256)) fun b => PT.setK t i (.u .u8 b) fun t => forceN (Nat.div v 256) fun v => forceN (Nat.succ i) fun i => bytesK l v i t k := rfl
      rw [this, forceN_eq, PT.setK_eq, forceN_eq, forceN_eq]
      exact h1
    · rw [h2 j]
      by_cases hj : i + 1 ≤ j ∧ j < i + 1 + l
      · rw [if_pos hj, if_pos (by omega), Nat.div_div_eq_div_mul, show j - i = (j - (i + 1)) + 1 by omega, Nat.pow_succ, Nat.mul_comm 256]
      · rw [if_neg hj]
        by_cases hi : j = i
        · subst hi
          rw [if_pos (by omega), PT.get_set, if_pos rfl, Nat.sub_self, Nat.pow_zero, Nat.div_one]
        · rw [if_neg (by omega), PT.get_set, if_neg (by omega)]

theorem strNum_append : ∀ (l : List UInt8) (b : UInt8), strNum (l ++ [b]) = strNum l + b.toNat * 256 ^ l.length
  | [], b => by simp [strNum]
  | x :: l, b => by
    simp only [List.cons_append, strNum, List.length_cons]
    rw [strNum_append l b, Nat.pow_succ, Nat.mul_add, ← Nat.mul_assoc, Nat.mul_comm 256 b.toNat, Nat.mul_assoc, Nat.mul_comm 256 (256 ^ _)]
    omega

theorem strK_true {t : PT V} : ∀ {n acc : Nat} {k : Nat → Bool}, strK t n acc k false = true →
    ∃ l : List UInt8, l.length = n ∧ (∀ j x, l[j]? = some x → t.get j = some (.u .u8 (x.toNat + B63))) ∧ k (strNum l + acc * 256 ^ n) = true
  | 0, acc, k, h => by
    have h : k acc = true := h
    exact ⟨[], rfl, (fun j x h => by cases h), by simpa [strNum] using h⟩
  | n + 1, acc, k, h => by
    have h : PT.getK t n (fun x => asU x (fun kd b => kindK kd .u8 (iteK (Nat.ble B63 b) (forceN (Nat.sub b B63) fun b => iteK (Nat.blt b 256) (forceN (Nat.add (Nat.mul acc 256) b) fun acc => strK t n acc k false) false) false) false) false) false = true := h
    rw [PT.getK_eq] at h
    cases hg : t.get n with
    | none => rw [hg] at h; cases h
    | some x =>
      rw [hg] at h
      have h : asU x (fun kd b => kindK kd .u8 (iteK (Nat.ble B63 b) (forceN (Nat.sub b B63) fun b => iteK (Nat.blt b 256) (forceN (Nat.add (Nat.mul acc 256) b) fun acc => strK t n acc k false) false) false) false) false = true := h
      rw [asU_eq] at h
      cases x with
      | u kd b =>
        obtain ⟨rfl, h1⟩ := kindK_true h
        obtain ⟨h2, h3⟩ := iteK_true h1
        rw [forceN_eq] at h3
        obtain ⟨h4, h5⟩ := iteK_true h3
        rw [forceN_eq] at h5
        have h2 := ble_le h2
        have h4 : b - B63 < 256 := ble_le h4
        obtain ⟨l, e1, e2, e3⟩ := strK_true h5
        have hb : (UInt8.ofNat (b - B63)).toNat = b - B63 := by simp; omega
        refine ⟨l ++ [UInt8.ofNat (b - B63)], by simp [e1], fun j x hj => ?_, ?_⟩
        · rw [List.getElem?_append] at hj
          split at hj
          · exact e2 j x hj
          · rename_i hge
            have : j - l.length = 0 := by
              rcases Nat.eq_zero_or_pos (j - l.length) with h | h
              · exact h
              · rw [List.getElem?_eq_none (by simp; omega)] at hj; cases hj
            rw [this] at hj
            simp at hj
            subst hj
            have : j = n := by omega
            subst this
            rw [hg, hb, Nat.sub_add_cancel h2]
        · rw [strNum_append, hb, e1]
          have : (acc * 256 + (b - B63)) * 256 ^ n = acc * 256 ^ (n + 1) + (b - B63) * 256 ^ n := by rw [Nat.add_mul, Nat.mul_assoc, Nat.pow_succ, Nat.mul_comm 256]
          have e3 : k (strNum l + (acc * 256 + (b - B63)) * 256 ^ n) = true := e3
          rw [this] at e3
          rwa [show strNum l + (b - B63) * 256 ^ n + acc * 256 ^ (n + 1) = strNum l + (acc * 256 ^ (n + 1) + (b - B63) * 256 ^ n) by omega]
      | _ => cases h
end Go.Ax

namespace Go.Ax
variable {P : Program}
section
variable {θ : Th} {e : Env} {a : Act} {h : Hp} {nx : A} {ds : List D} {rnd : Option A} {w : World} {o : Oper} {k : V → Cx → Bool}

/-- a string's bytes as cells -/
def strRow (s : ByteArray) : Array Value := s.data.map fun b => .int .u8 b.toNat

theorem firstCells_str (sz : Nat) (s : ByteArray) (w : World) : (Builtin.firstCells sz s.size (.string s)).run P w = .ok (strRow s) w := by
  have : s.extract 0 s.size = s := by
    apply ByteArray.ext
    rw [ByteArray.data_extract]
    exact Array.extract_size
  simp only [Builtin.firstCells, this]
  rfl

/-- a string is appended -/
theorem AppArg.of_str {at_ : Array TypeId} {t el ty t1 : TypeId} (ht : at_[0]? = some t) (hu : undF P t = some (.slice el)) (ht1 : at_[1]? = some t1) (hu1 : undF P t1 = some .string) {sz : Nat} (hs : sizeT P el = some sz) (s : ByteArray) :
    AppArg P at_ ty el sz w (.string s) s.size (strRow s) := by
  refine ⟨fun base l K w' hcap hst => ?_, fun base l K i zv hi hzv hcap hb => ?_⟩
  · have h1 : (#[.slice base l K, .string s] : Array Value)[0]? = some (.slice base l K) := rfl
    have h2 : (#[.slice base l K, .string s] : Array Value)[1]? = some (.string s) := rfl
    have hnew : (if (!false) = true then Builtin.firstCells sz s.size (.string s) else if s.size * sz = 0 then pure #[] else do
        let z ← zeroValue el
        pure (Builtin.zeroCells z.cells s.size) : Sem (Array Value)) = Builtin.firstCells sz s.size (.string s) := rfl
    simp only [Builtin.append_, ht, h1, h2, ht1, Sem.run_bind, run_under hu, run_under hu1, Result.andThen_ok, run_sizeOf hs, Sem.run_pure, Bool.false_eq_true, if_false, Builtin.lenOf, if_pos hcap, hnew, firstCells_str]
    cases base with
    | none =>
      have e : w = w' := by simpa using hst
      subst e; rfl
    | some b => simp only [Sem.run_bind, hst, Result.andThen_ok, Sem.run_pure]
  · refine ⟨{ w with drawn := w.drawn + 1 }, (Question.appendCap (l + s.size) K el).cut (w.tape w.drawn (.appendCap (l + s.size) K el)), rfl, rfl, rfl, rfl, ?_, cap_le hb, fun old ho => ?_⟩
    · simp only [Question.cut]; omega
    · generalize hn : s.size = n at *
      have hti : ∀ w, (typeInfo el).run P w = .ok i w := fun w => by simp [typeInfo, hi]
      have hroom := nextcap_room hcap hb
      have hle : ¬ (l + n ≤ K) := by omega
      have h3 : (l + n) * (i.bytes + 1) = (l + n) * i.bytes + (l + n) := by rw [Nat.mul_add, Nat.mul_one]
      have hmax : ¬ (((l + n : Nat) : Int) > IntKind.i64.max ∧ (False ∨ i.bytes = 0)) := by
        have : IntKind.i64.max = 9223372036854775807 := by decide
        rw [this]
        intro ⟨h, _⟩
        omega
      have h1 : (#[.slice base l K, .string s] : Array Value)[0]? = some (.slice base l K) := rfl
      have h2 : (#[.slice base l K, .string s] : Array Value)[1]? = some (.string s) := rfl
      simp only [Builtin.append_, ht, h1, h2, ht1, Sem.run_bind, run_under hu, run_under hu1, Result.andThen_ok, run_sizeOf hs, Sem.run_pure, Bool.false_eq_true, if_false, Builtin.lenOf, hn, if_neg hle, hti]
      rw [if_neg hmax]
      simp only [Sem.run_bind, hti, Result.andThen_ok]
      rw [if_neg hroom]
      have hch : (choose (.appendCap (l + n) K el)).run P w = .ok ((Question.appendCap (l + n) K el).cut (w.tape w.drawn (.appendCap (l + n) K el))) { w with drawn := w.drawn + 1 } := rfl
      have hask : ∀ b (w : World), (askRoom b).run P w = .ok () w := fun b w => by unfold askRoom; split <;> rfl
      have hfc : ∀ w, (Builtin.firstCells sz n (.string s)).run P w = .ok (strRow s) w := fun w => by rw [← hn]; exact firstCells_str sz s w
      have hnew : (if (!false) = true then Builtin.firstCells sz n (.string s) else if n * sz = 0 then pure #[] else do
          let z ← zeroValue el
          pure (Builtin.zeroCells z.cells n) : Sem (Array Value)) = Builtin.firstCells sz n (.string s) := rfl
      simp only [Sem.run_bind, hch, hti, hask, Result.andThen_ok, ho, hnew, hfc, run_zero hi hzv]
      rfl

/-- append of a string -/
theorem appendS_ok (hm : MRx P θ h nx w) {at_ : Array TypeId} {t ty t1 : TypeId} (ht : at_[0]? = some t) (hu : undF P t = some (.slice 5)) (ht1 : at_[1]? = some t1) (hu1 : undF P t1 = some .string) (hs : sizeT P 5 = some 1) {z : PT V} (hz : zeroT P 5 = some (1, z))
    {va vx : V} {ca cx : Value} (ha : VR θ va ca) (hx : VR θ vx cx)
    (hk : asS vx (fun l v => bytesK l v 0 .nil fun new => appK (bytesT P 5) 0 1 va new 0 l ⟨h, nx, ds, rnd⟩ k) false = true) :
    ∃ θ' h' nx' v cv w', k v ⟨h', nx', ds, rnd⟩ = true ∧ VR θ' v cv ∧ MRx P θ' h' nx' w' ∧ Fm θ (hget h) w θ' (hget h') w' ∧ (Builtin.append_ at_ ty #[ca, cx]).run P w = .ok cv w' := by
  rw [asS_eq] at hk
  cases hx with
  | s l v s hl hv =>
    obtain ⟨t', h1, h2⟩ := bytesK_eq l v 0 .nil (fun new => appK (bytesT P 5) 0 1 va new 0 l ⟨h, nx, ds, rnd⟩ k)
    have hk : bytesK l v 0 .nil (fun new => appK (bytesT P 5) 0 1 va new 0 l ⟨h, nx, ds, rnd⟩ k) = true := hk
    rw [h1] at hk
    have hsz : s.size = l := by
      have : s.data.toList.length = l := by rw [hl, unnum_length]
      simpa using this
    refine appK_ok hm (el := 5) (sz := 1) (show Tag true 0 5 from ⟨fun h => (by cases h), fun _ _ => rfl⟩) rfl hs (Nat.succ_pos 0) hz ha (fun hj => ⟨strRow s, hsz ▸ .of_str ht hu ht1 hu1 hs s, by simp [strRow, hsz], ?_, fun j v' hj hv' => ?_⟩) hk
    · intro x hx
      simp only [strRow, Array.toList_map, List.mem_map] at hx
      obtain ⟨b, _, rfl⟩ := hx
      rfl
    · rw [Nat.mul_one] at hj
      rw [h2, if_pos (by omega)] at hv'
      injection hv' with hv'
      subst hv'
      have hb := unnum_get l v j hj
      rw [← hl] at hb
      have hd : (strRow s)[j]? = some (.int .u8 (UInt8.ofNat (v / 256 ^ j % 256)).toNat) := by
        simp only [strRow, Array.getElem?_map]
        rw [← Array.getElem?_toList, hb]
        rfl
      rw [Array.getD_eq_getD_getElem?, hd, Option.getD_some, Nat.zero_add, Nat.sub_zero]
      have : ((UInt8.ofNat (v / 256 ^ j % 256)).toNat : Int) = unb (B63 + v / 256 ^ j % 256) := by
        have : (UInt8.ofNat (v / 256 ^ j % 256)).toNat = v / 256 ^ j % 256 := by simp
        rw [this]
        unfold unb
        omega
      rw [this]
      exact VR.u _ _
  | _ => cases hk
end
end Go.Ax

namespace Go.Ax
variable {P : Program}

/-- a block is forgotten, and turned -/
theorem MR.drop {P : Program} {θ : Th} {m : A → Option B} {nx : A} {w : World} (h : MR P θ m nx w) {x : A} {b0 : B} (hx : m x = some b0) (hro : b0.isRo = false) {r : Nat} (hr : θ.ρ x = some r) {o : Obj}
    (w' : World) (hw : w'.heap = w.heap.setIfInBounds r o) (ht : w'.tape = w.tape) (ho : w'.os = w.os) (hp : w'.output = w.output) :
    MR P θ (mdel m x) nx w' ∧ Fm θ m w θ (mdel m x) w' := by
  have hold : ∀ y c, mdel m x y = some c → y ≠ x ∧ m y = some c := fun y c hc => by
    simp only [mdel] at hc
    by_cases e : y = x
    · rw [if_pos e] at hc; cases hc
    · rw [if_neg e] at hc; exact ⟨e, hc⟩
  refine ⟨⟨fun y c s hc hs => ?_, fun y z c d s hc hd hs hs' => h.inj y z c d s (hold y c hc).2 (hold z d hd).2 hs hs', h.fresh, h.glob, h.lim, fun y c hc => h.bd y c (hold y c hc).2⟩, ⟨.refl θ, ht, ho, hp, by rw [hw]; simp, fun s hs hs' => ?_, Nat.le_refl _, fun y _ h0 => ⟨h0, ?_⟩, fun y c s hc hs => .inl ⟨y, c, (hold y c hc).2, hs, id⟩⟩⟩
  · obtain ⟨e, hc'⟩ := hold y c hc
    obtain ⟨o', h2, h3⟩ := h.blk y c s hc' hs
    refine ⟨o', ?_, h3⟩
    have ne : r ≠ s := fun es => by subst es; exact e (h.inj y x c b0 r hc' hx hs hr)
    rw [hw, Array.getElem?_setIfInBounds, if_neg ne]; exact h2
  · have ne : r ≠ s := fun es => by subst es; have := hs' x b0 hx hr; rw [hro] at this; cases this
    rw [hw, Array.getElem?_setIfInBounds, if_neg ne]
  · have ne : y ≠ x := fun e => by subst e; rw [hr] at h0; cases h0
    simp only [mdel, if_neg ne]

theorem freeze_heap {w : World} {r n : Nat} {c : Array Value} {el : TypeId} {fr : Nat × Nat} (hc : w.heap[r]? = some (.cells c el fr)) (hn : n ≠ 0) :
    ∃ fr', (w.freeze ⟨r, 0, none⟩ n).heap = w.heap.setIfInBounds r (.cells c el fr') ∧ (w.freeze ⟨r, 0, none⟩ n).tape = w.tape ∧ (w.freeze ⟨r, 0, none⟩ n).os = w.os ∧ (w.freeze ⟨r, 0, none⟩ n).output = w.output := by
  obtain ⟨lo, hi⟩ := fr
  refine ⟨if lo == hi then (0, 0 + n) else (min lo 0, max hi (0 + n)), ?_, ?_, ?_, ?_⟩ <;> unfold World.freeze <;> rw [if_neg hn]
  apply Array.ext_getElem?
  intro j
  rw [Array.getElem?_modify, Array.getElem?_setIfInBounds]
  by_cases e : r = j
  · subst e
    rw [if_pos rfl, if_pos rfl, hc]
    have : r < w.heap.size := (Array.getElem?_eq_some_iff.1 hc).1
    simp [this]
  · rw [if_neg e, if_neg e]
theorem unb_add (n : Nat) : unb (n + B63) = n := by unfold unb; omega
section
variable {θ : Th} {e : Env} {a : Act} {h : Hp} {nx : A} {ds : List D} {rnd : Option A} {w : World} {o : Oper} {k : V → Cx → Bool}

/-- unsafe.String -/
theorem unsafeStr_ok (hm : MRx P θ h nx w) {at_ : Array TypeId} {pt ty : TypeId} (ht : at_[0]? = some pt) (hu : undF P pt = some (.pointer 5)) (hs : sizeT P 5 = some 1) {va : V} {ca : Value} (ha : VR θ va ca) {n : Nat}
    (hk : unsafeStrK va n ⟨h, nx, ds, rnd⟩ k = true) :
    ∃ θ' h' nx' v cv w', k v ⟨h', nx', ds, rnd⟩ = true ∧ VR θ' v cv ∧ MRx P θ' h' nx' w' ∧ Fm θ (hget h) w θ' (hget h') w' ∧ (Builtin.unsafeString_ at_ ty #[ca, .int .i64 (n : Int)]).run P w = .ok cv w' := by
  have hat : Builtin.unsafeString_ at_ ty #[ca, .int .i64 (n : Int)] = Builtin.unsafeString_ #[pt, pt] ty #[ca, .int .i64 (n : Int)] := by
    unfold Builtin.unsafeString_
    rw [ht]; rfl
  rw [hat]
  unfold unsafeStrK at hk
  rw [asPtr_eq] at hk
  cases ha with
  | p x off r hr =>
    obtain ⟨h0, h1⟩ := iteK_true hk
    obtain rfl : off = 0 := Nat.eq_of_beq_eq_true h0
    obtain ⟨hle, h2⟩ := iteK_true h1
    obtain ⟨hn0, h3⟩ := iteK_false h2
    have h3 : hcellsK h x (fun m g bz t => iteK (g && Nat.beq bz 0) (iteK (Nat.ble n m) (strK t n 0 (fun v => hsetK h x none fun h => k (.s n v) ⟨h, nx, ds, rnd⟩) false) false) false) false = true := h3
    obtain ⟨m, g, bz, t, hx, h4⟩ := hcellsK_true h3
    obtain ⟨hg, h5⟩ := iteK_true h4
    rw [Bool.and_eq_true] at hg
    obtain ⟨rfl, hbz⟩ := hg
    obtain rfl : bz = 0 := Nat.eq_of_beq_eq_true hbz
    obtain ⟨hnm, h6⟩ := iteK_true h5
    have hnm := ble_le hnm
    have hle := ble_le hle
    obtain ⟨l, e1, e2, e3⟩ := strK_true h6
    rw [Nat.zero_mul, Nat.add_zero, hsetK_eq] at e3
    obtain ⟨ob, p2, cs, ⟨cel, htag⟩, rfl, hfl, p3, p4, p5, p6⟩ := hm.blk x _ r hx hr
    obtain rfl : cel = 5 := htag.2 rfl rfl
    have hl0 : l ≠ [] := fun e => by subst e; simp at e1; subst e1; cases hn0
    obtain ⟨fr', q1, q2, q3, q4⟩ := freeze_heap p2 (n := n) (fun e => by subst e; cases hn0)
    have hD := MR.drop hm hx rfl hr (w.freeze ⟨r, 0, none⟩ n) q1 q2 q3 q4
    obtain ⟨u1, u2⟩ := strNum_unnum l
    rw [e1] at u1 u2
    have hrun := Lib.run_unsafeString_row (P := P) w pt pt ty 5 (undF_some hu) (by obtain ⟨i, hi, hsz⟩ := sizeT_some hs; simp [Program.cellsOf, hi, hsz]) r cs.size (by unfold World.shape?; rw [p2]) l hl0 (by omega) (by omega) (fun j b hj => by
      have hg := p3 j _ (e2 j b hj)
      have hjn : j < n := by rw [← e1]; exact (List.getElem?_eq_some_iff.1 hj).1
      have hjs : j < cs.size := by omega
      have hcell : w.cell? ((⟨r, 0, none⟩ : Addr).add j) = cs[j]? := by
        rw [Addr.add_of, Nat.zero_add, Lib.cell_of_heap p2]
      rw [hcell]
      have hv := hg.2
      rw [Array.getD_eq_getD_getElem?, Array.getElem?_eq_getElem hjs, Option.getD_some] at hv
      rw [Array.getElem?_eq_getElem hjs]
      generalize cs[j] = cv at hv
      cases hv
      rw [unb_add])
    rw [e1] at hrun
    refine ⟨θ, hset h x none, nx, _, _, _, e3, VR.s n (strNum l) ⟨l.toArray⟩ (by simpa using u1.symm) u2, ?_, ?_, hrun⟩
    · simp only [MRx, hget_hset_none]; exact hD.1
    · simp only [hget_hset_none]; exact hD.2
  | pn =>
    obtain ⟨h0, h1⟩ := iteK_true hk
    obtain rfl : n = 0 := Nat.eq_of_beq_eq_true h0
    exact ⟨θ, h, nx, _, _, w, h1, VR.s 0 0 .empty rfl (by decide), hm, Fm.refl _ _ _, Lib.run_unsafeString_none _ _ _ _ _⟩
  | _ => cases hk

/-- bytes turned into a string -/
theorem bytesC_ok {ev : Ev} {s d : TypeId} {x : Operand} (ho : o.op = .convert s d x) (hm : MRx P θ h nx w) (hx : VR θ (opnd e x) (a.eval x)) (hk : (bytesC P s d x).f ev e ⟨h, nx, ds, rnd⟩ k = true) : OpOk P θ h nx ds rnd w (execOp a.eval o) k := by
  unfold bytesC at hk
  split at hk
  · rename_i el hus hud
    split at hk
    · rename_i hue
      simp only [Clo.on_f, opndC_eq] at hk
      have he : execOp a.eval o = (do pure (.value (← convert s d (a.eval x)))) := by unfold execOp; rw [ho]
      have hconv : ∀ cv w cs, (Conv.bytesToString cv).run P w = .ok cs w → (convert s d cv).run P w = .ok cs w := fun cv w cs hh => by
        unfold convert
        simp only [Sem.run_bind, run_under hus, run_under hud, Result.andThen_ok]
        cases cv with
        | slice ad l c => simp only [Sem.run_bind, run_under hue, Result.andThen_ok]; exact hh
        | _ => exact absurd hh (by simp [Conv.bytesToString, stuck, Sem.run])
      rw [asSl_eq] at hk
      generalize hxv : opnd e x = v at hk hx
      generalize hcv : a.eval x = cv at hx he
      have hemp : ∀ ad c, (Conv.bytesToString (.slice ad 0 c)).run P w = .ok (.string .empty) w := fun ad c => by
        cases ad with
        | none => rfl
        | some ad => simp [Conv.bytesToString, loadCells]; rfl
      have zero : ∀ {cv : Value}, k (.s 0 0) ⟨h, nx, ds, rnd⟩ = true → (∃ ad c, cv = .slice ad 0 c) → execOp a.eval o = (do pure (.value (← convert s d cv))) → OpOk P θ h nx ds rnd w (execOp a.eval o) k := fun {cv} h1 ⟨ad, c, e⟩ he => by
        subst e
        exact OpOk.of_val h1 (VR.s 0 0 .empty rfl (by decide)) hm (Fm.refl _ _ _) (hconv _ _ _ (hemp ad c)) he
      have main : ∀ {b : A} {of l c r : Nat}, θ.ρ b = some r → cv = .slice (some ⟨r, of, none⟩) l c → hreadK h b (fun _ t => moveK l t of .nil 0 (fun t => strK t l 0 (fun v => k (.s l v) ⟨h, nx, ds, rnd⟩) false) false) false = true → OpOk P θ h nx ds rnd w (execOp a.eval o) k := fun {b of l c r} hr hc hh => by
        obtain ⟨n, tr, hb, h1⟩ := hreadK_true hh
        obtain ⟨t', hmv, h2⟩ := moveK_true h1
        obtain ⟨bs, e1, e2, e3⟩ := strK_true h2
        rw [Nat.zero_mul, Nat.add_zero] at e3
        obtain ⟨vs, g1, g2, g3, g4⟩ := reads_blk hm hb hr of l c 1 l (fun j hj => by rw [Nat.mul_one] at hj; exact PT.move_some _ _ _ _ _ _ hmv j hj)
        obtain ⟨u1, u2⟩ := strNum_unnum bs
        rw [e1] at u1 u2
        have hvs : vs = ((bs.map fun b => (b.toNat : Int)).map (Value.int .u8)).toArray := by
          apply Array.ext
          · simp [g2, e1]
          · intro j h1 h2
            have hjl : j < bs.length := by simpa using h2
            have hv := g4 j (.u .u8 (bs[j].toNat + B63)) (by rw [g2] at h1; exact h1) (by
              have := e2 j bs[j] (List.getElem?_eq_getElem hjl)
              rw [PT.get_move _ _ _ _ _ _ hmv j, if_pos (by omega), Nat.sub_zero] at this
              exact this)
            rw [Array.getD_eq_getD_getElem?, Array.getElem?_eq_getElem h1, Option.getD_some] at hv
            generalize vs[j] = cv at hv
            cases hv
            rw [unb_add]
            simp
        have hrun := g1 w rfl
        have hl : (loadCells ⟨r, of, none⟩ l).run P w = .ok vs w := by
          have : Builtin.firstCells 1 l (.slice (some ⟨r, of, none⟩) l c) = loadCells ⟨r, of, none⟩ (l * 1) := rfl
          rw [this, Nat.mul_one] at hrun
          exact hrun
        rw [hvs] at hl
        have hb2 := run_bytesToString w ⟨r, of, none⟩ l c _ hl
        have hfold : ∀ (bs : List UInt8) (q : ByteArray), ((bs.map fun b => (b.toNat : Int)).foldl (fun r n => r.push (UInt8.ofNat n.toNat)) q).data.toList = q.data.toList ++ bs := by
          intro bs
          induction bs with
          | nil => intro q; simp
          | cons b bs ih => intro q; simp only [List.map_cons, List.foldl_cons]; rw [ih]; simp
        refine OpOk.of_val e3 (VR.s l (strNum bs) _ (by rw [hfold, u1]; rfl) u2) hm (Fm.refl _ _ _) (hconv _ _ _ hb2) (by rw [he, hc])
      cases hx <;> try (cases hk; done)
      case slk b of l c r hr hl =>
        have hk : iteK (Nat.beq l 0) (k (.s 0 0) ⟨h, nx, ds, rnd⟩) (hreadK h b (fun _ t => moveK l t of .nil 0 (fun t => strK t l 0 (fun v => k (.s l v) ⟨h, nx, ds, rnd⟩) false) false) false) = true := hk
        cases hq : Nat.beq l 0 with
        | true => rw [hq, iteK_eq, cond_true] at hk; obtain rfl : l = 0 := Nat.eq_of_beq_eq_true hq; exact zero hk ⟨_, _, rfl⟩ he
        | false => rw [hq, iteK_eq, cond_false] at hk; exact main hr rfl hk
      case slu b of l c r hr hl =>
        have hk : iteK (Nat.beq l 0) (k (.s 0 0) ⟨h, nx, ds, rnd⟩) (hreadK h b (fun _ t => moveK l t of .nil 0 (fun t => strK t l 0 (fun v => k (.s l v) ⟨h, nx, ds, rnd⟩) false) false) false) = true := hk
        cases hq : Nat.beq l 0 with
        | true => rw [hq, iteK_eq, cond_true] at hk; obtain rfl : l = 0 := Nat.eq_of_beq_eq_true hq; exact zero hk ⟨_, _, rfl⟩ he
        | false => rw [hq, iteK_eq, cond_false] at hk; exact main hr rfl hk
      case sln => exact zero hk ⟨_, _, rfl⟩ he
      case slz ad c => exact zero hk ⟨_, _, rfl⟩ he
    · cases hk
  · cases hk
end
end Go.Ax

namespace Go.Ax
variable {P : Program}
section
variable {θ : Th} {e : Env} {a : Act} {h : Hp} {nx : A} {ds : List D} {rnd : Option A} {w : World} {o : Oper} {k : V → Cx → Bool}

/-- an operation that is neither a call nor a defer -/
theorem mem_ok {ev : Ev} (hm : MRx P θ h nx w) (ho : ∀ x ∈ o.op.operands.toList, VR θ (opnd e x) (a.eval x)) (hc : ∀ c, o.op ≠ .call c) (hd : ∀ c, o.op ≠ .defer c) (hk : (operC P o).f ev e ⟨h, nx, ds, rnd⟩ k = true) : OpOk P θ h nx ds rnd w (execOp a.eval o) k := by
  have pure_case : ((pureC P o.op).on fun f => (⟨fun _ e cx k => f e fun v => k v cx⟩ : OC)).f ev e ⟨h, nx, ds, rnd⟩ k = true → OpOk P θ h nx ds rnd w (execOp a.eval o) k := fun hk => by
    simp only [Clo.on_f] at hk
    exact OpOk.of_pure hm (pure_ok (k := fun v => k v ⟨h, nx, ds, rnd⟩) ho hk)
  obtain ⟨dst, op, ty, pos, aft, g⟩ := o
  simp only at ho hc hd pure_case
  unfold operC at hk
  cases op with
  | alloc t => simp only [Clo.on_f] at hk; exact ok_alloc rfl hm hk
  | box t x =>
    simp only [Clo.on_f, opndC_eq] at hk
    exact ok_box (t := t) (x := x) rfl hm (ho x (by simp [Op.operands])) hk
  | buildSlice t len parts => exact ok_buildSlice rfl hm (fun p hp => ho p.2 (by simp only [Op.operands]; exact List.mem_map.2 ⟨p, hp, rfl⟩)) hk
  | load t x =>
    simp only [Clo.on_f, opndC_eq] at hk
    exact OpOk.of_rd hm (rd_load (k := fun v => k v ⟨h, nx, ds, rnd⟩) rfl hm (ho x (by simp [Op.operands])) hk)
  | store t x y =>
    simp only [Clo.on_f, opndC_eq] at hk
    exact ok_store rfl hm (ho x (by simp [Op.operands])) (ho y (by simp [Op.operands])) hk
  | makeMap t r =>
    cases r with
    | none => exact ok_makeMap rfl hm hk
    | some x => exact pure_case hk
  | makeSlice t l c => exact ok_makeSlice rfl hm (ho l (by simp [Op.operands])) (ho c (by simp [Op.operands])) hk
  | slice t x lo hi mx => exact OpOk.of_rd hm (rd_sliceC rfl hm (ho x (by simp [Op.operands])) (fun y hy => ho y (by subst hy; simp [Op.operands])) (fun y hy => ho y (by subst hy; simp [Op.operands])) (fun y hy => ho y (by subst hy; simp [Op.operands])) hk)
  | lookup t x ix ok =>
    simp only [Clo.on_f] at hk
    exact OpOk.of_rd hm (rd_lookup (k := fun v => k v ⟨h, nx, ds, rnd⟩) rfl hm (ho x (by simp [Op.operands])) (ho ix (by simp [Op.operands])) hk)
  | mapUpdate t m i v => exact ok_mapUpdate rfl hm (ho m (by simp [Op.operands])) (ho i (by simp [Op.operands])) (ho v (by simp [Op.operands])) hk
  | call c => exact absurd rfl (hc c)
  | defer c => exact absurd rfl (hd c)
  | convert s d x =>
    simp only at hk
    cases hq : bytesStr s d with
    | true => rw [hq, cond_true] at hk; exact bytesC_ok (s := s) (d := d) rfl hm (ho x (by simp [Op.operands])) hk
    | false => rw [hq, cond_false] at hk; exact pure_case hk
  | _ => exact pure_case hk

/-- the length of a map -/
theorem rd_len {c : Call} {x : Operand} (hcall : o.op = .call c) (hb : c.callee = .builtin .len) (hx : c.args.toList = [x]) (hm : MRx P θ h nx w) (hxv : VR θ (opnd e x) (a.eval x)) {kt el : TypeId} (hd : argD P c 0 = some (.map kt el)) {k : V → Bool}
    (hk : asM (opnd e x) (fun b => hmapK h b (fun es => lenE es B63 fun n => k (.i n)) false) (k (.i B63)) false = true) : RdOk P θ w (execOp a.eval o) k := by
  obtain ⟨t, ht, hdt⟩ := argD_some hd
  have hrun := run_builtin (a := a) hb hcall
  rw [asM_eq] at hk
  generalize hxe : opnd e x = v at hk hxv
  generalize hcv : a.eval x = cv at hxv
  cases hxv with
  | m b r hr =>
    obtain ⟨es, hbk, h1⟩ := hmapK_true hk
    obtain ⟨cs, ck, g1, g2⟩ := map_of hm hbk hr
    rw [lenE_eq, g2.length, Nat.add_comm] at h1
    refine ⟨_, _, h1, VR.nat64 _, ?_⟩
    rw [hrun, args1 hx, hcv]
    refine run_v (s := Builtin.len_ _ _ _) ?_
    simp [Builtin.len_, ht, run_under hdt, goInt, run_getObj g1]
  | mn =>
    have hz : VR θ (.i B63) (goInt 0) := by
      have := VR.nat64 (θ := θ) 0
      rwa [show Nat.add 0 B63 = B63 from Nat.zero_add _] at this
    refine ⟨_, _, hk, hz, ?_⟩
    rw [hrun, args1 hx, hcv]
    refine run_v (s := Builtin.len_ _ _ _) ?_
    simp [Builtin.len_, ht, run_under hdt]
  | _ => cases hk

/-- a builtin that is not 'recover' -/
theorem builtin_ok {ev : Ev} {c : Call} {b : Builtin} {ty : TypeId} (hm : MRx P θ h nx w) (hcall : o.op = .call c) (hb : c.callee = .builtin b) (hr : b ≠ .recover) (ho : ∀ x ∈ c.args.toList, VR θ (opnd e x) (a.eval x)) (hk : (callC P c ty).f ev e ⟨h, nx, ds, rnd⟩ k = true) : OpOk P θ h nx ds rnd w (execOp a.eval o) k := by
  have pure_case : ((pureC P (.call c)).on fun f => (⟨fun _ e cx k => f e fun v => k v cx⟩ : OC)).f ev e ⟨h, nx, ds, rnd⟩ k = true → OpOk P θ h nx ds rnd w (execOp a.eval o) k := fun hk => by
    simp only [Clo.on_f] at hk
    exact OpOk.of_pure hm (ok_builtin (k := fun v => k v ⟨h, nx, ds, rnd⟩) hcall ho (by rw [hcall]; exact hk))
  have hrun := run_builtin (a := a) hb hcall
  unfold callC at hk
  split at hk
  · rename_i hcal; rw [hb] at hcal; cases hcal
  · rename_i hcal; rw [hb] at hcal; cases hcal
  · -- append
    rename_i s x hcal hx
    rw [hb] at hcal
    injection hcal with hcal
    subst hcal
    have hs := ho s (by simp [hx])
    have hxv := ho x (by simp [hx])
    split at hk
    · rename_i el hd
      obtain ⟨t, ht, hdt⟩ := argD_some hd
      split at hk
      · rename_i sz hsz
        cases hzi : zeroIs P el (sz + 1) with
        | false => rw [hzi] at hk; cases hk
        | true =>
          rw [hzi, cond_true] at hk
          obtain ⟨z, hz⟩ := zeroIs_true hzi
          split at hk
          · rename_i el1 hd1
            obtain ⟨t1, ht1, hdt1⟩ := argD_some hd1
            simp only [Clo.on_f, opndC_eq] at hk
            obtain ⟨θ', h', nx', v, cv, w', h1, h2, h3, h4, h5⟩ := appendK_ok (ty := o.type) hm ht hdt ht1 hdt1 hsz (Nat.succ_pos _) hz hs hxv hk
            exact ⟨θ', h', nx', v, cv, _, w', h1, h2, h3, h4, by rw [hrun, args2 hx]; exact run_v h5, .inl rfl⟩
          · rename_i hd1
            obtain ⟨t1, ht1, hdt1⟩ := argD_some hd1
            cases hq : Nat.beq el 5 && Nat.beq sz 0 with
            | false => rw [hq] at hk; cases hk
            | true =>
              rw [hq, cond_true] at hk
              rw [Bool.and_eq_true] at hq
              obtain rfl : el = 5 := Nat.eq_of_beq_eq_true hq.1
              obtain rfl : sz = 0 := Nat.eq_of_beq_eq_true hq.2
              simp only [Clo.on_f, opndC_eq] at hk
              obtain ⟨θ', h', nx', v, cv, w', h1, h2, h3, h4, h5⟩ := appendS_ok (ty := o.type) hm ht hdt ht1 hdt1 hsz hz hs hxv hk
              exact ⟨θ', h', nx', v, cv, _, w', h1, h2, h3, h4, by rw [hrun, args2 hx]; exact run_v h5, .inl rfl⟩
          · rename_i kd hd1
            obtain ⟨t1, ht1, hdt1⟩ := argD_some hd1
            rw [hz] at hk
            simp only [Clo.on_f, opndC_eq, show Nat.beq (sz + 1) (sz + 1) = true from Nat.beq_refl _, cond_true] at hk
            obtain ⟨θ', h', nx', v, cv, w', h1, h2, h3, h4, h5⟩ := appendN_ok (ty := o.type) hm ht hdt ht1 hdt1 hsz (Nat.succ_pos _) hz hs hxv hk
            exact ⟨θ', h', nx', v, cv, _, w', h1, h2, h3, h4, by rw [hrun, args2 hx]; exact run_v h5, .inl rfl⟩
          · cases hk
      · cases hk
    · cases hk
  · -- copy
    rename_i d x hcal hx
    rw [hb] at hcal
    injection hcal with hcal
    subst hcal
    have hdv := ho d (by simp [hx])
    have hxv := ho x (by simp [hx])
    split at hk
    · rename_i el hd
      obtain ⟨t, ht, hdt⟩ := argD_some hd
      split at hk
      · rename_i sz hsz
        simp only [Clo.on_f, opndC_eq] at hk
        obtain ⟨h', v, cv, w', h1, h2, h3, h4, h5⟩ := copyK_ok (ty := o.type) hm hdv hxv hk ht hdt hsz
        exact ⟨θ, h', nx, v, cv, _, w', h1, h2, h3, h4, by rw [hrun, args2 hx]; exact run_v h5, .inl rfl⟩
      · cases hk
    · cases hk
  · -- clear
    rename_i x hcal hx
    rw [hb] at hcal
    injection hcal with hcal
    subst hcal
    have hxv := ho x (by simp [hx])
    split at hk
    · rename_i el hd
      obtain ⟨t, ht, hdt⟩ := argD_some hd
      simp only [Clo.on_f, opndC_eq] at hk
      obtain ⟨h', v, cv, w', h1, h2, h3, h4, h5⟩ := clearC_ok (ty := o.type) hm hxv hk ht hdt
      exact ⟨θ, h', nx, v, cv, _, w', h1, h2, h3, h4, by rw [hrun, args1 hx]; exact run_v h5, .inl rfl⟩
    · cases hk
  · -- unsafe.SliceData
    rename_i x hcal hx
    rw [hb] at hcal
    injection hcal with hcal
    subst hcal
    have hxv := ho x (by simp [hx])
    simp only [Clo.on_f, opndC_eq] at hk
    rw [asSl_eq] at hk
    generalize hxe : opnd e x = v at hk hxv
    generalize hcv : a.eval x = cv at hxv
    have fin : ∀ {v : V} {cu : Value}, k v ⟨h, nx, ds, rnd⟩ = true → VR θ v cu → (Builtin.unsafeSliceData_ c.argTypes o.type #[cv]).run P w = .ok cu w → OpOk P θ h nx ds rnd w (execOp a.eval o) k := fun h1 h2 h3 =>
      ⟨θ, h, nx, _, _, _, w, h1, h2, hm, Fm.refl _ _ _, by rw [hrun, args1 hx, hcv]; exact run_v h3, .inl rfl⟩
    cases hxv with
    | slk b of l cp r hr hl =>
      obtain ⟨h0, h1⟩ := iteK_false hk
      have h0 : l ≠ 0 := fun e => by subst e; cases h0
      exact fin h1 (VR.p b of r hr) (Lib.run_unsafeSliceData_row _ _ _ _ _ _ (by omega))
    | slu b of l cp r hr hl =>
      obtain ⟨h0, h1⟩ := iteK_false hk
      have h0 : l ≠ 0 := fun e => by subst e; cases h0
      exact fin h1 (VR.p b of r hr) (Lib.run_unsafeSliceData_row _ _ _ _ _ _ (by omega))
    | sln => exact fin hk VR.pn (Lib.run_unsafeSliceData_nil _ _ _ _ _)
    | _ => cases hk
  · -- unsafe.String
    rename_i x n hcal hx
    rw [hb] at hcal
    injection hcal with hcal
    subst hcal
    have hxv := ho x (by simp [hx])
    have hnv := ho n (by simp [hx])
    split at hk
    · rename_i el hd
      obtain ⟨t, ht, hdt⟩ := argD_some hd
      cases hq : Nat.beq el 5 && byteT P with
      | false => rw [hq] at hk; cases hk
      | true =>
        rw [hq, cond_true] at hk
        rw [Bool.and_eq_true] at hq
        obtain rfl : el = 5 := Nat.eq_of_beq_eq_true hq.1
        have hs5 : sizeT P 5 = some 1 := by
          have h2 := hq.2
          unfold byteT at h2
          split at h2
          · rename_i sz hsz; rw [hsz, Nat.eq_of_beq_eq_true h2]
          · cases h2
        simp only [Clo.on_f, opndC_eq] at hk
        rw [asI_eq] at hk
        generalize hne : opnd e n = vn at hk hnv
        generalize hcn : a.eval n = cn at hnv
        cases hnv with
        | i m =>
          obtain ⟨g1, g2⟩ := iteK_true hk
          rw [forceN_eq] at g2
          have g1 := ble_le g1
          obtain ⟨θ', h', nx', v, cv, w', h1, h2, h3, h4, h5⟩ := unsafeStr_ok (ty := o.type) hm ht hdt hs5 hxv g2
          have hm' : unb m = ((Nat.sub m B63 : Nat) : Int) := by rw [Nat.sub_eq]; unfold unb; omega
          exact ⟨θ', h', nx', v, cv, _, w', h1, h2, h3, h4, by rw [hrun, args2 hx, hcn, hm']; exact run_v h5, .inl rfl⟩
        | _ => cases hk
    · cases hk
  · rename_i hcal _
    rw [hb] at hcal
    injection hcal with hcal
    exact absurd hcal hr
  · -- len
    rename_i x hcal hx
    rw [hb] at hcal
    injection hcal with hcal
    subst hcal
    have hxv := ho x (by simp [hx])
    split at hk
    · rename_i kt el hd
      obtain ⟨t, ht, hdt⟩ := argD_some hd
      simp only [Clo.on_f, opndC_eq] at hk
      exact OpOk.of_rd hm (rd_len (k := fun v => k v ⟨h, nx, ds, rnd⟩) hcall hb hx hm hxv hd hk)
    · exact pure_case hk
  · exact pure_case hk
end
end Go.Ax
