/-
  Facts about this program; the example is chosen at each argument.
-/
import Derived.Test.YtpppjkkncgkffaaGreatDoorExf
import Derived.Test.YtpppjkkncgkffaaGreatDoorProg
import Derived.Shelf.Strings.Search2
import Derived.Shelf.Strings.Builder1
import Derived.Shelf.Spec.SlicesInsert
import Derived.Shelf.Spec.SlicesInsertGrow
set_option linter.unusedVariables false
set_option linter.unusedSimpArgs false
namespace Go.Ax
open Go.Proofs
theorem isIdx : IsIdx Tryz.prog 682 :=
  ⟨Tryz.f682, Tryz.func682, by kernel_rfl, by kernel_rfl, by kernel_rfl, by kernel_rfl⟩
end Go.Ax

namespace Go.Proofs
open Go.Shelf
def Tryz.lays219_ren : Go.Shelf.Ren := ⟨fun | 219 => 561 | 217 => 556 | 225 => 685 | 224 => 686 | 267 => 687 | 266 => 682 | 314 => 770 | n => n, fun | 9 => 9 | 3 => 3 | 4 => 4 | 5 => 5 | 46 => 418 | 146 => 879 | 51 => 46 | n => n, fun | 1 => 5 | n => n⟩
theorem Tryz.lays219 : Go.Proofs.Lays.n219 Tryz.prog Tryz.lays219_ren := {
  mixed := by kernel_rfl
  f217 := Tryz.func556.trans (congrArg some (by kernel_rfl))
  f219 := Tryz.func561.trans (congrArg some (by kernel_rfl))
  f224 := Tryz.func686.trans (congrArg some (by kernel_rfl))
  f225 := Tryz.func685.trans (congrArg some (by kernel_rfl))
  f266 := Tryz.func682.trans (congrArg some (by kernel_rfl))
  f267 := Tryz.func687.trans (congrArg some (by kernel_rfl))
  f314 := Tryz.func770.trans (congrArg some (by kernel_rfl))
  t3 := Tryz.underlying3
  a3 := Tryz.isAgg3
  z3 := Tryz.sizeOf3
  v3 := Tryz.zeroValue3
  t4 := Tryz.underlying4
  a4 := Tryz.isAgg4
  z4 := Tryz.sizeOf4
  v4 := Tryz.zeroValue4
  t5 := Tryz.underlying5
  a5 := Tryz.isAgg5
  z5 := Tryz.sizeOf5
  v5 := Tryz.zeroValue5
  t9 := Tryz.underlying9
  a9 := Tryz.isAgg9
  z9 := Tryz.sizeOf9
  v9 := Tryz.zeroValue9
  t46 := Tryz.underlying418
  a46 := Tryz.isAgg418
  z46 := Tryz.sizeOf418
  v46 := Tryz.zeroValue418
  t51 := Tryz.underlying46
  a51 := Tryz.isAgg46
  z51 := Tryz.sizeOf46
  v51 := Tryz.zeroValue46
  t146 := Tryz.underlying879
  a146 := Tryz.isAgg879
  z146 := Tryz.sizeOf879
  v146 := Tryz.zeroValue879
  g1 := by kernel_rfl }
def Tryz.lays2_21_ren : Go.Shelf.Ren := ⟨fun | 21 => 224 | 27 => 345 | 28 => 346 | 35 => 527 | 39 => 367 | n => n, fun | 22 => 56 | 3 => 3 | 4 => 4 | 0 => 0 | n => n, fun | n => n⟩
theorem Tryz.lays2_21 : Go.Proofs.Lays2.n21 Tryz.prog Tryz.lays2_21_ren := {
  mixed := by kernel_rfl
  f21 := Tryz.func224.trans (congrArg some (by kernel_rfl))
  f27 := Tryz.func345.trans (congrArg some (by kernel_rfl))
  f28 := Tryz.func346.trans (congrArg some (by kernel_rfl))
  f35 := Tryz.func527.trans (congrArg some (by kernel_rfl))
  f39 := Tryz.func367.trans (congrArg some (by kernel_rfl))
  t0 := Tryz.underlying0
  a0 := Tryz.isAgg0
  z0 := Tryz.sizeOf0
  v0 := Tryz.zeroValue0
  t3 := Tryz.underlying3
  a3 := Tryz.isAgg3
  z3 := Tryz.sizeOf3
  v3 := Tryz.zeroValue3
  t4 := Tryz.underlying4
  a4 := Tryz.isAgg4
  z4 := Tryz.sizeOf4
  v4 := Tryz.zeroValue4
  t22 := Tryz.underlying56
  a22 := Tryz.isAgg56
  z22 := Tryz.sizeOf56
  v22 := Tryz.zeroValue56
  i3 := by kernel_rfl }
def Tryz.lays240_ren : Go.Shelf.Ren := ⟨fun | 240 => 84 | 276 => 153 | n => n, fun | 0 => 0 | 4 => 4 | 9 => 9 | 20 => 20 | 37 => 125 | 70 => 124 | 72 => 127 | 164 => 311 | n => n, fun | n => n⟩
theorem Tryz.lays240 : Go.Proofs.Lays.n240 Tryz.prog Tryz.lays240_ren := {
  mixed := by kernel_rfl
  f240 := Tryz.func84.trans (congrArg some (by kernel_rfl))
  f276 := Tryz.func153.trans (congrArg some (by kernel_rfl))
  t0 := Tryz.underlying0
  a0 := Tryz.isAgg0
  z0 := Tryz.sizeOf0
  v0 := Tryz.zeroValue0
  t4 := Tryz.underlying4
  a4 := Tryz.isAgg4
  z4 := Tryz.sizeOf4
  v4 := Tryz.zeroValue4
  t9 := Tryz.underlying9
  a9 := Tryz.isAgg9
  z9 := Tryz.sizeOf9
  v9 := Tryz.zeroValue9
  t20 := Tryz.underlying20
  a20 := Tryz.isAgg20
  z20 := Tryz.sizeOf20
  v20 := Tryz.zeroValue20
  t70 := Tryz.underlying124
  a70 := Tryz.isAgg124
  z70 := Tryz.sizeOf124
  v70 := Tryz.zeroValue124
  t72 := Tryz.underlying127
  a72 := Tryz.isAgg127
  z72 := Tryz.sizeOf127
  v72 := Tryz.zeroValue127
  t164 := Tryz.underlying311
  a164 := Tryz.isAgg311
  z164 := Tryz.sizeOf311
  v164 := Tryz.zeroValue311 }
theorem Tryz.lays240_x : Builder.X72 Tryz.prog Tryz.lays240_ren := {
  sizeBuilder := by kernel_rfl
  liesBuilder := by kernel_rfl }
end Go.Proofs

namespace Go.Ax
open Go.Proofs Go.Shelf

theorem isIndex : IsIndex Tryz.prog 561 5 where
  glob := Nat.le_of_ble_eq_true (by kernel_rfl)
  enters := fun vs w => (enters_of (P := Tryz.prog) (f := 561) Tryz.func561 (by kernel_rfl) rfl : Enters Tryz.prog 561) vs w
  law := fun s sub m w hs hm => Any.stringslite_Index Tryz.lays219 s sub m w hs hm

theorem isInsert : IsInsert Tryz.prog 224 where
  enters := fun vs w => (enters_of (P := Tryz.prog) (f := 224) Tryz.func224 (by kernel_rfl) rfl : Enters Tryz.prog 224) vs w
  shift := fun b off n c i vb voff m vc cs vs w hi hm hroom hc63 hvb hcl hvl hcs hsp hfz hvs h1c h1v tA tB kA kB hsa hsb hkB hfa hfe =>
    Any2.slices_Insert_int_shift Tryz.lays2_21 b off n c i vb voff m vc cs vs w hi hm hroom hc63 hvb hcl hvl hcs hsp hfz hvs h1c h1v tA tB kA kB hsa hsb hkB hfa hfe
  grow := fun b off n c i vb voff m vc cs vs w hi hm hnc hroom hbig hcl hvl hcs hvs h1c h1v =>
    Any2.slices_Insert_int_grow Tryz.lays2_21 b off n c i vb voff m vc cs vs w hi hm hnc hroom hbig hcl hvl hcs hvs h1c h1v

theorem isCopyCheck : IsCopyCheck Tryz.prog 84 127 where
  enters := fun vs w => (enters_of (P := Tryz.prog) (f := 84) Tryz.func84 (by kernel_rfl) rfl : Enters Tryz.prog 84) vs w
  used := fun b w h => Any.Builder_copyCheck_used Tryz.lays240 Tryz.lays240_x b w h
  fresh := fun b w h0 hsh hfz => Any.Builder_copyCheck_fresh Tryz.lays240 Tryz.lays240_x b w h0 hsh hfz

noncomputable def S0 : FuncId → Option SumF := fun g => bif Nat.beq g 682 then some indexByteF else bif Nat.beq g 224 then some insertF else bif Nat.beq g 561 then some (indexF (A.ofNat 5)) else bif Nat.beq g 84 then some (copyCheckF 127) else none

theorem sumOk : SumOk Tryz.prog S0 := by
  intro g c hc nat hN args h nx k θ w vs hk hm hv
  unfold S0 at hc
  cases h1 : Nat.beq g 682 with
  | true =>
    rw [h1, cond_true] at hc
    obtain rfl := Nat.eq_of_beq_eq_true h1
    obtain rfl := Option.some.inj hc
    exact indexByte_ok isIdx hk hm hv
  | false =>
  rw [h1, cond_false] at hc
  cases h2 : Nat.beq g 224 with
  | true =>
    rw [h2, cond_true] at hc
    obtain rfl := Nat.eq_of_beq_eq_true h2
    obtain rfl := Option.some.inj hc
    exact insert_ok isInsert hN hk hm hv
  | false =>
  rw [h2, cond_false] at hc
  cases h3 : Nat.beq g 561 with
  | true =>
    rw [h3, cond_true] at hc
    obtain rfl := Nat.eq_of_beq_eq_true h3
    obtain rfl := Option.some.inj hc
    exact index_ok isIndex hk hm hv
  | false =>
  rw [h3, cond_false] at hc
  cases h4 : Nat.beq g 84 with
  | true =>
    rw [h4, cond_true] at hc
    obtain rfl := Nat.eq_of_beq_eq_true h4
    obtain rfl := Option.some.inj hc
    exact copyCheck_ok (by decide) isCopyCheck hk hm hv
  | false =>
  rw [h4, cond_false] at hc
  cases hc

theorem ev_ok (n : Nat) : EvOk Tryz.prog (evN Tryz.prog S0 n) := evN_ok sumOk (fun ev h => draw_ok h) n
end Go.Ax

namespace Go.Ax
open Go.Proofs

noncomputable def codeOf (o : Option Code) : Code := o.getD .skip
def fstC : Code → Code
  | .seq a _ => a
  | c => c
def sndC : Code → Code
  | .seq _ b => b
  | c => c
/-- the body's parts -/
noncomputable def c3 : Code := Tryz.f3.body.getD .skip
noncomputable def r0 : Code := fstC c3
noncomputable def r1 : Code := fstC (sndC c3)
noncomputable def r2 : Code := fstC (sndC (sndC c3))
noncomputable def rest3 : Code := sndC (sndC (sndC c3))
theorem c3_parts : Tryz.f3.body = some (.seq r0 (.seq r1 (.seq r2 rest3))) := by kernel_rfl

/-! ### the memory at the start -/
noncomputable def hp0 : Hp := E16.all (E16.all (E16.all (E16.all none)))
noncomputable def tabT (f : Nat → Nat) (n : Nat) : PT V := List.rec (motive := fun _ => Nat → PT V → PT V) (fun _ t => t) (fun i _ ih n t => forceN (f i) fun x => PT.setK t i (.u .u64 (9223372036854775808 + x)) fun t => ih n t) (List.range n) 0 .nil
noncomputable def asciiT : PT V := List.rec (motive := fun _ => Nat → PT V → PT V) (fun _ t => t) (fun i _ ih n t => PT.setK t i (.u .u8 (9223372036854775808 + (if i = 9 ∨ i = 10 ∨ i = 11 ∨ i = 12 ∨ i = 13 ∨ i = 32 then 1 else 0))) fun t => ih n t) (List.range 256) 0 .nil
noncomputable def hp1 : Hp := hsetK hp0 (A.ofNat 1) (some (.ro 256 asciiT)) fun h => hsetK h (A.ofNat 5) (some .wild) fun h => hsetK h (A.ofNat 0) (some (.ro 20 (tabT (fun i => 10 ^ i) 20))) id

noncomputable def ev3 : Ev := evN Tryz.prog S0 1000000
noncomputable def res3 (v : V) (_ : Hp) (_ : A) : Bool := asB v (fun x => x) false
noncomputable def u8 (n : Nat) : V := .u .u8 (Nat.add 9223372036854775808 n)
noncomputable def i64 (n : Nat) : V := .i (Nat.add 9223372036854775808 n)

/-! ### a body in four parts -/
def no3 : KX := fun _ _ _ => false
noncomputable def finG (P : Program) (ev : Ev) (rs : List ResultVar) (k : KC) : KN := fun e cx => finK ev (resultsC P rs).f e cx k
def thr (f : Ev → Env → Cx → KN → KX → KN → Bool) (ev : Ev) (fin kn : KN) : KN := fun e cx => f ev e cx kn no3 fin
noncomputable def layG (f g : Ev → Env → Cx → KN → KX → KN → Bool) (ev : Ev) (v : V) (h : Hp) (nx : A) (fin kn : KN) : Bool :=
  enterK [v] 0 env0 fun e => f ev e ⟨h, nx, [], none⟩ (thr g ev fin kn) no3 fin
theorem fnC_parts {P : Program} {ev : Ev} {f : FuncId} {n : Nat} {rs : List ResultVar} {a b c d : Code} (hT : funcT P f = some (n, rs, .seq a (.seq b (.seq c d)))) (hn : Nat.ble n 256 = true) (h1 : Nat.ble 1 n = true) {x : V} {h : Hp} {nx : A} {k : KC} :
    (fnC P f).f ev [x] h nx k = layG (comp P ⟨n, f⟩ a).f (comp P ⟨n, f⟩ b).f ev x h nx (finG P ev rs k) (thr (comp P ⟨n, f⟩ c).f ev (finG P ev rs k) (thr (comp P ⟨n, f⟩ d).f ev (finG P ev rs k) (finG P ev rs k))) := by
  unfold fnC
  rw [hT]
  simp only [hn, cond_true, comp_seq, Clo.on_f, lenL_eq, Nat.zero_add, List.length_cons, List.length_nil, iteK_eq, h1]
  rfl

/-! ### the body's parts: the table is laid; the example is chosen; it is checked -/
noncomputable def fin3 : KN := finG Tryz.prog ev3 [.tmp 2] res3
noncomputable def lay3 (v : V) (kn : KN) : Bool := layG (comp Tryz.prog ⟨63, 3⟩ r0).f (comp Tryz.prog ⟨63, 3⟩ r1).f ev3 v hp1 (A.ofNat 20) fin3 kn
noncomputable def choose3 (kn : KN) : KN := thr (comp Tryz.prog ⟨63, 3⟩ r2).f ev3 fin3 kn
noncomputable def check3 : KN := thr (comp Tryz.prog ⟨63, 3⟩ rest3).f ev3 fin3 fin3
theorem fn3_eq (n : Nat) : (fnC Tryz.prog (3 : Nat)).f ev3 [u8 n] hp1 (A.ofNat 20) res3 = lay3 (u8 n) (choose3 check3) := by
  have hT : funcT Tryz.prog (3 : Nat) = some (63, [.tmp 2], .seq r0 (.seq r1 (.seq r2 rest3))) := by kernel_rfl
  exact fnC_parts (ev := ev3) (x := u8 n) (h := hp1) (nx := A.ofNat 20) (k := res3) hT rfl rfl

/-! ### the states between them -/
def exRow : Nat → V × V × V
  | 0 => (.s 79 3496690808859067893908172169056342925269400911320246561858172406769080012727058131164452594909139823396775101559318798245829190973079187072410223472991287226677417404046375413988891070719332, .s 10 279509326686262664580693, .b false)
  | 1 => (.s 116 445180310985253452328975829096890630682739700096063887106955076105466071898464181204567978700788505634815702666224858046984058040930831688102257689443646584637599950618764861624182034919893456255290256708896133747519904968779711014121854409251187483698952637370734779622692906340, .s 4 1162232147, .b false)
  | 2 => (.s 116 445180310985253452328975829096890630682739700096063887106955076105466071898464181204567978700788505634815702666224858046984060933230601828948345704894121499013379412760869544962458248162046706923869029075925845899857033414851970594810548045552032934472578661916629084417696359780, .s 11 58307967114932536760028757, .b false)
  | 3 => (.s 100 2427373290517708542581932084095800815801008897617167810776412542323206687820874621261071356375996035533411365047581802063798002974904976508225173606746481208245706569795721374523249915896660628268831709977463102675361207540648158548578428260, .s 12 15223073466807584977983852117, .b false)
  | 4 => (.s 108 44777133861538393800336801362188765985738248997205478334220813562783060353001779905069096934908156766755353382284644426265302563793124751249723590507650597491747716799849690980790622402583360518616644574547445157889276175839473037434868779817526029114485925220, .s 4 1162232147, .b false)
  | 5 => (.s 160 7577649055595987598573628469220753178765553793920927376227771702510772585936196230536681336722845640959431410070358989016020872977533517312532738848733859225989797648688734229029473815999541748241973732399529031362604351702724133600803008841500123905469720819334079840851717093692406625158407429087494408659926350731117417156835442390496489259322299756552983790306118094836796921111908, .s 4 1162232147, .b false)
  | 6 => (.s 143 46882958751641776673906770002874215527573374528345970472763672623647871339082838669936641591020054468764450638496324042105501718695751131964575054545391793190612842064697432951217255826696706133690677314411902746630745218787371979424498604284426804941918305863247938245049054220363556397824821501146458753740285115716411281208126081285844526436, .s 4 1162232147, .b false)
  | 7 => (.s 109 6055114737927712226886768321891869827761721188615855797322356449904867909039149316855191626281037724417607861840096553310313538741497694568112329875894844454446250133041428016837185052295495265886231630774934764707565359488288364971363445603566149612700488328548, .s 26 95130271052054055029928659912877391180316863490390962396811074, .b true)
  | 8 => (.s 79 3496689746583082260373974789879929820332146252134011107794326007880803611919938409459967116584135292938203763780659827519674225058304841350293245396869845520986610392002791864808654299882852, .s 4 1162232147, .b false)
  | 9 => (.s 66 168967768511202440179960478670710092240137765851490926273978196261437304518636421057720404922208860363129498110708713746912007977570589176191966832134710519140, .s 13 3976944183499654602411943282002, .b false)
  | 10 => (.s 23 11793189125805437669264634907390984584539199875604440420, .s 13 3817868888433036493013696267602, .b false)
  | _ => (.nil, .nil, .nil)

noncomputable def tree3 (r : V × V × V) : PT V := .node (.node .nil (some r.2.1) .nil) (some r.1) (.node .nil (some r.2.2) .nil)
noncomputable def sl3 : V := .sl (A.ofNat 20) 0 11 false 11
noncomputable def puts (l : List (Nat × V)) (e : Env) : Env := List.rec (motive := fun _ => Env → Env) (fun e => e) (fun p _ ih e => (setC p.1).f e p.2 ih) l e
noncomputable def laid3 (v : V) : Env :=
  puts ([(0, v), (2, .b false)] ++ (List.range 11).map (fun i => (9 + i, .agg 3 (tree3 (exRow i)))) ++ [(20, sl3), (3, sl3)]) env0
noncomputable def tab33 : PT V := List.rec (motive := fun _ => PT V → PT V) (fun t => t) (fun i _ ih t => PT.setK t (3 * i) (exRow i).1 fun t => PT.setK t (3 * i + 1) (exRow i).2.1 fun t => PT.setK t (3 * i + 2) (exRow i).2.2 ih) (List.range 11) .nil
noncomputable def mem1 : Hp := hsetK hp1 (A.ofNat 20) (some (.cells 33 false 0 tab33)) id
noncomputable def chosen3 (v w x : V) (k : Nat) : Env := puts [(21, sl3), (22, w), (23, x), (24, sl3), (25, i64 11), (26, i64 k), (27, .p (A.ofNat 20) (3 * k)), (28, .agg 3 (tree3 (exRow k))), (4, .p (A.ofNat 21) 0)] (laid3 v)
noncomputable def mem2 (k : Nat) : Hp := hsetK mem1 (A.ofNat 21) (some (.cells 3 false 23 (tree3 (exRow k)))) id

theorem laid3_ok (v : V) (kn : KN) : lay3 v kn = kn (laid3 v) ⟨mem1, A.ofNat 21, [], none⟩ := by kernel_rfl
theorem choose_7 (kn : KN) : choose3 kn (laid3 (u8 18)) ⟨mem1, A.ofNat 21, [], none⟩ = kn (chosen3 (u8 18) (u8 18) (i64 18) 7) ⟨mem2 7, A.ofNat 22, [], none⟩ := by kernel_rfl
end Go.Ax

namespace Go.Ax
open Go.Proofs
def Chosen (n : Nat) : Prop := ∀ kn : KN, choose3 kn (laid3 (u8 n)) ⟨mem1, A.ofNat 21, [], none⟩ = kn (chosen3 (u8 n) (u8 n) (i64 n) (n % 11)) ⟨mem2 (n % 11), A.ofNat 22, [], none⟩
def Alls (Q : Nat → Prop) : List Nat → Prop
  | [] => True
  | n :: l => Q n ∧ Alls Q l
theorem Alls.mem {Q : Nat → Prop} : ∀ {l : List Nat}, Alls Q l → ∀ n, n ∈ l → Q n
  | m :: l, h, n, hn => by
    rcases List.mem_cons.1 hn with e | e
    · subst e; exact h.1
    · exact Alls.mem h.2 n e
theorem ch0 : Chosen 0 := by intro kn; kernel_rfl
theorem ch1 : Chosen 1 := by intro kn; kernel_rfl
theorem ch2 : Chosen 2 := by intro kn; kernel_rfl
theorem ch3 : Chosen 3 := by intro kn; kernel_rfl
theorem ch4 : Chosen 4 := by intro kn; kernel_rfl
theorem ch5 : Chosen 5 := by intro kn; kernel_rfl
theorem ch6 : Chosen 6 := by intro kn; kernel_rfl
theorem ch7 : Chosen 7 := by intro kn; kernel_rfl
theorem ch8 : Chosen 8 := by intro kn; kernel_rfl
theorem ch9 : Chosen 9 := by intro kn; kernel_rfl
theorem ch10 : Chosen 10 := by intro kn; kernel_rfl
theorem ch11 : Chosen 11 := by intro kn; kernel_rfl
theorem ch12 : Chosen 12 := by intro kn; kernel_rfl
theorem ch13 : Chosen 13 := by intro kn; kernel_rfl
theorem ch14 : Chosen 14 := by intro kn; kernel_rfl
theorem ch15 : Chosen 15 := by intro kn; kernel_rfl
theorem ch16 : Chosen 16 := by intro kn; kernel_rfl
theorem ch17 : Chosen 17 := by intro kn; kernel_rfl
theorem ch18 : Chosen 18 := by intro kn; kernel_rfl
theorem ch19 : Chosen 19 := by intro kn; kernel_rfl
theorem ch20 : Chosen 20 := by intro kn; kernel_rfl
theorem ch21 : Chosen 21 := by intro kn; kernel_rfl
theorem ch22 : Chosen 22 := by intro kn; kernel_rfl
theorem ch23 : Chosen 23 := by intro kn; kernel_rfl
theorem ch24 : Chosen 24 := by intro kn; kernel_rfl
theorem ch25 : Chosen 25 := by intro kn; kernel_rfl
theorem ch26 : Chosen 26 := by intro kn; kernel_rfl
theorem ch27 : Chosen 27 := by intro kn; kernel_rfl
theorem ch28 : Chosen 28 := by intro kn; kernel_rfl
theorem ch29 : Chosen 29 := by intro kn; kernel_rfl
theorem ch30 : Chosen 30 := by intro kn; kernel_rfl
theorem ch31 : Chosen 31 := by intro kn; kernel_rfl
theorem ch32 : Chosen 32 := by intro kn; kernel_rfl
theorem ch33 : Chosen 33 := by intro kn; kernel_rfl
theorem ch34 : Chosen 34 := by intro kn; kernel_rfl
theorem ch35 : Chosen 35 := by intro kn; kernel_rfl
theorem ch36 : Chosen 36 := by intro kn; kernel_rfl
theorem ch37 : Chosen 37 := by intro kn; kernel_rfl
theorem ch38 : Chosen 38 := by intro kn; kernel_rfl
theorem ch39 : Chosen 39 := by intro kn; kernel_rfl
theorem ch40 : Chosen 40 := by intro kn; kernel_rfl
theorem ch41 : Chosen 41 := by intro kn; kernel_rfl
theorem ch42 : Chosen 42 := by intro kn; kernel_rfl
theorem ch43 : Chosen 43 := by intro kn; kernel_rfl
theorem ch44 : Chosen 44 := by intro kn; kernel_rfl
theorem ch45 : Chosen 45 := by intro kn; kernel_rfl
theorem ch46 : Chosen 46 := by intro kn; kernel_rfl
theorem ch47 : Chosen 47 := by intro kn; kernel_rfl
theorem ch48 : Chosen 48 := by intro kn; kernel_rfl
theorem ch49 : Chosen 49 := by intro kn; kernel_rfl
theorem ch50 : Chosen 50 := by intro kn; kernel_rfl
theorem ch51 : Chosen 51 := by intro kn; kernel_rfl
theorem ch52 : Chosen 52 := by intro kn; kernel_rfl
theorem ch53 : Chosen 53 := by intro kn; kernel_rfl
theorem ch54 : Chosen 54 := by intro kn; kernel_rfl
theorem ch55 : Chosen 55 := by intro kn; kernel_rfl
theorem ch56 : Chosen 56 := by intro kn; kernel_rfl
theorem ch57 : Chosen 57 := by intro kn; kernel_rfl
theorem ch58 : Chosen 58 := by intro kn; kernel_rfl
theorem ch59 : Chosen 59 := by intro kn; kernel_rfl
theorem ch60 : Chosen 60 := by intro kn; kernel_rfl
theorem ch61 : Chosen 61 := by intro kn; kernel_rfl
theorem ch62 : Chosen 62 := by intro kn; kernel_rfl
theorem ch63 : Chosen 63 := by intro kn; kernel_rfl
theorem ch64 : Chosen 64 := by intro kn; kernel_rfl
theorem ch65 : Chosen 65 := by intro kn; kernel_rfl
theorem ch66 : Chosen 66 := by intro kn; kernel_rfl
theorem ch67 : Chosen 67 := by intro kn; kernel_rfl
theorem ch68 : Chosen 68 := by intro kn; kernel_rfl
theorem ch69 : Chosen 69 := by intro kn; kernel_rfl
theorem ch70 : Chosen 70 := by intro kn; kernel_rfl
theorem ch71 : Chosen 71 := by intro kn; kernel_rfl
theorem ch72 : Chosen 72 := by intro kn; kernel_rfl
theorem ch73 : Chosen 73 := by intro kn; kernel_rfl
theorem ch74 : Chosen 74 := by intro kn; kernel_rfl
theorem ch75 : Chosen 75 := by intro kn; kernel_rfl
theorem ch76 : Chosen 76 := by intro kn; kernel_rfl
theorem ch77 : Chosen 77 := by intro kn; kernel_rfl
theorem ch78 : Chosen 78 := by intro kn; kernel_rfl
theorem ch79 : Chosen 79 := by intro kn; kernel_rfl
theorem ch80 : Chosen 80 := by intro kn; kernel_rfl
theorem ch81 : Chosen 81 := by intro kn; kernel_rfl
theorem ch82 : Chosen 82 := by intro kn; kernel_rfl
theorem ch83 : Chosen 83 := by intro kn; kernel_rfl
theorem ch84 : Chosen 84 := by intro kn; kernel_rfl
theorem ch85 : Chosen 85 := by intro kn; kernel_rfl
theorem ch86 : Chosen 86 := by intro kn; kernel_rfl
theorem ch87 : Chosen 87 := by intro kn; kernel_rfl
theorem ch88 : Chosen 88 := by intro kn; kernel_rfl
theorem ch89 : Chosen 89 := by intro kn; kernel_rfl
theorem ch90 : Chosen 90 := by intro kn; kernel_rfl
theorem ch91 : Chosen 91 := by intro kn; kernel_rfl
theorem ch92 : Chosen 92 := by intro kn; kernel_rfl
theorem ch93 : Chosen 93 := by intro kn; kernel_rfl
theorem ch94 : Chosen 94 := by intro kn; kernel_rfl
theorem ch95 : Chosen 95 := by intro kn; kernel_rfl
theorem ch96 : Chosen 96 := by intro kn; kernel_rfl
theorem ch97 : Chosen 97 := by intro kn; kernel_rfl
theorem ch98 : Chosen 98 := by intro kn; kernel_rfl
theorem ch99 : Chosen 99 := by intro kn; kernel_rfl
theorem ch100 : Chosen 100 := by intro kn; kernel_rfl
theorem ch101 : Chosen 101 := by intro kn; kernel_rfl
theorem ch102 : Chosen 102 := by intro kn; kernel_rfl
theorem ch103 : Chosen 103 := by intro kn; kernel_rfl
theorem ch104 : Chosen 104 := by intro kn; kernel_rfl
theorem ch105 : Chosen 105 := by intro kn; kernel_rfl
theorem ch106 : Chosen 106 := by intro kn; kernel_rfl
theorem ch107 : Chosen 107 := by intro kn; kernel_rfl
theorem ch108 : Chosen 108 := by intro kn; kernel_rfl
theorem ch109 : Chosen 109 := by intro kn; kernel_rfl
theorem ch110 : Chosen 110 := by intro kn; kernel_rfl
theorem ch111 : Chosen 111 := by intro kn; kernel_rfl
theorem ch112 : Chosen 112 := by intro kn; kernel_rfl
theorem ch113 : Chosen 113 := by intro kn; kernel_rfl
theorem ch114 : Chosen 114 := by intro kn; kernel_rfl
theorem ch115 : Chosen 115 := by intro kn; kernel_rfl
theorem ch116 : Chosen 116 := by intro kn; kernel_rfl
theorem ch117 : Chosen 117 := by intro kn; kernel_rfl
theorem ch118 : Chosen 118 := by intro kn; kernel_rfl
theorem ch119 : Chosen 119 := by intro kn; kernel_rfl
theorem ch120 : Chosen 120 := by intro kn; kernel_rfl
theorem ch121 : Chosen 121 := by intro kn; kernel_rfl
theorem ch122 : Chosen 122 := by intro kn; kernel_rfl
theorem ch123 : Chosen 123 := by intro kn; kernel_rfl
theorem ch124 : Chosen 124 := by intro kn; kernel_rfl
theorem ch125 : Chosen 125 := by intro kn; kernel_rfl
theorem ch126 : Chosen 126 := by intro kn; kernel_rfl
theorem ch127 : Chosen 127 := by intro kn; kernel_rfl
theorem ch128 : Chosen 128 := by intro kn; kernel_rfl
theorem ch129 : Chosen 129 := by intro kn; kernel_rfl
theorem ch130 : Chosen 130 := by intro kn; kernel_rfl
theorem ch131 : Chosen 131 := by intro kn; kernel_rfl
theorem ch132 : Chosen 132 := by intro kn; kernel_rfl
theorem ch133 : Chosen 133 := by intro kn; kernel_rfl
theorem ch134 : Chosen 134 := by intro kn; kernel_rfl
theorem ch135 : Chosen 135 := by intro kn; kernel_rfl
theorem ch136 : Chosen 136 := by intro kn; kernel_rfl
theorem ch137 : Chosen 137 := by intro kn; kernel_rfl
theorem ch138 : Chosen 138 := by intro kn; kernel_rfl
theorem ch139 : Chosen 139 := by intro kn; kernel_rfl
theorem ch140 : Chosen 140 := by intro kn; kernel_rfl
theorem ch141 : Chosen 141 := by intro kn; kernel_rfl
theorem ch142 : Chosen 142 := by intro kn; kernel_rfl
theorem ch143 : Chosen 143 := by intro kn; kernel_rfl
theorem ch144 : Chosen 144 := by intro kn; kernel_rfl
theorem ch145 : Chosen 145 := by intro kn; kernel_rfl
theorem ch146 : Chosen 146 := by intro kn; kernel_rfl
theorem ch147 : Chosen 147 := by intro kn; kernel_rfl
theorem ch148 : Chosen 148 := by intro kn; kernel_rfl
theorem ch149 : Chosen 149 := by intro kn; kernel_rfl
theorem ch150 : Chosen 150 := by intro kn; kernel_rfl
theorem ch151 : Chosen 151 := by intro kn; kernel_rfl
theorem ch152 : Chosen 152 := by intro kn; kernel_rfl
theorem ch153 : Chosen 153 := by intro kn; kernel_rfl
theorem ch154 : Chosen 154 := by intro kn; kernel_rfl
theorem ch155 : Chosen 155 := by intro kn; kernel_rfl
theorem ch156 : Chosen 156 := by intro kn; kernel_rfl
theorem ch157 : Chosen 157 := by intro kn; kernel_rfl
theorem ch158 : Chosen 158 := by intro kn; kernel_rfl
theorem ch159 : Chosen 159 := by intro kn; kernel_rfl
theorem ch160 : Chosen 160 := by intro kn; kernel_rfl
theorem ch161 : Chosen 161 := by intro kn; kernel_rfl
theorem ch162 : Chosen 162 := by intro kn; kernel_rfl
theorem ch163 : Chosen 163 := by intro kn; kernel_rfl
theorem ch164 : Chosen 164 := by intro kn; kernel_rfl
theorem ch165 : Chosen 165 := by intro kn; kernel_rfl
theorem ch166 : Chosen 166 := by intro kn; kernel_rfl
theorem ch167 : Chosen 167 := by intro kn; kernel_rfl
theorem ch168 : Chosen 168 := by intro kn; kernel_rfl
theorem ch169 : Chosen 169 := by intro kn; kernel_rfl
theorem ch170 : Chosen 170 := by intro kn; kernel_rfl
theorem ch171 : Chosen 171 := by intro kn; kernel_rfl
theorem ch172 : Chosen 172 := by intro kn; kernel_rfl
theorem ch173 : Chosen 173 := by intro kn; kernel_rfl
theorem ch174 : Chosen 174 := by intro kn; kernel_rfl
theorem ch175 : Chosen 175 := by intro kn; kernel_rfl
theorem ch176 : Chosen 176 := by intro kn; kernel_rfl
theorem ch177 : Chosen 177 := by intro kn; kernel_rfl
theorem ch178 : Chosen 178 := by intro kn; kernel_rfl
theorem ch179 : Chosen 179 := by intro kn; kernel_rfl
theorem ch180 : Chosen 180 := by intro kn; kernel_rfl
theorem ch181 : Chosen 181 := by intro kn; kernel_rfl
theorem ch182 : Chosen 182 := by intro kn; kernel_rfl
theorem ch183 : Chosen 183 := by intro kn; kernel_rfl
theorem ch184 : Chosen 184 := by intro kn; kernel_rfl
theorem ch185 : Chosen 185 := by intro kn; kernel_rfl
theorem ch186 : Chosen 186 := by intro kn; kernel_rfl
theorem ch187 : Chosen 187 := by intro kn; kernel_rfl
theorem ch188 : Chosen 188 := by intro kn; kernel_rfl
theorem ch189 : Chosen 189 := by intro kn; kernel_rfl
theorem ch190 : Chosen 190 := by intro kn; kernel_rfl
theorem ch191 : Chosen 191 := by intro kn; kernel_rfl
theorem ch192 : Chosen 192 := by intro kn; kernel_rfl
theorem ch193 : Chosen 193 := by intro kn; kernel_rfl
theorem ch194 : Chosen 194 := by intro kn; kernel_rfl
theorem ch195 : Chosen 195 := by intro kn; kernel_rfl
theorem ch196 : Chosen 196 := by intro kn; kernel_rfl
theorem ch197 : Chosen 197 := by intro kn; kernel_rfl
theorem ch198 : Chosen 198 := by intro kn; kernel_rfl
theorem ch199 : Chosen 199 := by intro kn; kernel_rfl
theorem ch200 : Chosen 200 := by intro kn; kernel_rfl
theorem ch201 : Chosen 201 := by intro kn; kernel_rfl
theorem ch202 : Chosen 202 := by intro kn; kernel_rfl
theorem ch203 : Chosen 203 := by intro kn; kernel_rfl
theorem ch204 : Chosen 204 := by intro kn; kernel_rfl
theorem ch205 : Chosen 205 := by intro kn; kernel_rfl
theorem ch206 : Chosen 206 := by intro kn; kernel_rfl
theorem ch207 : Chosen 207 := by intro kn; kernel_rfl
theorem ch208 : Chosen 208 := by intro kn; kernel_rfl
theorem ch209 : Chosen 209 := by intro kn; kernel_rfl
theorem ch210 : Chosen 210 := by intro kn; kernel_rfl
theorem ch211 : Chosen 211 := by intro kn; kernel_rfl
theorem ch212 : Chosen 212 := by intro kn; kernel_rfl
theorem ch213 : Chosen 213 := by intro kn; kernel_rfl
theorem ch214 : Chosen 214 := by intro kn; kernel_rfl
theorem ch215 : Chosen 215 := by intro kn; kernel_rfl
theorem ch216 : Chosen 216 := by intro kn; kernel_rfl
theorem ch217 : Chosen 217 := by intro kn; kernel_rfl
theorem ch218 : Chosen 218 := by intro kn; kernel_rfl
theorem ch219 : Chosen 219 := by intro kn; kernel_rfl
theorem ch220 : Chosen 220 := by intro kn; kernel_rfl
theorem ch221 : Chosen 221 := by intro kn; kernel_rfl
theorem ch222 : Chosen 222 := by intro kn; kernel_rfl
theorem ch223 : Chosen 223 := by intro kn; kernel_rfl
theorem ch224 : Chosen 224 := by intro kn; kernel_rfl
theorem ch225 : Chosen 225 := by intro kn; kernel_rfl
theorem ch226 : Chosen 226 := by intro kn; kernel_rfl
theorem ch227 : Chosen 227 := by intro kn; kernel_rfl
theorem ch228 : Chosen 228 := by intro kn; kernel_rfl
theorem ch229 : Chosen 229 := by intro kn; kernel_rfl
theorem ch230 : Chosen 230 := by intro kn; kernel_rfl
theorem ch231 : Chosen 231 := by intro kn; kernel_rfl
theorem ch232 : Chosen 232 := by intro kn; kernel_rfl
theorem ch233 : Chosen 233 := by intro kn; kernel_rfl
theorem ch234 : Chosen 234 := by intro kn; kernel_rfl
theorem ch235 : Chosen 235 := by intro kn; kernel_rfl
theorem ch236 : Chosen 236 := by intro kn; kernel_rfl
theorem ch237 : Chosen 237 := by intro kn; kernel_rfl
theorem ch238 : Chosen 238 := by intro kn; kernel_rfl
theorem ch239 : Chosen 239 := by intro kn; kernel_rfl
theorem ch240 : Chosen 240 := by intro kn; kernel_rfl
theorem ch241 : Chosen 241 := by intro kn; kernel_rfl
theorem ch242 : Chosen 242 := by intro kn; kernel_rfl
theorem ch243 : Chosen 243 := by intro kn; kernel_rfl
theorem ch244 : Chosen 244 := by intro kn; kernel_rfl
theorem ch245 : Chosen 245 := by intro kn; kernel_rfl
theorem ch246 : Chosen 246 := by intro kn; kernel_rfl
theorem ch247 : Chosen 247 := by intro kn; kernel_rfl
theorem ch248 : Chosen 248 := by intro kn; kernel_rfl
theorem ch249 : Chosen 249 := by intro kn; kernel_rfl
theorem ch250 : Chosen 250 := by intro kn; kernel_rfl
theorem ch251 : Chosen 251 := by intro kn; kernel_rfl
theorem ch252 : Chosen 252 := by intro kn; kernel_rfl
theorem ch253 : Chosen 253 := by intro kn; kernel_rfl
theorem ch254 : Chosen 254 := by intro kn; kernel_rfl
theorem ch255 : Chosen 255 := by intro kn; kernel_rfl
theorem cs0 : Alls Chosen [0, 1, 2, 3, 4, 5, 6, 7, 8, 9, 10, 11, 12, 13, 14, 15] := ⟨ch0, ch1, ch2, ch3, ch4, ch5, ch6, ch7, ch8, ch9, ch10, ch11, ch12, ch13, ch14, ch15, trivial⟩
theorem cs1 : Alls Chosen [16, 17, 18, 19, 20, 21, 22, 23, 24, 25, 26, 27, 28, 29, 30, 31] := ⟨ch16, ch17, ch18, ch19, ch20, ch21, ch22, ch23, ch24, ch25, ch26, ch27, ch28, ch29, ch30, ch31, trivial⟩
theorem cs2 : Alls Chosen [32, 33, 34, 35, 36, 37, 38, 39, 40, 41, 42, 43, 44, 45, 46, 47] := ⟨ch32, ch33, ch34, ch35, ch36, ch37, ch38, ch39, ch40, ch41, ch42, ch43, ch44, ch45, ch46, ch47, trivial⟩
theorem cs3 : Alls Chosen [48, 49, 50, 51, 52, 53, 54, 55, 56, 57, 58, 59, 60, 61, 62, 63] := ⟨ch48, ch49, ch50, ch51, ch52, ch53, ch54, ch55, ch56, ch57, ch58, ch59, ch60, ch61, ch62, ch63, trivial⟩
theorem cs4 : Alls Chosen [64, 65, 66, 67, 68, 69, 70, 71, 72, 73, 74, 75, 76, 77, 78, 79] := ⟨ch64, ch65, ch66, ch67, ch68, ch69, ch70, ch71, ch72, ch73, ch74, ch75, ch76, ch77, ch78, ch79, trivial⟩
theorem cs5 : Alls Chosen [80, 81, 82, 83, 84, 85, 86, 87, 88, 89, 90, 91, 92, 93, 94, 95] := ⟨ch80, ch81, ch82, ch83, ch84, ch85, ch86, ch87, ch88, ch89, ch90, ch91, ch92, ch93, ch94, ch95, trivial⟩
theorem cs6 : Alls Chosen [96, 97, 98, 99, 100, 101, 102, 103, 104, 105, 106, 107, 108, 109, 110, 111] := ⟨ch96, ch97, ch98, ch99, ch100, ch101, ch102, ch103, ch104, ch105, ch106, ch107, ch108, ch109, ch110, ch111, trivial⟩
theorem cs7 : Alls Chosen [112, 113, 114, 115, 116, 117, 118, 119, 120, 121, 122, 123, 124, 125, 126, 127] := ⟨ch112, ch113, ch114, ch115, ch116, ch117, ch118, ch119, ch120, ch121, ch122, ch123, ch124, ch125, ch126, ch127, trivial⟩
theorem cs8 : Alls Chosen [128, 129, 130, 131, 132, 133, 134, 135, 136, 137, 138, 139, 140, 141, 142, 143] := ⟨ch128, ch129, ch130, ch131, ch132, ch133, ch134, ch135, ch136, ch137, ch138, ch139, ch140, ch141, ch142, ch143, trivial⟩
theorem cs9 : Alls Chosen [144, 145, 146, 147, 148, 149, 150, 151, 152, 153, 154, 155, 156, 157, 158, 159] := ⟨ch144, ch145, ch146, ch147, ch148, ch149, ch150, ch151, ch152, ch153, ch154, ch155, ch156, ch157, ch158, ch159, trivial⟩
theorem cs10 : Alls Chosen [160, 161, 162, 163, 164, 165, 166, 167, 168, 169, 170, 171, 172, 173, 174, 175] := ⟨ch160, ch161, ch162, ch163, ch164, ch165, ch166, ch167, ch168, ch169, ch170, ch171, ch172, ch173, ch174, ch175, trivial⟩
theorem cs11 : Alls Chosen [176, 177, 178, 179, 180, 181, 182, 183, 184, 185, 186, 187, 188, 189, 190, 191] := ⟨ch176, ch177, ch178, ch179, ch180, ch181, ch182, ch183, ch184, ch185, ch186, ch187, ch188, ch189, ch190, ch191, trivial⟩
theorem cs12 : Alls Chosen [192, 193, 194, 195, 196, 197, 198, 199, 200, 201, 202, 203, 204, 205, 206, 207] := ⟨ch192, ch193, ch194, ch195, ch196, ch197, ch198, ch199, ch200, ch201, ch202, ch203, ch204, ch205, ch206, ch207, trivial⟩
theorem cs13 : Alls Chosen [208, 209, 210, 211, 212, 213, 214, 215, 216, 217, 218, 219, 220, 221, 222, 223] := ⟨ch208, ch209, ch210, ch211, ch212, ch213, ch214, ch215, ch216, ch217, ch218, ch219, ch220, ch221, ch222, ch223, trivial⟩
theorem cs14 : Alls Chosen [224, 225, 226, 227, 228, 229, 230, 231, 232, 233, 234, 235, 236, 237, 238, 239] := ⟨ch224, ch225, ch226, ch227, ch228, ch229, ch230, ch231, ch232, ch233, ch234, ch235, ch236, ch237, ch238, ch239, trivial⟩
theorem cs15 : Alls Chosen [240, 241, 242, 243, 244, 245, 246, 247, 248, 249, 250, 251, 252, 253, 254, 255] := ⟨ch240, ch241, ch242, ch243, ch244, ch245, ch246, ch247, ch248, ch249, ch250, ch251, ch252, ch253, ch254, ch255, trivial⟩
theorem chosen_all (n : Nat) (h : n < 256) : Chosen n := by
  have hb : n / 16 < 16 := by omega
  have hn : n = 16 * (n / 16) + n % 16 := by omega
  have hr : n % 16 < 16 := by omega
  generalize n / 16 = b at hb hn
  generalize n % 16 = r at hr hn
  subst hn
  match b, hb with
  | 0, _ => exact cs0.mem _ (by simp only [List.mem_cons, List.not_mem_nil, or_false]; omega)
  | 1, _ => exact cs1.mem _ (by simp only [List.mem_cons, List.not_mem_nil, or_false]; omega)
  | 2, _ => exact cs2.mem _ (by simp only [List.mem_cons, List.not_mem_nil, or_false]; omega)
  | 3, _ => exact cs3.mem _ (by simp only [List.mem_cons, List.not_mem_nil, or_false]; omega)
  | 4, _ => exact cs4.mem _ (by simp only [List.mem_cons, List.not_mem_nil, or_false]; omega)
  | 5, _ => exact cs5.mem _ (by simp only [List.mem_cons, List.not_mem_nil, or_false]; omega)
  | 6, _ => exact cs6.mem _ (by simp only [List.mem_cons, List.not_mem_nil, or_false]; omega)
  | 7, _ => exact cs7.mem _ (by simp only [List.mem_cons, List.not_mem_nil, or_false]; omega)
  | 8, _ => exact cs8.mem _ (by simp only [List.mem_cons, List.not_mem_nil, or_false]; omega)
  | 9, _ => exact cs9.mem _ (by simp only [List.mem_cons, List.not_mem_nil, or_false]; omega)
  | 10, _ => exact cs10.mem _ (by simp only [List.mem_cons, List.not_mem_nil, or_false]; omega)
  | 11, _ => exact cs11.mem _ (by simp only [List.mem_cons, List.not_mem_nil, or_false]; omega)
  | 12, _ => exact cs12.mem _ (by simp only [List.mem_cons, List.not_mem_nil, or_false]; omega)
  | 13, _ => exact cs13.mem _ (by simp only [List.mem_cons, List.not_mem_nil, or_false]; omega)
  | 14, _ => exact cs14.mem _ (by simp only [List.mem_cons, List.not_mem_nil, or_false]; omega)
  | 15, _ => exact cs15.mem _ (by simp only [List.mem_cons, List.not_mem_nil, or_false]; omega)
  | n + 16, h => omega
end Go.Ax

namespace Go.Ax
open Go.Proofs

theorem calls_of_run {P : Program} {ev : Ev} (hE : EvOk P ev) (hD : DrawOk P ev) {f : FuncId} {args : List V} {vs : Array Value} {θ : Th} {w : World} {h : Hp} {nx : A} {k : KC} (hk : (fnC P f).f ev args h nx k = true) (hm : MRx P θ h nx w) (hv : VRs θ args vs.toList) :
    Calls P f vs w fun e w' => ∃ θ' v cv h' nx', e = .returned cv ∧ k v h' nx' = true ∧ VR θ' v cv ∧ MRx P θ' h' nx' w' ∧ Fm θ (hget h) w θ' (hget h') w' := fun cs => by
  obtain ⟨_, hB⟩ := body_ok hE hD hk hm hv
  obtain ⟨θ', v, cv, h', nx', w', fr, g1, g2, g3, g4, g5, g6, g7, g8, g9, fn', g10, g11⟩ := hB .normal cs (.inl rfl)
  exact ⟨.returned cv, w', fr, ⟨θ', v, cv, h', nx', rfl, g1, g2, g3, g4⟩, g5, g9, g6, g7, g8, fn', by rw [g9]; exact g10, g11⟩

/-! ### the tables -/
theorem tabT_get (f : Nat → Nat) (m : Nat) : ∀ (l : List Nat) (t : PT V) (j : Nat),
    (List.rec (motive := fun _ => Nat → PT V → PT V) (fun _ t => t) (fun i _ ih n t => forceN (f i) fun x => PT.setK t i (.u .u64 (9223372036854775808 + x)) fun t => ih n t) l m t).get j = if j ∈ l then some (.u .u64 (9223372036854775808 + f j)) else t.get j
  | [], t, j => by simp
  | i :: l, t, j => by
    simp only [forceN_eq, PT.setK_eq]
    have := tabT_get f m l (t.set i (.u .u64 (9223372036854775808 + f i))) j
    simp only [forceN_eq, PT.setK_eq] at this
    rw [this, PT.get_set]
    by_cases h1 : j ∈ l
    · rw [if_pos h1, if_pos (List.mem_cons_of_mem _ h1)]
    · rw [if_neg h1]
      by_cases h2 : j = i
      · subst h2; rw [if_pos rfl, if_pos (List.mem_cons_self ..)]
      · rw [if_neg h2, if_neg (fun h => (List.mem_cons.1 h).elim h2 h1)]
def blank (i : Nat) : Nat := if i = 9 ∨ i = 10 ∨ i = 11 ∨ i = 12 ∨ i = 13 ∨ i = 32 then 1 else 0
theorem asciiT_get' (m : Nat) : ∀ (l : List Nat) (t : PT V) (j : Nat),
    (List.rec (motive := fun _ => Nat → PT V → PT V) (fun _ t => t) (fun i _ ih n t => PT.setK t i (.u .u8 (9223372036854775808 + (if i = 9 ∨ i = 10 ∨ i = 11 ∨ i = 12 ∨ i = 13 ∨ i = 32 then 1 else 0))) fun t => ih n t) l m t).get j = if j ∈ l then some (.u .u8 (9223372036854775808 + blank j)) else t.get j
  | [], t, j => by simp
  | i :: l, t, j => by
    simp only [PT.setK_eq]
    have := asciiT_get' m l (t.set i (.u .u8 (9223372036854775808 + blank i))) j
    simp only [PT.setK_eq] at this
    unfold blank at this
    rw [this, PT.get_set]
    unfold blank
    by_cases h1 : j ∈ l
    · rw [if_pos h1, if_pos (List.mem_cons_of_mem _ h1)]
    · rw [if_neg h1]
      by_cases h2 : j = i
      · subst h2; rw [if_pos rfl, if_pos (List.mem_cons_self ..)]
      · rw [if_neg h2, if_neg (fun h => (List.mem_cons.1 h).elim h2 h1)]

theorem nil_get (j : Nat) : (PT.nil : PT V).get j = none := by cases j <;> rfl
theorem pow_get (j : Nat) (v : V) (h : (tabT (fun i => 10 ^ i) 20).get j = some v) : j < 20 ∧ v = .u .u64 (9223372036854775808 + 10 ^ j) := by
  unfold tabT at h
  rw [tabT_get, nil_get] at h
  split at h
  · rename_i hj
    exact ⟨by simpa using hj, (Option.some.inj h).symm⟩
  · cases h
theorem ascii_get (j : Nat) (v : V) (h : asciiT.get j = some v) : j < 256 ∧ v = .u .u8 (9223372036854775808 + blank j) := by
  unfold asciiT at h
  rw [asciiT_get', nil_get] at h
  split at h
  · rename_i hj
    exact ⟨by simpa using hj, (Option.some.inj h).symm⟩
  · cases h

/-! ### the first memory -/
/-- what is known of the world at the start -/
structure Start (w : World) : Prop where
  pow : ∃ el fr, w.heap[0]? = some (.cells ((List.range 20).map fun i => Value.int .u64 ((10 ^ i : Nat) : Int)).toArray el fr)
  ascii : ∃ el fr, w.heap[1]? = some (.cells ((List.range 256).map fun i => Value.int .u8 ((blank i : Nat) : Int)).toArray el fr)
  max : ∃ c el fr m, w.heap[5]? = some (.cells c el fr) ∧ 0 < c.size ∧ c.getD 0 Go.undef = .int .i64 m

noncomputable def θ0 : Th := { ρ := fun x => if x.toNat < 9 then some x.toNat else none, κ := fun _ => 0, lim := 20, hκ := fun _ => Nat.zero_le _ }

theorem hp0_get (x : A) : hget hp0 x = none := by
  unfold hget hp0; rw [E16.sel_all, E16.sel_all, E16.sel_all, E16.sel_all]
theorem hp1_eq : hp1 = hset (hset (hset hp0 (A.ofNat 1) (some (.ro 256 asciiT))) (A.ofNat 5) (some .wild)) (A.ofNat 0) (some (.ro 20 (tabT (fun i => 10 ^ i) 20))) := by
  unfold hp1; simp only [hsetK_eq]; rfl
theorem hp1_get (x : A) : hget hp1 x = if x = A.ofNat 0 then some (.ro 20 (tabT (fun i => 10 ^ i) 20)) else if x = A.ofNat 5 then some .wild else if x = A.ofNat 1 then some (.ro 256 asciiT) else none := by
  rw [hp1_eq]; simp only [hget_hset, hp0_get]

theorem globals_size : Tryz.prog.globals.size = 9 := by kernel_rfl

theorem unb_nat' (n : Nat) : unb (9223372036854775808 + n) = n := by unfold unb B63; omega

theorem start_ok {w : World} (hs : Start w) : MRx Tryz.prog θ0 hp1 (A.ofNat 20) w := by
  have h20 : (A.ofNat 20).toNat = 20 := A.toNat_ofNat 20 (by decide)
  have h0 : (A.ofNat 0).toNat = 0 := A.toNat_ofNat 0 (by decide)
  have h1 : (A.ofNat 1).toNat = 1 := A.toNat_ofNat 1 (by decide)
  have h5 : (A.ofNat 5).toNat = 5 := A.toNat_ofNat 5 (by decide)
  refine ⟨fun x b r hx hr => ?_, fun x y b c r _ _ hr hr' => ?_, fun y hy => ?_, fun g hg => ?_, h20.symm, fun x b hx => ?_⟩
  · rw [hp1_get] at hx
    split at hx
    · rename_i e
      subst e
      obtain rfl := Option.some.inj hx
      have : r = 0 := by simp only [θ0, h0] at hr; simpa using hr.symm
      subst this
      obtain ⟨el, fr, hp⟩ := hs.pow
      refine ⟨_, hp, _, el, fr, rfl, ?_, by simp, fun j v hj => ?_⟩
      · intro v hv
        simp only [List.mem_map] at hv
        obtain ⟨i, _, rfl⟩ := hv
        rfl
      · obtain ⟨hj', rfl⟩ := pow_get j v hj
        refine ⟨hj', ?_⟩
        have e : (((List.range 20).map fun i => Value.int .u64 ((10 ^ i : Nat) : Int)).toArray).getD j Go.undef = .int .u64 ((10 ^ j : Nat) : Int) := by
          rw [Array.getD_eq_getD_getElem?]; simp [hj']
        rw [e, ← unb_nat' (10 ^ j)]
        exact VR.u _ _
    · split at hx
      · rename_i e
        subst e
        obtain rfl := Option.some.inj hx
        have : r = 5 := by simp only [θ0, h5] at hr; simpa using hr.symm
        subst this
        obtain ⟨c, el, fr, m, hp, hc, hm⟩ := hs.max
        exact ⟨_, hp, c, el, fr, m, rfl, hc, hm⟩
      · split at hx
        · rename_i e
          subst e
          obtain rfl := Option.some.inj hx
          have : r = 1 := by simp only [θ0, h1] at hr; simpa using hr.symm
          subst this
          obtain ⟨el, fr, hp⟩ := hs.ascii
          refine ⟨_, hp, _, el, fr, rfl, ?_, by simp, fun j v hj => ?_⟩
          · intro v hv
            simp only [List.mem_map] at hv
            obtain ⟨i, _, rfl⟩ := hv
            rfl
          · obtain ⟨hj', rfl⟩ := ascii_get j v hj
            refine ⟨hj', ?_⟩
            have e : (((List.range 256).map fun i => Value.int .u8 ((blank i : Nat) : Int)).toArray).getD j Go.undef = .int .u8 ((blank j : Nat) : Int) := by
              rw [Array.getD_eq_getD_getElem?]; simp [hj']
            rw [e, ← unb_nat' (blank j)]
            exact VR.u _ _
        · cases hx
  · simp only [θ0] at hr hr'
    split at hr <;> split at hr' <;> simp_all
    exact A.toNat_inj (by omega)
  · simp only [θ0]
    rw [if_neg (by omega)]
  · rw [globals_size] at hg
    have := A.toNat_ofNat g (by omega)
    simp only [θ0, this]
    rw [if_pos hg]
  · rw [hp1_get] at hx
    rw [h20]
    split at hx
    · rename_i e; rw [e, h0]; decide
    · split at hx
      · rename_i e; rw [e, h5]; decide
      · split at hx
        · rename_i e; rw [e, h1]; decide
        · cases hx

/-! ### the whole -/
def Checked3 (k : Nat) : Prop := ∀ a b c : V, check3 (chosen3 a b c k) ⟨mem2 k, A.ofNat 22, [], none⟩ = true

theorem example_calls (hC : ∀ k, k < 11 → Checked3 k) (n : Nat) (hn : n < 256) {w : World} (hs : Start w) :
    Calls Tryz.prog 3 #[.int .u8 n] w fun e w' => e = .returned (.bool true) ∧ w'.tape = w.tape ∧ w'.os = w.os ∧ w'.output = w.output ∧ w.heap.size ≤ w'.heap.size ∧ ∀ r, r < w.heap.size → w'.heap[r]? = w.heap[r]? := by
  have hk : (fnC Tryz.prog (3 : Nat)).f ev3 [u8 n] hp1 (A.ofNat 20) res3 = true := by
    rw [fn3_eq, laid3_ok, chosen_all n hn]
    exact hC (n % 11) (Nat.mod_lt _ (by decide)) _ _ _
  have hm := start_ok hs
  have hv : VRs θ0 [u8 n] (#[Value.int .u8 n]).toList := by
    refine .cons _ _ _ _ ?_ .nil
    have := VR.u (θ := θ0) .u8 (9223372036854775808 + n)
    rw [unb_nat'] at this
    exact this
  have hE : EvOk Tryz.prog ev3 := ev_ok _
  refine (calls_of_run hE (draw_ok hE) hk hm hv).mono ?_
  rintro e w' ⟨θ', v, cv, h', nx', rfl, hres, hvr, _, hf⟩
  have : cv = .bool true := by
    unfold res3 at hres
    cases hvr with
    | b x => cases x with | true => rfl | false => cases hres
    | _ => cases hres
  subst this
  refine ⟨rfl, hf.tape, hf.os, hf.out, hf.size, fun r hr => hf.same r hr fun x b hx _ => ?_⟩
  rw [hp1_get] at hx
  split at hx
  · obtain rfl := Option.some.inj hx; rfl
  · split at hx
    · obtain rfl := Option.some.inj hx; rfl
    · split at hx
      · obtain rfl := Option.some.inj hx; rfl
      · cases hx
end Go.Ax
