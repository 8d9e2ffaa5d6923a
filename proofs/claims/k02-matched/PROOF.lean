import PyProof.Rows.All
import Wide.All
import OpenK.AllK
import Wide.FinOn
import KE.KStateDown
import Lean
import HandS.ForMost
import HandS.ForExc
import HandS.More
import HandS.TryMany
import HandS.Walk
import HandS.IsInst
import HandS.Defaults
import HandS.Head0
import HandS.Head1
import HandS.Head2
import HandS.HeadEnd
import HandS.HeadHook1
import HandS.HeadHook2
import HandS.HeadHook3
import HandS.HeadHook4
import PySem.Challenge.RW_orderflow_k02_covers_matched
set_option Elab.async false
set_option linter.all false
set_option maxRecDepth 100000
set_option maxHeartbeats 0
namespace Of
open PySem PySem.Spec PyProof.Rows L2
/-! ### a written dict of text keys, whole -/
theorem kd_of {K : PySem.W.Frag} {w : World} {a : Addr} {ks : List Str} (h : He.dicW K a = some (He.keysIn w.params ks)) :
    ∃ es n, K.lookup a = some ⟨.type "dict", none, .dict es n, #[]⟩ ∧ PySem.W.KeysLit w.params es.toList ∧ es.toList.map He.keyOf = He.keysIn w.params ks ∧ (a == sysModules) = false := by
  obtain ⟨es, n, D⟩ := He.dicW_ok h
  refine ⟨es, n, D.at_, D.lit, ?_, D.low⟩
  unfold He.dicW at h
  rw [D.at_] at h
  have e2 : (match decide ((("dict" : String)) = "dict") && ((#[] : Array (Option Value)).isEmpty && !(a == sysModules)) with
    | true => some (es.toList.map He.keyOf)
    | false => none) = some (He.keysIn w.params ks) := h
  have e3 : (decide ((("dict" : String)) = "dict") && ((#[] : Array (Option Value)).isEmpty && !(a == sysModules))) = true := by
    rw [D.low]; rfl
  rw [e3] at e2
  exact Option.some.inj e2
/-! ### the text by places -/
def top (i : Nat) : Stmt := PySem.Challenge.pw_orderflow_k02_covers_matched.main.body.getD i (.Pass ⟨0, 0, 0, 0⟩)
abbrev sMatched : Stmt := top 1
abbrev sLCellAt : Stmt := top 3
abbrev sLWhole : Stmt := top 4
abbrev sLRowOf : Stmt := top 5
abbrev sLAheadWhole : Stmt := top 6
abbrev sLIsTriple : Stmt := top 7
abbrev sLMatchedWell : Stmt := top 8
abbrev sLaw : Stmt := top 9
def dMatched : He.DefD := ⟨("matched", none), "matched", "matched", defArgs sMatched, defBody sMatched, defScope sMatched, [], []⟩
def dLCellAt : He.DefD := ⟨("_law_cell_at", none), "_law_cell_at", "_law_cell_at", defArgs sLCellAt, defBody sLCellAt, defScope sLCellAt, [], []⟩
def dLWhole : He.DefD := ⟨("_law_whole", none), "_law_whole", "_law_whole", defArgs sLWhole, defBody sLWhole, defScope sLWhole, [], []⟩
def dLRowOf : He.DefD := ⟨("_law_row_of", none), "_law_row_of", "_law_row_of", defArgs sLRowOf, defBody sLRowOf, defScope sLRowOf, [], []⟩
def dLAheadWhole : He.DefD := ⟨("_law_ahead_whole", none), "_law_ahead_whole", "_law_ahead_whole", defArgs sLAheadWhole, defBody sLAheadWhole, defScope sLAheadWhole, [], []⟩
def dLIsTriple : He.DefD := ⟨("_law_is_triple", none), "_law_is_triple", "_law_is_triple", defArgs sLIsTriple, defBody sLIsTriple, defScope sLIsTriple, [], []⟩
def dLMatchedWell : He.DefD := ⟨("_law_matched_well", none), "_law_matched_well", "_law_matched_well", defArgs sLMatchedWell, defBody sLMatchedWell, defScope sLMatchedWell, [], []⟩
def dLaw : He.DefD := ⟨("law", none), "law", "law", defArgs sLaw, defBody sLaw, defScope sLaw, [], []⟩
def fn : List He.DefD := ([dMatched, dLCellAt, dLWhole, dLRowOf, dLAheadWhole, dLIsTriple, dLMatchedWell, dLaw] : List He.DefD)
def fa : List He.Fa := ([.glo "matched", .glo "_law_cell_at", .glo "_law_whole", .glo "_law_row_of", .glo "_law_ahead_whole", .glo "_law_is_triple", .glo "_law_matched_well", .glo "law", .free "bool", .free "int", .free "isinstance", .free "len"] : List He.Fa) ++ ([.free "list", .free "min", .free "range", .free "sum", .free "tuple"] : List He.Fa)
def ts : List He.Tab := []
def ex (_ : PySem.W.Frag) : Bool := true
abbrev R : PySem.W.OpenRow := PySem.W.OpenLaw.row PySem.Challenge.rw_orderflow_k02_covers_matched
abbrev qv : Program := PySem.W.view R.prog [9]
abbrev hk : PySem.W.Hook := He.hookX 5 fa fn ts [] ex
def ob (s : PySem.W.SharedT) : He.AlX := He.obsX 5 fa fn ts [] ex (HandSHeadRun.getT s)
theorem ob_eq (s : PySem.W.SharedT) : ob s = hk.obs s.abs := He.obsX_eq (HandSHeadRun.getT_eq s)
def names : List PySem.Str := (["matched", "_law_cell_at", "_law_whole", "_law_row_of", "_law_ahead_whole", "_law_is_triple", "_law_matched_well"] : List PySem.Str)
/-! ### what the walk asks of the text -/
def fdO (K : PySem.W.Frag) (p : Str × Option Str) : FuncData := match K.lookup (He.fAd K p) with
  | some ⟨_, _, .func fd, _⟩ => fd
  | _ => PySem.W.fnOf "" "" ⟨[], [], none, [], [], none, []⟩ [] default .none .none .none .none none .none .none
theorem fdO_of {K : PySem.W.Frag} {p : Str × Option Str} {x qual : Str} {params : Arguments} {body : List Stmt} {scope : Scope} {dvs : List V} {kws : List (Str × V)} {fd : FuncData} (F : FunD K x qual params body scope dvs kws (He.fAd K p) fd) :
    FunD K x qual params body scope dvs kws (He.fAd K p) (fdO K p) := by
  obtain ⟨oc, od, dV, kV, doc, pm, an, cdv, ct, osl, e, lk, _⟩ := F.ex
  have q : fdO K p = fd := by
    unfold fdO
    rw [lk]
  rw [q]
  exact F
theorem gi_ok {K : PySem.W.Frag} {h : Heap} {mg : Str → Option Value} (X : K.In h) (G : h.Ns mainGlobals mg) {x : Str} {i : Int} (c : (He.Fa.int x i).ok K = true) : ∃ u, mg x = some u ∧ RelV (.int i) u := by
  obtain ⟨t, h⟩ := He.int_ok X G c
  exact ⟨_, h, t, rfl⟩
theorem gs_ok {K : PySem.W.Frag} {h : Heap} {mg : Str → Option Value} (X : K.In h) (G : h.Ns mainGlobals mg) {x z : Str} (c : (He.Fa.str x z).ok K = true) : ∃ u, mg x = some u ∧ RelV (.str z) u := by
  obtain ⟨t, h⟩ := He.str_ok X G c
  exact ⟨_, h, t, rfl⟩
structure Tx (w : World) (K : PySem.W.Frag) (mg : Str → Option Value) : Prop where
  g_Matched : mg "matched" = some (.ref (He.ga K "matched"))
  g_LCellAt : mg "_law_cell_at" = some (.ref (He.ga K "_law_cell_at"))
  g_LWhole : mg "_law_whole" = some (.ref (He.ga K "_law_whole"))
  g_LRowOf : mg "_law_row_of" = some (.ref (He.ga K "_law_row_of"))
  g_LAheadWhole : mg "_law_ahead_whole" = some (.ref (He.ga K "_law_ahead_whole"))
  g_LIsTriple : mg "_law_is_triple" = some (.ref (He.ga K "_law_is_triple"))
  g_LMatchedWell : mg "_law_matched_well" = some (.ref (He.ga K "_law_matched_well"))
  g_Law : mg "law" = some (.ref (He.ga K "law"))
  b_bool : mg "bool" = none
  b_int : mg "int" = none
  b_isinstance : mg "isinstance" = none
  b_len : mg "len" = none
  b_list : mg "list" = none
  b_min : mg "min" = none
  b_range : mg "range" = none
  b_sum : mg "sum" = none
  b_tuple : mg "tuple" = none
  f_Matched : FunD K dMatched.name dMatched.qual dMatched.params dMatched.body dMatched.scope [] [] (He.fAd K dMatched.at_) (fdO K dMatched.at_)
  f_LCellAt : FunD K dLCellAt.name dLCellAt.qual dLCellAt.params dLCellAt.body dLCellAt.scope [] [] (He.fAd K dLCellAt.at_) (fdO K dLCellAt.at_)
  f_LWhole : FunD K dLWhole.name dLWhole.qual dLWhole.params dLWhole.body dLWhole.scope [] [] (He.fAd K dLWhole.at_) (fdO K dLWhole.at_)
  f_LRowOf : FunD K dLRowOf.name dLRowOf.qual dLRowOf.params dLRowOf.body dLRowOf.scope [] [] (He.fAd K dLRowOf.at_) (fdO K dLRowOf.at_)
  f_LAheadWhole : FunD K dLAheadWhole.name dLAheadWhole.qual dLAheadWhole.params dLAheadWhole.body dLAheadWhole.scope [] [] (He.fAd K dLAheadWhole.at_) (fdO K dLAheadWhole.at_)
  f_LIsTriple : FunD K dLIsTriple.name dLIsTriple.qual dLIsTriple.params dLIsTriple.body dLIsTriple.scope [] [] (He.fAd K dLIsTriple.at_) (fdO K dLIsTriple.at_)
  f_LMatchedWell : FunD K dLMatchedWell.name dLMatchedWell.qual dLMatchedWell.params dLMatchedWell.body dLMatchedWell.scope [] [] (He.fAd K dLMatchedWell.at_) (fdO K dLMatchedWell.at_)
  f_Law : FunD K dLaw.name dLaw.qual dLaw.params dLaw.body dLaw.scope [] [] (He.fAd K dLaw.at_) (fdO K dLaw.at_)
theorem tx_of {w : World} {K : PySem.W.Frag} {h : Heap} {mg : Str → Option Value} (X : K.In h) (G : h.Ns mainGlobals mg) (c : He.SaysX fa fn ts [] ex w h K) : Tx w K mg where
  g_Matched := He.glo_ok X G (c.t.d.fact 0 (f := .glo "matched") rfl)
  g_LCellAt := He.glo_ok X G (c.t.d.fact 1 (f := .glo "_law_cell_at") rfl)
  g_LWhole := He.glo_ok X G (c.t.d.fact 2 (f := .glo "_law_whole") rfl)
  g_LRowOf := He.glo_ok X G (c.t.d.fact 3 (f := .glo "_law_row_of") rfl)
  g_LAheadWhole := He.glo_ok X G (c.t.d.fact 4 (f := .glo "_law_ahead_whole") rfl)
  g_LIsTriple := He.glo_ok X G (c.t.d.fact 5 (f := .glo "_law_is_triple") rfl)
  g_LMatchedWell := He.glo_ok X G (c.t.d.fact 6 (f := .glo "_law_matched_well") rfl)
  g_Law := He.glo_ok X G (c.t.d.fact 7 (f := .glo "law") rfl)
  b_bool := He.free_ok X G (c.t.d.fact 8 (f := .free "bool") rfl)
  b_int := He.free_ok X G (c.t.d.fact 9 (f := .free "int") rfl)
  b_isinstance := He.free_ok X G (c.t.d.fact 10 (f := .free "isinstance") rfl)
  b_len := He.free_ok X G (c.t.d.fact 11 (f := .free "len") rfl)
  b_list := He.free_ok X G (c.t.d.fact 12 (f := .free "list") rfl)
  b_min := He.free_ok X G (c.t.d.fact 13 (f := .free "min") rfl)
  b_range := He.free_ok X G (c.t.d.fact 14 (f := .free "range") rfl)
  b_sum := He.free_ok X G (c.t.d.fact 15 (f := .free "sum") rfl)
  b_tuple := He.free_ok X G (c.t.d.fact 16 (f := .free "tuple") rfl)
  f_Matched := by
    obtain ⟨fd, F⟩ := c.t.d.def_ 0 (d := dMatched) rfl
    exact fdO_of F
  f_LCellAt := by
    obtain ⟨fd, F⟩ := c.t.d.def_ 1 (d := dLCellAt) rfl
    exact fdO_of F
  f_LWhole := by
    obtain ⟨fd, F⟩ := c.t.d.def_ 2 (d := dLWhole) rfl
    exact fdO_of F
  f_LRowOf := by
    obtain ⟨fd, F⟩ := c.t.d.def_ 3 (d := dLRowOf) rfl
    exact fdO_of F
  f_LAheadWhole := by
    obtain ⟨fd, F⟩ := c.t.d.def_ 4 (d := dLAheadWhole) rfl
    exact fdO_of F
  f_LIsTriple := by
    obtain ⟨fd, F⟩ := c.t.d.def_ 5 (d := dLIsTriple) rfl
    exact fdO_of F
  f_LMatchedWell := by
    obtain ⟨fd, F⟩ := c.t.d.def_ 6 (d := dLMatchedWell) rfl
    exact fdO_of F
  f_Law := by
    obtain ⟨fd, F⟩ := c.t.d.def_ 7 (d := dLaw) rfl
    exact fdO_of F
theorem room_any {k : Nat} {A : Around} (h : Room k A) : Room k A := h
/-! ### rules of our own over the layer -/
theorem pe_gc {X : Cx} {x : Str} {v : V} {pos : Pos} (hg : Gl X x) (hm : ∃ u, X.mg x = some u ∧ RelV v u) (hd : (x == ("__debug__" : Str)) = false := by decide) : PE X (.Name x pos) (tC v) := by
  obtain ⟨u, h, r⟩ := hm
  exact pe_glob hg h r hd
/-! ### readings from the left: one lemma a form -/
section
variable {σ : L2.St} {H : Hp} {Q : VK} {QB : Bool → Hp → Prop} {D : Ends} {K : PySem.W.Frag}
theorem r_seq {t u : TS} (h : t { D with nx := u D } σ H) : tSeq t u D σ H := h
/-- the ways behind a statement are joined: P holds behind it -/
theorem r_join {t u : TS} (P : L2.St → Hp → Prop) (h2 : ∀ σ' H', P σ' H' → u D σ' H') (h1 : ∀ N : L2.St → Hp → Prop, (∀ σ' H', P σ' H' → N σ' H') → t { D with nx := N } σ H) : tSeq t u D σ H := h1 (u D) h2
/-- a test, by what it tells -/
theorem r_ifj {c : TT} {t u : TS} (P : Bool → Hp → Prop) (h2 : ∀ b H', P b H' → if b = true then t D σ H' else u D σ H') (h1 : ∀ QB' : Bool → Hp → Prop, (∀ b H', P b H' → QB' b H') → c σ H QB') : tIfS c t u D σ H := h1 _ h2
theorem r_asg {te : TE} {i : Nat} (h : te σ H fun x H1 => D.nx (σ.set i (some x)) H1) : tAsg te (gName i) D σ H := h
theorem r_gn {i : Nat} {v : V} {R : L2.St → Hp → Prop} (h : R (σ.set i (some v)) H) : gName i v σ H R := h
theorem r_ret {te : TE} (h : te σ H D.rt) : tRet te D σ H := h
theorem r_retN (h : D.rt .non H) : tRetN D σ H := h
theorem r_drop {te : TE} (h : te σ H fun _ H1 => D.nx σ H1) : tDrop te D σ H := h
theorem r_ifs {c : TT} {t u : TS} (h : c σ H fun b H1 => if b = true then t D σ H1 else u D σ H1) : tIfS c t u D σ H := h
theorem r_next (h : D.nx σ H) : tNext D σ H := h
theorem r_var {i : Nat} {v : V} (e : σ[i]? = some (some v)) (h : Q v H) : tVar i σ H Q := ⟨v, e, h⟩
theorem r_c {v : V} (h : Q v H) : tC v σ H Q := h
theorem r_op {r : R2} {ta tb : TE} (h : ta σ H fun x H1 => tb σ H1 fun y H2 => r x y H2 Q) : tOp r ta tb σ H Q := h
theorem r_un {r : V → Hp → VK → Prop} {ta : TE} (h : ta σ H fun x H1 => r x H1 Q) : tUn r ta σ H Q := h
theorem r_U {g : Int → V} {i : Int} (h : Q (g i) H) : rU g (.int i) H Q := ⟨i, rfl, h⟩
theorem r_I0 {g : Int → Int → V} {i j : Int} (h : Q (g i j) H) : rI0 g (.int i) (.int j) H Q := ⟨i, j, rfl, rfl, h⟩
theorem r_I {C : Int → Int → Prop} {g : Int → Int → V} {i j : Int} (c : C i j) (h : Q (g i j) H) : rI C g (.int i) (.int j) H Q := ⟨i, j, rfl, rfl, c, h⟩
theorem r_eqI {i j : Int} (h : Q (.bl (decide (i = j))) H) : rEq (.int i) (.int j) H Q := by
  refine ⟨rfl, ?_⟩
  have e : decide (V.int i = V.int j) = decide (i = j) := by simp
  rw [e]
  exact h
theorem r_neI {i j : Int} (h : Q (.bl (!decide (i = j))) H) : rNe (.int i) (.int j) H Q := by
  refine ⟨rfl, ?_⟩
  have e : decide (V.int i = V.int j) = decide (i = j) := by simp
  rw [e]
  exact h
theorem r_eqS {i j : Str} (h : Q (.bl (decide (i = j))) H) : rEq (.str i) (.str j) H Q := by
  refine ⟨rfl, ?_⟩
  have e : decide (V.str i = V.str j) = decide (i = j) := by simp
  rw [e]
  exact h
theorem r_neS {i j : Str} (h : Q (.bl (!decide (i = j))) H) : rNe (.str i) (.str j) H Q := by
  refine ⟨rfl, ?_⟩
  have e : decide (V.str i = V.str j) = decide (i = j) := by simp
  rw [e]
  exact h
theorem r_test {t : TE} (h : t σ H fun x H1 => ∃ k, x = V.bl k ∧ QB k H1) : tTest t σ H QB := h
theorem r_tB {t : TE} (h : t σ H fun x H1 => ∃ k, x = V.bl k ∧ QB k H1) : tB t σ H QB := h
theorem r_exb {b : Bool} {P : Bool → Prop} (h : P b) : ∃ k, V.bl b = V.bl k ∧ P k := ⟨b, rfl, h⟩
theorem r_and {t u : TT} (h : t σ H fun c H1 => if c = true then u σ H1 QB else QB false H1) : tAnd t u σ H QB := h
theorem r_or {t u : TT} (h : t σ H fun c H1 => if c = true then QB true H1 else u σ H1 QB) : tOr t u σ H QB := h
theorem r_not {t : TT} (h : t σ H fun c H1 => QB (!c) H1) : tNot t σ H QB := h
theorem r_andV {ta tb : TE} (h : ta σ H fun x H1 => ∃ c, x = V.bl c ∧ if c = true then tb σ H1 Q else Q (.bl false) H1) : tAndV ta tb σ H Q := h
theorem r_orV {ta tb : TE} (h : ta σ H fun x H1 => ∃ c, x = V.bl c ∧ if c = true then Q (.bl true) H1 else tb σ H1 Q) : tOrV ta tb σ H Q := h
theorem r_notV {ta : TE} (h : ta σ H fun x H1 => ∃ c, x = V.bl c ∧ Q (.bl (!c)) H1) : tNotV ta σ H Q := h
theorem r_ifE {t : TT} {ta tb : TE} (h : t σ H fun c H1 => if c = true then ta σ H1 Q else tb σ H1 Q) : tIf t ta tb σ H Q := h
theorem r_nil {QA : List V → Hp → Prop} (h : QA [] H) : tNil σ H QA := h
theorem r_cons {te : TE} {ta : TA} {QA : List V → Hp → Prop} (h : te σ H fun x H1 => ta σ H1 fun xs H2 => QA (x :: xs) H2) : tCons te ta σ H QA := h
theorem r_cb {r : List V → Hp → VK → Prop} {t : TA} (h : t σ H fun vs H1 => r vs H1 Q) : tCB r t σ H Q := h
theorem r_tup {t : TA} (h : t σ H fun xs H1 => xs.length ≤ sizeLine ∧ ∀ p, H1 p = none → Q (.ref p) (upd H1 p (.tup xs))) : tTup t σ H Q := h
theorem r_lst {t : TA} (h : t σ H fun xs H1 => xs.length ≤ sizeLine ∧ ∀ p, H1 p = none → Q (.ref p) (upd H1 p (.lst xs))) : tLst t σ H Q := h
theorem r_mk {xs : List V} {P : Addr → Prop} (hl : xs.length ≤ 100) (h : ∀ p, P p) : xs.length ≤ sizeLine ∧ ∀ p, P p := ⟨Nat.le_trans hl (by rw [sizeLine_eq]; decide), h⟩
theorem r_call {sp : Sp} {E : XK} {t : TA} (h : t σ H fun vs H1 => sp (vs ++ []) H1 Q E) : tCall sp [] E t σ H Q := h
theorem r_callS {sp : Sp} {E : L2.St → XK} {t : TA} (h : t σ H fun vs H1 => sp vs H1 Q (E σ)) : tCallS sp E t σ H Q := h
theorem r_meth {C : Addr} {m : Str} {sp : Sp} {E : XK} {ta : TE} {t : TA} (h : ta σ H fun x H1 => ∃ a dx fs, x = V.ref a ∧ H1 a = some (.ins C dx fs) ∧ fs.lookup m = none ∧ t σ H1 fun vs H2 => sp (x :: (vs ++ [])) H2 Q E) :
    tMeth C m sp [] E ta t σ H Q := h
theorem r_m {C : Addr} {m : Str} {a dx : Addr} {fs : List (Str × V)} {P : Prop} (ho : H a = some (.ins C dx fs)) (hn : fs.lookup m = none) (h : P) : ∃ a' dx' fs', V.ref a = V.ref a' ∧ H a' = some (.ins C dx' fs') ∧ fs'.lookup m = none ∧ P :=
  ⟨a, dx, fs, rfl, ho, hn, h⟩
theorem r_fld {ta : TE} {f : Str} (h : ta σ H fun x H1 => ∃ a C dx fs v, x = V.ref a ∧ H1 a = some (.ins C dx fs) ∧ Cls K C ∧ NoAttr K C f ∧ fs.lookup f = some v ∧ Q v H1) : tFld K ta f σ H Q := h
theorem r_f {f : Str} {a C dx : Addr} {fs : List (Str × V)} {v : V} {P : V → Prop} (ho : H a = some (.ins C dx fs)) (hc : Cls K C) (hn : NoAttr K C f) (hl : fs.lookup f = some v) (h : P v) :
    ∃ a' C' dx' fs' v', V.ref a = V.ref a' ∧ H a' = some (.ins C' dx' fs') ∧ Cls K C' ∧ NoAttr K C' f ∧ fs'.lookup f = some v' ∧ P v' := ⟨a, C, dx, fs, v, rfl, ho, hc, hn, hl, h⟩
theorem r_sfld {ta tv : TE} {f : Str} (h : tv σ H fun y H1 => ta σ H1 fun x H2 => ∃ a C dx fs, x = V.ref a ∧ H2 a = some (.ins C dx fs) ∧ Cls K C ∧ NoAttr K C f ∧ fs.length < 1000 ∧ D.nx σ (upd H2 a (.ins C dx (putF f y fs)))) :
    sFld K ta tv f D σ H := h
theorem r_sf {f : Str} {y : V} {a C dx : Addr} {fs gs : List (Str × V)} {P : Hp → Prop} (ho : H a = some (.ins C dx fs)) (hc : Cls K C) (hn : NoAttr K C f) (hp : putF f y fs = gs) (hl : fs.length ≤ 20) (h : P (upd H a (.ins C dx gs))) :
    ∃ a' C' dx' fs', V.ref a = V.ref a' ∧ H a' = some (.ins C' dx' fs') ∧ Cls K C' ∧ NoAttr K C' f ∧ fs'.length < 1000 ∧ P (upd H a' (.ins C' dx' (putF f y fs'))) :=
  ⟨a, C, dx, fs, rfl, ho, hc, hn, Nat.lt_of_le_of_lt hl (by decide), by rw [hp]; exact h⟩
theorem r_ixT {a : Addr} {xs : List V} {i : Int} {v : V} (h : SqT K H a xs) (e : atI xs i = some v) (q : Q v H) : rIxT K (.ref a) (.int i) H Q := ⟨a, xs, i, v, rfl, rfl, h, e, q⟩
theorem r_ixL {a : Addr} {xs : List V} {i : Int} {v : V} (h : SqL K H a xs) (e : atI xs i = some v) (q : Q v H) : rIxL K (.ref a) (.int i) H Q := ⟨a, xs, i, v, rfl, rfl, h, e, q⟩
theorem r_chain {r r' : R2} {ta tb tc : TE} (h : ta σ H fun x H1 => tb σ H1 fun y H2 => r x y H2 fun z H3 => ∃ k, z = V.bl k ∧ (if k = true then tc σ H3 fun w H4 => r' y w H4 Q else Q (.bl false) H3)) : tChain r r' ta tb tc σ H Q := h
theorem r_itd {p : Prop} [Decidable p] {A B : Prop} (h1 : p → A) (h2 : ¬ p → B) : if decide p = true then A else B := by
  by_cases h : p
  · rw [decide_eq_true h, if_pos rfl]; exact h1 h
  · rw [decide_eq_false h, if_neg (by decide)]; exact h2 h
theorem r_itn {p : Prop} [Decidable p] {A B : Prop} (h1 : ¬ p → A) (h2 : p → B) : if (!decide p) = true then A else B := by
  by_cases h : p
  · rw [decide_eq_true h, if_neg (by decide)]; exact h2 h
  · rw [decide_eq_false h, if_pos (show (!false) = true from rfl)]; exact h1 h
theorem r_itb {b : Bool} {A B : Prop} (h1 : b = true → A) (h2 : b = false → B) : if b = true then A else B := by
  cases b with
  | true => rw [if_pos rfl]; exact h1 rfl
  | false => rw [if_neg (by decide)]; exact h2 rfl
theorem r_ity {p : Prop} [Decidable p] {A B : Prop} (hp : p) (h : A) : if decide p = true then A else B := by
  rw [decide_eq_true hp, if_pos rfl]; exact h
theorem r_itz {p : Prop} [Decidable p] {A B : Prop} (hp : ¬ p) (h : B) : if decide p = true then A else B := by
  rw [decide_eq_false hp, if_neg (by decide)]; exact h
theorem r_itT {A B : Prop} (h : A) : if true = true then A else B := h
theorem r_itF {A B : Prop} (h : B) : if false = true then A else B := by
  rw [if_neg (by decide)]; exact h
theorem r_itnT {A B : Prop} (h : B) : if (!true) = true then A else B := by
  rw [if_neg (by decide)]; exact h
theorem r_itnF {A B : Prop} (h : A) : if (!false) = true then A else B := by
  rw [if_pos (by decide)]; exact h
theorem r_make {C : Addr} {sp : Sp} {E : XK} {t : TA} (h : t σ H fun vs H1 => ∀ x dx, H1 x = none → H1 dx = none → dx ≠ x → sp (.ref x :: (vs ++ [])) (upd (upd H1 dx (.own x)) x (.ins C dx [])) (fun v H2 => v = .non ∧ Q (.ref x) H2) E) : tMake C sp [] E t σ H Q := h
theorem r_bm {T : String} {r : V → List V → Hp → VK → Prop} {to : TE} {t : TA} (h : to σ H fun x H1 => tyV K T x H1 ∧ t σ H1 fun xs H2 => r x xs H2 Q) : tBM K T r to t σ H Q := h
theorem r_tyL {p : Addr} {xs : List V} {P : Prop} (h : SqL K H p xs) (q : P) : tyV K "list" (.ref p) H ∧ P := ⟨.inl ⟨rfl, xs, h⟩, q⟩
theorem r_app {l : Addr} {xs : List V} {y : V} (h : H l = some (.lst xs)) (hz : xs.length < sizeLine) (q : Q .non (upd H l (.lst (xs ++ [y])))) : rAppend (.ref l) [y] H Q := ⟨l, xs, y, rfl, rfl, h, hz, q⟩
theorem r_yes (h : QB true H) : tYes σ H QB := h
theorem r_raise {cls : Value} {W : WX} (h : W cls none σ H) : (fun (_ : Ends) (σ : L2.St) (H : Hp) => (fun (_ : L2.St) (H : Hp) (Q : XK) => Q cls none H) σ H fun cls d H' => W cls d σ H') D σ H := h
end
theorem atI_get {α : Type} {xs : List α} {i : Int} {j : Nat} {v : α} (e : i = (j : Int)) (h : xs[j]? = some v) : atI xs i = some v := by
  subst e
  have hl : j < xs.length := (List.getElem?_eq_some_iff.mp h).1
  unfold atI ixN
  rw [if_pos (by omega), if_pos (by omega)]
  simpa using h
theorem lk_hit {a : Str} {v : V} {r : List (Str × V)} : List.lookup a ((a, v) :: r) = some v := by simp [List.lookup]
theorem lk_miss {a b : Str} {v : V} {r : List (Str × V)} (h : ¬ a = b) : List.lookup a ((b, v) :: r) = List.lookup a r := by
  have e : (a == b) = false := by simpa using h
  simp [List.lookup, e]
theorem pf_hit {a : Str} {v u : V} {r : List (Str × V)} : putF a v ((a, u) :: r) = (a, v) :: r := by
  show (if a = a then (a, v) :: r else _) = _
  rw [if_pos rfl]
theorem pf_miss {a b : Str} {v u : V} {r : List (Str × V)} (h : ¬ b = a) : putF a v ((b, u) :: r) = (b, u) :: putF a v r := by
  show (if b = a then _ else (b, u) :: putF a v r) = _
  rw [if_neg h]
theorem pf_nil {a : Str} {v : V} : putF a v [] = [(a, v)] := rfl
/-- all but S is as it was; tuples always -/
structure But (S : Addr → Prop) (H H' : Hp) : Prop where
  keep : ∀ a o, H a = some o → ¬ S a → H' a = some o
  tup : ∀ a xs, H a = some (.tup xs) → H' a = some (.tup xs)
theorem But.refl {S : Addr → Prop} {H : Hp} : But S H H := ⟨fun _ _ h _ => h, fun _ _ h => h⟩
theorem But.trans {S : Addr → Prop} {H H1 H2 : Hp} (a : But S H H1) (b : But S H1 H2) : But S H H2 := ⟨fun x o h n => b.keep x o (a.keep x o h n) n, fun x o h => b.tup x o (a.tup x o h)⟩
theorem But.of {S : Addr → Prop} {H H' : Hp} (h : Same H H') : But S H H' := ⟨fun x o e _ => h x o e, fun x o e => h x _ e⟩
theorem But.mono {S S' : Addr → Prop} {H H' : Hp} (h : But S H H') (m : ∀ a, S a → S' a) : But S' H H' := ⟨fun x o e n => h.keep x o e fun z => n (m x z), h.tup⟩
theorem But.ins {S : Addr → Prop} {H : Hp} {a C dx : Addr} {fs : List (Str × V)} {o : HO} (ha : H a = some (.ins C dx fs)) (h : S a) : But S H (L2.upd H a o) :=
  ⟨fun x u e n => by rw [upd_ne (fun z => n (by rw [z]; exact h))]; exact e, fun x u e => by rw [upd_ne (ne_of e ha (by intro q; cases q))]; exact e⟩
theorem But.lst {S : Addr → Prop} {H : Hp} {a : Addr} {xs : List V} {o : HO} (ha : H a = some (.lst xs)) (h : S a) : But S H (L2.upd H a o) :=
  ⟨fun x u e n => by rw [upd_ne (fun z => n (by rw [z]; exact h))]; exact e, fun x u e => by rw [upd_ne (ne_of e ha (by intro q; cases q))]; exact e⟩
theorem same_upd {H : Hp} {a : Addr} {o : HO} (h : H a = none) : Same H (L2.upd H a o) := fun x u e => by
  rw [upd_ne (ne_of_none e h)]; exact e
/-- a new address may change -/
theorem But.new {S : Addr → Prop} {H H1 : Hp} {a : Addr} {o : HO} (b : But S H H1) (h : H a = none) : But S H (L2.upd H1 a o) :=
  ⟨fun x u e n => by rw [upd_ne (ne_of_none e h)]; exact b.keep x u e n, fun x u e => by rw [upd_ne (ne_of_none e h)]; exact b.tup x u e⟩
theorem But.same {H H' : Hp} (h : But (fun _ => False) H H') : Same H H' := fun x o e => h.keep x o e id
theorem But.mut {S S' : Addr → Prop} {H H1 H2 : Hp} (b : But S H H1) (c : But S' H1 H2) (m : ∀ a, S' a → S a ∨ H a = none) : But S H H2 :=
  ⟨fun x u e n => c.keep x u (b.keep x u e n) fun z => (m x z).elim n fun q => (by rw [q] at e; cases e), fun x u e => c.tup x u (b.tup x u e)⟩
theorem sz5 {n : Nat} (h : n ≤ 100000) : n ≤ sizeLine := Nat.le_trans h (by rw [sizeLine_eq]; decide)
theorem sz5l {n : Nat} (h : n < 100000) : n < sizeLine := Nat.lt_of_lt_of_le h (by rw [sizeLine_eq]; decide)
/-! ### comprehensions -/
theorem wipe1 {σ : L2.St} {j : Nat} {x : V} : wipe ((wipe σ [j]).set j (some x)) [j] = wipe σ [j] := by
  show ((σ.set j none).set j (some x)).set j none = σ.set j none
  simp
theorem take_snoc {α : Type} : ∀ {l : List α} {i : Nat} {x : α}, l[i]? = some x → l.take (i + 1) = l.take i ++ [x]
  | [], i, x, h => by simp at h
  | a :: l, 0, x, h => by
    have e : a = x := Option.some.inj h
    subst e
    rfl
  | a :: l, i + 1, x, h => by
    have ih := take_snoc (l := l) (i := i) (x := x) h
    show a :: l.take (i + 1) = a :: l.take i ++ [x]
    rw [ih]
    rfl
/-- what a comprehension's walk asks -/
def Lcs (J : It) (g : TG) (tt : TT) (te : TE) (vs : List Nat) (σ : L2.St) (H1 : Hp) (Q : VK) : Prop := ∀ D, H1 D = none → ∃ W : Nat → Nat → Hp → Prop, (∃ m, W 0 m (L2.upd H1 D (.lst []))) ∧ ∀ i m H, W i m H →
  (J.stop i H ∧ Q (.ref D) H) ∨ (J.go i H ∧ ∃ Nx : Hp → Prop, (∀ H', Nx H' → ∃ m', m' < m ∧ W (i + 1) m' H') ∧ ∀ x H', J.yld i H x H' → g x (wipe σ vs) H' fun σ2 H2 => wipe σ2 vs = wipe σ vs ∧ tt σ2 H2 fun b H3 =>
    if b = true then te σ2 H3 fun y H4 => ∃ acc, H4 D = some (.lst acc) ∧ acc.length < sizeLine ∧ Nx (L2.upd H4 D (.lst (acc ++ [y]))) else Nx H3)
theorem r_lcl {K : PySem.W.Frag} {tl te : TE} {g : TG} {tt : TT} {vs : List Nat} {σ : L2.St} {H : Hp} {Q : VK} (h : tl σ H fun x H1 => ∃ a, x = V.ref a ∧ (∃ xs, SqL K H1 a xs) ∧ Lcs (Itl K a) g tt te vs σ H1 Q) : tLc (iList K tl) g tt te vs σ H Q := h
theorem r_lct {K : PySem.W.Frag} {tl te : TE} {g : TG} {tt : TT} {vs : List Nat} {σ : L2.St} {H : Hp} {Q : VK} (h : tl σ H fun x H1 => ∃ a, x = V.ref a ∧ (∃ xs, SqT K H1 a xs) ∧ Lcs (Itt K a) g tt te vs σ H1 Q) : tLc (iTup K tl) g tt te vs σ H Q := h
theorem r_lcr {ta : TA} {te : TE} {g : TG} {tt : TT} {vs : List Nat} {σ : L2.St} {H : Hp} {Q : VK} (h : ta σ H fun us H1 => ∃ j : Int, us = [V.int j] ∧ -(2 ^ 62) ≤ j ∧ j < 2 ^ 62 ∧ Lcs (Itr 0 j.toNat) g tt te vs σ H1 Q) : tLc (iRng1 ta) g tt te vs σ H Q := h
/-- a comprehension whose elements leave what stands: by the list of its values -/
theorem lcp_list {K : PySem.W.Frag} {te : TE} {j : Nat} {σ : L2.St} {H1 : Hp} {Q : VK} {a : Addr} {xs ys : List V} (hs : SqL K H1 a xs) (hl : ys.length = xs.length) (hz : xs.length ≤ 100000)
    (he : ∀ (i : Nat) (x y : V) (H' : Hp) (R : VK), xs[i]? = some x → ys[i]? = some y → Same H1 H' → (∀ H'', Same H' H'' → R y H'') → te ((wipe σ [j]).set j (some x)) H' R)
    (k : ∀ (D : Addr) (H' : Hp), H1 D = none → Same H1 H' → H' D = some (.lst ys) → Q (.ref D) H') : ∃ a', V.ref a = V.ref a' ∧ (∃ xs, SqL K H1 a' xs) ∧ Lcs (Itl K a') (gName j) tYes te [j] σ H1 Q := by
  refine ⟨a, rfl, ⟨xs, hs⟩, fun D hD => ?_⟩
  refine lc_list (K := K) (a := a) (xs := xs) (fun i H' => Same H1 H' ∧ H' D = some (.lst (ys.take i))) ⟨same_upd hD, upd_same⟩ (fun i H' _ p => p.1.seq hs) ?_ ?_
  · rintro i x H' hi ⟨s, e⟩
    have hi2 : i < ys.length := by rw [hl]; exact (List.getElem?_eq_some_iff.mp hi).1
    have ey : ys[i]? = some ys[i] := List.getElem?_eq_getElem hi2
    refine ⟨wipe1, r_yes (r_itT ?_)⟩
    refine he i x _ H' _ hi ey s fun H'' s2 => ⟨_, s2 _ _ e, ?_, ?_, ?_⟩
    · refine sz5l ?_
      rw [List.length_take]
      omega
    · exact fun b o q => by
        rw [upd_ne (ne_of_none q hD)]
        exact s2 _ _ (s _ _ q)
    · rw [upd_same, take_snoc ey]
  · rintro H' ⟨s, e⟩
    refine k D H' hD s ?_
    rw [e, List.take_of_length_le (by omega)]
/-- .. whose elements are told by a relation that leans on tuples alone -/
theorem lcp_rel {K : PySem.W.Frag} {te : TE} {j : Nat} {σ : L2.St} {H1 : Hp} {Q : VK} {a : Addr} {xs : List V} {α : Type} {R : Hp → V → α → Prop} {zs : List α} (hs : SqL K H1 a xs) (hl : zs.length = xs.length) (hz : xs.length ≤ 100000)
    (stab : ∀ H H' v z, R H v z → (∀ b ys, H b = some (.tup ys) → H' b = some (.tup ys)) → R H' v z)
    (he : ∀ (i : Nat) (x : V) (z : α) (H' : Hp) (W : VK), xs[i]? = some x → zs[i]? = some z → Same H1 H' → (∀ y H'', Same H' H'' → R H'' y z → W y H'') → te ((wipe σ [j]).set j (some x)) H' W)
    (k : ∀ (D : Addr) (H' : Hp) (acc : List V), H1 D = none → Same H1 H' → H' D = some (.lst acc) → Paired (R H') acc zs → Q (.ref D) H') : ∃ a', V.ref a = V.ref a' ∧ (∃ xs, SqL K H1 a' xs) ∧ Lcs (Itl K a') (gName j) tYes te [j] σ H1 Q := by
  refine ⟨a, rfl, ⟨xs, hs⟩, fun D hD => ?_⟩
  refine lc_list (K := K) (a := a) (xs := xs) (fun i H' => Same H1 H' ∧ ∃ acc, H' D = some (.lst acc) ∧ Paired (R H') acc (zs.take i)) ⟨same_upd hD, [], upd_same, .nil⟩ (fun i H' _ p => p.1.seq hs) ?_ ?_
  · rintro i x H' hi ⟨s, acc, e, pr⟩
    have hi1 : i < xs.length := (List.getElem?_eq_some_iff.mp hi).1
    have hi2 : i < zs.length := by rw [hl]; exact hi1
    have ez : zs[i]? = some zs[i] := List.getElem?_eq_getElem hi2
    refine ⟨wipe1, r_yes (r_itT ?_)⟩
    refine he i x _ H' _ hi ez s fun y H'' s2 r => ⟨acc, s2 _ _ e, ?_, ?_, acc ++ [y], upd_same, ?_⟩
    · have := pr.length
      rw [List.length_take] at this
      refine sz5l ?_
      omega
    · exact fun b o q => by
        rw [upd_ne (ne_of_none q hD)]
        exact s2 _ _ (s _ _ q)
    · have up : ∀ b ys, H'' b = some (.tup ys) → L2.upd H'' D (.lst (acc ++ [y])) b = some (.tup ys) := fun b ys q => by
        rw [upd_ne (ne_of q (s2 _ _ e) (by intro z; cases z))]
        exact q
      rw [take_snoc ez]
      exact Paired.snoc (Paired.mapP pr fun _ _ q => stab _ _ _ _ q fun b ys w => up b ys (s2 _ _ w)) (stab _ _ _ _ r up)
  · rintro H' ⟨s, acc, e, pr⟩
    rw [List.take_of_length_le (by omega)] at pr
    exact k D H' acc hD s e pr
/-- .. over a range -/
theorem lcp_range {te : TE} {j : Nat} {σ : L2.St} {H1 : Hp} {Q : VK} {n : Int} {ys : List V} (hl : ys.length = n.toNat) (hz : n ≤ 100000) (hn : -100000 ≤ n)
    (he : ∀ (i : Nat) (y : V) (H' : Hp) (R : VK), ys[i]? = some y → Same H1 H' → (∀ H'', Same H' H'' → R y H'') → te ((wipe σ [j]).set j (some (.int (i : Int)))) H' R)
    (k : ∀ (D : Addr) (H' : Hp), H1 D = none → Same H1 H' → H' D = some (.lst ys) → Q (.ref D) H') : ∃ m : Int, [V.int n] = [V.int m] ∧ -(2 ^ 62) ≤ m ∧ m < 2 ^ 62 ∧ Lcs (Itr 0 m.toNat) (gName j) tYes te [j] σ H1 Q := by
  refine ⟨n, rfl, by omega, by omega, fun D hD => ?_⟩
  refine lc_range (lo := 0) (n := n.toNat) (fun i H' => Same H1 H' ∧ H' D = some (.lst (ys.take i))) ⟨same_upd hD, upd_same⟩ ?_ ?_
  · rintro i H' hi ⟨s, e⟩
    have hi2 : i < ys.length := by rw [hl]; exact hi
    have ey : ys[i]? = some ys[i] := List.getElem?_eq_getElem hi2
    refine ⟨wipe1, r_yes (r_itT ?_)⟩
    rw [Int.zero_add]
    refine he i _ H' _ ey s fun H'' s2 => ⟨_, s2 _ _ e, ?_, ?_, ?_⟩
    · refine sz5l ?_
      rw [List.length_take]
      omega
    · exact fun b o q => by
        rw [upd_ne (ne_of_none q hD)]
        exact s2 _ _ (s _ _ q)
    · rw [upd_same, take_snoc ey]
  · rintro H' ⟨s, e⟩
    refine k D H' hD s ?_
    rw [e, List.take_of_length_le (by omega)]
/-! ### what a for's walk asks -/
def Fors (J : It) (g : TG) (tb : TS) (D : Ends) (σ : L2.St) (H1 : Hp) : Prop := ∃ W : Nat → Nat → L2.St → Hp → Prop, (∃ m, W 0 m σ H1) ∧ ∀ i m σ H, W i m σ H →
  (J.stop i H ∧ D.nx σ H) ∨ (J.go i H ∧ ∃ N : L2.St → Hp → Prop, (∀ σ' H', N σ' H' → ∃ m', m' < m ∧ W (i + 1) m' σ' H') ∧ ∀ x H', J.yld i H x H' → g x σ H' fun σ2 H2 => tb { D with nx := N, ct := N, bk := D.nx } σ2 H2)
theorem r_forl {K : PySem.W.Frag} {tl : TE} {g : TG} {tb : TS} {D : Ends} {σ : L2.St} {H : Hp} (h : tl σ H fun x H1 => ∃ a, x = V.ref a ∧ (∃ xs, SqL K H1 a xs) ∧ Fors (Itl K a) g tb D σ H1) : tFor (iList K tl) g tb D σ H := h
theorem r_fort {K : PySem.W.Frag} {tl : TE} {g : TG} {tb : TS} {D : Ends} {σ : L2.St} {H : Hp} (h : tl σ H fun x H1 => ∃ a, x = V.ref a ∧ (∃ xs, SqT K H1 a xs) ∧ Fors (Itt K a) g tb D σ H1) : tFor (iTup K tl) g tb D σ H := h
theorem r_fors {te : TE} {g : TG} {tb : TS} {D : Ends} {σ : L2.St} {H : Hp} (h : te σ H fun v H1 => ∃ x, v = V.str x ∧ Fors (Its x) g tb D σ H1) : tFor (iStr te) g tb D σ H := h
theorem r_forr {ta : TA} {g : TG} {tb : TS} {D : Ends} {σ : L2.St} {H : Hp} (h : ta σ H fun us H1 => ∃ j : Int, us = [V.int j] ∧ -(2 ^ 62) ≤ j ∧ j < 2 ^ 62 ∧ Fors (Itr 0 j.toNat) g tb D σ H1) : tFor (iRng1 ta) g tb D σ H := h
theorem r_forr2 {ta : TA} {g : TG} {tb : TS} {D : Ends} {σ : L2.St} {H : Hp} (h : ta σ H fun us H1 => ∃ i j : Int, us = [V.int i, V.int j] ∧ (-(2 ^ 62) ≤ i ∧ i < 2 ^ 62 ∧ -(2 ^ 62) ≤ j ∧ j < 2 ^ 62) ∧ Fors (Itr i (j - i).toNat) g tb D σ H1) : tFor (iRng2 ta) g tb D σ H := h
theorem pf_m {a b : Str} {v u : V} {r s : List (Str × V)} (h : ¬ b = a) (e : putF a v r = s) : putF a v ((b, u) :: r) = (b, u) :: s := by
  rw [pf_miss h, e]
theorem lk_m {a b : Str} {v u : V} {r : List (Str × V)} (h : ¬ a = b) (e : List.lookup a r = some u) : List.lookup a ((b, v) :: r) = some u := (lk_miss h).trans e
theorem lk_n {a b : Str} {v : V} {r : List (Str × V)} (h : ¬ a = b) (e : List.lookup a r = none) : List.lookup a ((b, v) :: r) = none := (lk_miss h).trans e
/-! ### the data of the program -/
structure Ln where
  item : Str
  ordered : Int
  cents : Int
  pack : Int
  sent : Int
  home : Int
  again : Int
  credited : Int
def lnF (l : Ln) : List (Str × V) := [("item", .str l.item), ("ordered", .int l.ordered), ("cents", .int l.cents), ("pack", .int l.pack), ("sent", .int l.sent), ("home", .int l.home), ("again", .int l.again), ("credited", .int l.credited)]
def odF (ll : Addr) (m : Int) (lm : Addr) : List (Str × V) := [("lines", .ref ll), ("money", .int m), ("marks", .ref lm)]
def bkF (e t : Addr) : List (Str × V) := [("each", .ref e), ("trail", .ref t)]
/-! ### a method that may raise, called in a try -/
def tMX (C : Addr) (m : Str) (sp : Sp) (E : L2.St → XK) (ta : TE) (t : TA) : TE := fun σ H Q => ta σ H fun x H1 => ∃ a dx fs, x = V.ref a ∧ H1 a = some (.ins C dx fs) ∧ fs.lookup m = none ∧ t σ H1 fun vs H2 => sp (x :: vs) H2 Q (E σ)
theorem pe_mX {X : Cx} {CX : CXT} {k : Nat} {f C : Addr} {fd : FuncData} {ps : List Str} {sp : Sp} {E : L2.St → XK} {m : Str} {pos apos : Pos} {e o : Expr} {es : List Expr} {ta : TE} {t : TA} {pl : Sem Bool}
    (ho : PE X o ta) (hc : Cls X.K C) (hm : Meth X.K C m f) (G : FnOk X.prog X.w X.K X.mg X.base CX k f fd ps sp) (room : Room k X.A) (bd : Binds X.K fd ps []) (pass : ∀ σ, PassesAt CX X σ (E σ)) (hargs : PA X (e :: es) t)
    (hstar : starEach (e :: es) X.env = (false, eval e X.env) :: starEach es X.env := by rfl) (hplain : (backTo pos (starEach es X.env)).any (·.1) = false := by rfl)
    (hform : eval (.Call (.Attribute o m apos) (e :: es) [] pos) X.env = (do let ov ← eval o X.env; standAt apos.atName; let (f, first) ← holding [ov] (getMethod ov m pl); callWith pos f first (backTo pos (starEach (e :: es) X.env)) (backToKw pos (keywordEach [] X.env))) := by rfl) :
    PE X (.Call (.Attribute o m apos) (e :: es) [] pos) (tMX C m sp E ta t) := by
  refine ⟨fun pins st σ H Q inv hq => ?_⟩
  refine PySem.W.methodCall_KW (pl := pl) (thn (ho.run pins st σ H _ inv hq) fun u st1 hu => ?_) hform
  obtain ⟨x, H1, inv1, rx, a, dx, fs, ex, ea, hl, q⟩ := hu
  subst ex
  obtain rfl : u = Value.ref a := rx
  refine getmeth_ok inv1 ea hc hm hl ?_
  refine PySem.W.callWith_K (first := [.ref a]) (h₀ := X.base) inv1.ok.mod.kin hm.kp (thn (hargs.run pos pins st1 σ H1 _ inv1 q) fun us st2 hv => ?_) hstar hplain
  obtain ⟨vs, H2, inv2, rv, q2⟩ := hv
  exact ⟨inv2.kIn, run_fnS (us := .ref a :: us) (vs := .ref a :: vs) G room bd (pass σ) inv2 (.cons rfl rv) q2⟩
theorem pe_mX0 {X : Cx} {CX : CXT} {k : Nat} {f C : Addr} {fd : FuncData} {ps : List Str} {sp : Sp} {E : L2.St → XK} {m : Str} {pos apos : Pos} {o : Expr} {ta : TE} {pl : Sem Bool}
    (ho : PE X o ta) (hc : Cls X.K C) (hm : Meth X.K C m f) (G : FnOk X.prog X.w X.K X.mg X.base CX k f fd ps sp) (room : Room k X.A) (bd : Binds X.K fd ps []) (pass : ∀ σ, PassesAt CX X σ (E σ))
    (hform : eval (.Call (.Attribute o m apos) [] [] pos) X.env = (do let ov ← eval o X.env; standAt apos.atName; let (f, first) ← holding [ov] (getMethod ov m pl); callWith pos f first (backTo pos (starEach [] X.env)) (backToKw pos (keywordEach [] X.env))) := by rfl) :
    PE X (.Call (.Attribute o m apos) [] [] pos) (tMX C m sp E ta tNil) := by
  refine ⟨fun pins st σ H Q inv hq => ?_⟩
  refine PySem.W.methodCall_KW (pl := pl) (thn (ho.run pins st σ H _ inv hq) fun u st1 hu => ?_) hform
  obtain ⟨x, H1, inv1, rx, a, dx, fs, ex, ea, hl, q⟩ := hu
  subst ex
  obtain rfl : u = Value.ref a := rx
  refine getmeth_ok inv1 ea hc hm hl ?_
  exact PySem.W.callWith_K0 (first := [.ref a]) inv1.kIn hm.kp (run_fnS (us := [.ref a]) (vs := [.ref a]) G room bd (pass σ) inv1 (.cons rfl .nil) q)
section
variable {σ : L2.St} {H : Hp} {Q : VK} {QB : Bool → Hp → Prop} {D : Ends} {K : PySem.W.Frag}
theorem r_mx {C : Addr} {m : Str} {sp : Sp} {E : L2.St → XK} {ta : TE} {t : TA} (h : ta σ H fun x H1 => ∃ a dx fs, x = V.ref a ∧ H1 a = some (.ins C dx fs) ∧ fs.lookup m = none ∧ t σ H1 fun vs H2 => sp (x :: vs) H2 Q (E σ)) : tMX C m sp E ta t σ H Q := h
/-! ### slices, stores, kinds -/
theorem r_sl {r : V → Option Int → Option Int → Hp → VK → Prop} {te : TE} {tl th : TO} (h : te σ H fun x H1 => tl σ H1 fun l H2 => th σ H2 fun u H3 => r x l u H3 Q) : tSl r te tl th σ H Q := h
theorem r_part {te : TE} {QO : Option Int → Hp → Prop} (h : te σ H fun x H1 => ∃ i, x = V.int i ∧ QO (some i) H1) : tPart te σ H QO := h
theorem r_nopart {QO : Option Int → Hp → Prop} (h : QO none H) : tNoPart σ H QO := h
theorem r_exi {i : Int} {P : Int → Prop} (h : P i) : ∃ j, V.int i = V.int j ∧ P j := ⟨i, rfl, h⟩
theorem r_sll {a : Addr} {xs : List V} {lo hi : Option Int} (hs : SqL K H a xs) (k : ∀ p, H p = none → Q (.ref p) (upd H p (.lst (cutV xs lo hi)))) : rSlL K (.ref a) lo hi H Q := ⟨a, xs, rfl, hs, k⟩
theorem r_asgS {te to ti : TE} (h : te σ H fun x H1 => to σ H1 fun o H2 => ti σ H2 fun i H3 => rSetL o i x H3 fun H4 => D.nx σ H4) : tAsg te (gSub to ti rSetL) D σ H := h
theorem r_setL {p : Addr} {xs : List V} {i : Int} {j : Nat} {v : V} {R : Hp → Prop} (h : H p = some (.lst xs)) (e : i = (j : Int)) (hj : j < xs.length) (q : R (upd H p (.lst (xs.set j v)))) : rSetL (.ref p) (.int i) v H R :=
  ⟨p, xs, i, j, rfl, rfl, h, by unfold ixN; rw [e, if_pos (by omega), if_pos (by omega)]; simp, q⟩
theorem r_isi {x : V} {t : Value} {n : String} {b : Bool} (ty : TyOf K H x t) (hk : PySem.W.kitOne K t (.type n) = some b) (q : Q (.bl b) H) : rIsi K [x, .ty n] H Q := ⟨x, .ty n, t, .type n, b, rfl, .ty n, .base ty, hk, q⟩
theorem r_is_int_int {i : Int} (q : Q (.bl true) H) : rIsi K [.int i, .ty "int"] H Q := r_isi (.int i) (kit_ty (by decide +kernel)) q
theorem r_is_int_bool {i : Int} (q : Q (.bl false) H) : rIsi K [.int i, .ty "bool"] H Q := r_isi (.int i) (kit_ty (by decide +kernel)) q
theorem r_is_int_str {i : Int} (q : Q (.bl false) H) : rIsi K [.int i, .ty "str"] H Q := r_isi (.int i) (kit_ty (by decide +kernel)) q
theorem r_is_str_str {i : Str} (q : Q (.bl true) H) : rIsi K [.str i, .ty "str"] H Q := r_isi (.str i) (kit_ty (by decide +kernel)) q
theorem r_is_str_int {i : Str} (q : Q (.bl false) H) : rIsi K [.str i, .ty "int"] H Q := r_isi (.str i) (kit_ty (by decide +kernel)) q
theorem r_is_str_list {i : Str} (q : Q (.bl false) H) : rIsi K [.str i, .ty "list"] H Q := r_isi (.str i) (kit_ty (by decide +kernel)) q
theorem r_is_lst_list {a : Addr} {xs : List V} (h : H a = some (.lst xs)) (q : Q (.bl true) H) : rIsi K [.ref a, .ty "list"] H Q := r_isi (.lst h) (kit_ty (by decide +kernel)) q
theorem r_is_lst_str {a : Addr} {xs : List V} (h : H a = some (.lst xs)) (q : Q (.bl false) H) : rIsi K [.ref a, .ty "str"] H Q := r_isi (.lst h) (kit_ty (by decide +kernel)) q
theorem r_is_tup_tuple {a : Addr} {xs : List V} (h : H a = some (.tup xs)) (q : Q (.bl true) H) : rIsi K [.ref a, .ty "tuple"] H Q := r_isi (.tup h) (kit_ty (by decide +kernel)) q
end
theorem cut_from {xs : List V} {k : Nat} : cutV xs (some (k : Int)) none = xs.drop k := by
  unfold cutV
  rw [HT.sIx_nat, HT.sIx_none]
  by_cases h : k ≤ xs.length
  · rw [Nat.min_eq_left h, List.take_of_length_le (by simp)]
  · rw [Nat.min_eq_right (by omega), List.drop_of_length_le (Nat.le_refl _), List.drop_of_length_le (by omega)]
    simp

/-! ### readings with the kernel's own name (in a comprehension's block) -/
section
variable {X : Cx} {K : PySem.W.Frag}
theorem ix_listK (e : X.K = K) : IxR X (rIxL K) := by subst e; exact ix_list
theorem ix_tupK (e : X.K = K) : IxR X (rIxT K) := by subst e; exact ix_tup
theorem op_eqDK (e : X.K = K) (hu : X.A.units + 64 < cLine) : OpR X (compareOp .Eq) (rEqD K) := by subst e; exact op_eqD hu
theorem op_neDK (e : X.K = K) (hu : X.A.units + 64 < cLine) : OpR X (compareOp .NotEq) (rNeD K) := by subst e; exact op_neD hu
theorem call_lenK (e : X.K = K) : CallR X (.builtin "len") (fun xs H Q => ∃ p ys, xs = [.ref p] ∧ (SqL K H p ys ∨ SqT K H p ys) ∧ Q (.int ys.length) H) := by subst e; exact call_len_seq
theorem call_listK (e : X.K = K) : CallR X (.type "list") (fun xs H Q => ∃ p ys, xs = [.ref p] ∧ (SqL K H p ys ∨ SqT K H p ys) ∧ ∀ l, H l = none → Q (.ref l) (upd H l (.lst ys))) := by subst e; exact call_list_of
theorem fldK {E : Expr} {ta : TE} {f : Str} (e : X.K = K) (h : PE X E (tFld X.K ta f)) : PE X E (tFld K ta f) := by subst e; exact h
theorem bmK {E : Expr} {T : String} {r : V → List V → Hp → VK → Prop} {to : TE} {t : TA} (e : X.K = K) (h : PE X E (tBM X.K T r to t)) : PE X E (tBM K T r to t) := by subst e; exact h
end
/-! ### data that is compared -/
def dOf : V → PyData
  | .non => .none
  | .bl b => .bool b
  | .int i => .int i
  | .str z => .str z
  | _ => .none
/-- an int, or a text -/
def Sc (v : V) : Prop := (∃ i, v = .int i) ∨ ∃ z, v = .str z ∧ PyData.strOk z = true
theorem Sc.int {i : Int} : Sc (.int i) := .inl ⟨i, rfl⟩
theorem Sc.dp {K : PySem.W.Frag} {H : Hp} {v : V} (h : Sc v) : Dp K H v (dOf v) := by
  rcases h with ⟨i, rfl⟩ | ⟨z, rfl, _⟩
  · exact .int i
  · exact .str z
theorem Sc.lay {v : V} (h : Sc v) : PyData.canLay0 (dOf v) = true ∧ PyData.depth (dOf v) = 0 := by
  rcases h with ⟨i, rfl⟩ | ⟨z, rfl, hz⟩
  · exact ⟨by simp only [dOf, PyData.canLay0], by simp only [dOf, PyData.depth]⟩
  · exact ⟨by simp only [dOf, PyData.canLay0]; exact hz, by simp only [dOf, PyData.depth]⟩
theorem Sc.eqv {v u : V} (h : Sc v) (g : Sc u) : PyData.eqv (dOf v) (dOf u) = decide (v = u) := by
  rcases h with ⟨i, rfl⟩ | ⟨z, rfl, _⟩ <;> rcases g with ⟨j, rfl⟩ | ⟨y, rfl, _⟩
  · simp [dOf, PyData.eqv, Bool.beq_eq_decide_eq]
  · simp [dOf, PyData.eqv]
  · simp [dOf, PyData.eqv]
  · simp [dOf, PyData.eqv, Bool.beq_eq_decide_eq]
def Scs (vs : List V) : Prop := ∀ v, v ∈ vs → Sc v
theorem Scs.nil : Scs [] := fun _ h => by cases h
theorem Scs.cons {v : V} {vs : List V} (h : Sc v) (g : Scs vs) : Scs (v :: vs) := fun u hu => by
  rcases List.mem_cons.mp hu with e | e
  · rw [e]; exact h
  · exact g u e
theorem Scs.dp {K : PySem.W.Frag} {H : Hp} : ∀ {vs : List V}, Scs vs → DpAll K H vs (vs.map dOf)
  | [], _ => .nil
  | v :: vs, h => .cons (h v List.mem_cons_self).dp (Scs.dp fun u hu => h u (List.mem_cons_of_mem _ hu))
theorem Scs.lay : ∀ {vs : List V}, Scs vs → PyData.canLayAll0 (vs.map dOf) = true ∧ PyData.depthAll (vs.map dOf) = 0
  | [], _ => ⟨by simp only [List.map_nil, PyData.canLayAll0], by simp only [List.map_nil, PyData.depthAll]⟩
  | v :: vs, h => by
    obtain ⟨a, b⟩ := (h v List.mem_cons_self).lay
    obtain ⟨c, d⟩ := Scs.lay (vs := vs) fun u hu => h u (List.mem_cons_of_mem _ hu)
    refine ⟨?_, ?_⟩
    · simp only [List.map_cons, PyData.canLayAll0, a, c, Bool.and_self]
    · simp only [List.map_cons, PyData.depthAll, b, d]; rfl
theorem Scs.eqv : ∀ {vs us : List V}, Scs vs → Scs us → PyData.eqvAll (vs.map dOf) (us.map dOf) = decide (vs = us)
  | [], [], _, _ => by simp [PyData.eqvAll]
  | [], u :: us, _, _ => by simp [PyData.eqvAll]
  | v :: vs, [], _, _ => by simp [PyData.eqvAll]
  | v :: vs, u :: us, h, g => by
    have ih := Scs.eqv (vs := vs) (us := us) (fun u hu => h u (List.mem_cons_of_mem _ hu)) fun u hu => g u (List.mem_cons_of_mem _ hu)
    simp only [List.map_cons, PyData.eqvAll, ih, (h v List.mem_cons_self).eqv (g u List.mem_cons_self)]
    simp
/-- a tuple of such -/
def dTup (r : List V) : PyData := .tuple (r.map dOf)
theorem dTup_dp {K : PySem.W.Frag} {H : Hp} {a : Addr} {r : List V} (h : SqT K H a r) (s : Scs r) : Dp K H (.ref a) (dTup r) := .tup h s.dp
theorem dTup_lay {r : List V} (s : Scs r) : PyData.canLay0 (dTup r) = true ∧ PyData.depth (dTup r) = 1 := by
  obtain ⟨a, b⟩ := s.lay
  exact ⟨by simp only [dTup, PyData.canLay0]; exact a, by simp only [dTup, PyData.depth, b]⟩
theorem dTup_shaped {r : List V} (s : Scs r) : SeqAt.shaped (dTup r) = true := by
  obtain ⟨a, b⟩ := dTup_lay s
  unfold SeqAt.shaped
  rw [a, b]
  rfl
theorem dTup_eqv {r q : List V} (s : Scs r) (t : Scs q) : PyData.eqv (dTup r) (dTup q) = decide (r = q) := by
  show PyData.eqv (.tuple _) (.tuple _) = _
  simp only [PyData.eqv]
  exact s.eqv t
/-- a list of such tuples -/
def dRows (rs : List (List V)) : PyData := .list (rs.map dTup)
def TupAt (H : Hp) (v : V) (r : List V) : Prop := ∃ t, v = .ref t ∧ H t = some (.tup r)
def Rws (rs : List (List V)) : Prop := ∀ r, r ∈ rs → Scs r
theorem dRows_all {K : PySem.W.Frag} {H : Hp} : ∀ {xs : List V} {rs : List (List V)}, Paired (TupAt H) xs rs → Rws rs → DpAll K H xs (rs.map dTup)
  | _, _, .nil, _ => .nil
  | _, _, .cons ⟨t, e, h⟩ r, s => by
    subst e
    exact .cons (dTup_dp (SqT.of h) (s _ List.mem_cons_self)) (dRows_all r fun q hq => s q (List.mem_cons_of_mem _ hq))
theorem dRows_dp {K : PySem.W.Frag} {H : Hp} {a : Addr} {xs : List V} {rs : List (List V)} (h : SqL K H a xs) (p : Paired (TupAt H) xs rs) (s : Rws rs) : Dp K H (.ref a) (dRows rs) := .lst h (dRows_all p s)
theorem dRows_lay0 : ∀ {rs : List (List V)}, Rws rs → PyData.canLayAll0 (rs.map dTup) = true ∧ PyData.depthAll (rs.map dTup) ≤ 1
  | [], _ => ⟨by simp only [List.map_nil, PyData.canLayAll0], by simp only [List.map_nil, PyData.depthAll]; omega⟩
  | r :: rs, h => by
    obtain ⟨a, b⟩ := dTup_lay (h r List.mem_cons_self)
    obtain ⟨c, d⟩ := dRows_lay0 (rs := rs) fun u hu => h u (List.mem_cons_of_mem _ hu)
    refine ⟨?_, ?_⟩
    · simp only [List.map_cons, PyData.canLayAll0, a, c, Bool.and_self]
    · simp only [List.map_cons, PyData.depthAll, b]; omega
theorem dRows_lay {rs : List (List V)} (s : Rws rs) : PyData.canLay0 (dRows rs) = true ∧ PyData.depth (dRows rs) ≤ 2 := by
  obtain ⟨a, b⟩ := dRows_lay0 s
  exact ⟨by simp only [dRows, PyData.canLay0]; exact a, by simp only [dRows, PyData.depth]; omega⟩
theorem dRows_shaped {rs : List (List V)} (s : Rws rs) : SeqAt.shaped (dRows rs) = true := by
  obtain ⟨a, b⟩ := dRows_lay s
  unfold SeqAt.shaped
  rw [a, decide_eq_true (by omega)]
  rfl
theorem dRows_eqv0 : ∀ {rs qs : List (List V)}, Rws rs → Rws qs → PyData.eqvAll (rs.map dTup) (qs.map dTup) = decide (rs = qs)
  | [], [], _, _ => by simp [PyData.eqvAll]
  | [], u :: us, _, _ => by simp [PyData.eqvAll]
  | v :: vs, [], _, _ => by simp [PyData.eqvAll]
  | v :: vs, u :: us, h, g => by
    have ih := dRows_eqv0 (rs := vs) (qs := us) (fun u hu => h u (List.mem_cons_of_mem _ hu)) fun u hu => g u (List.mem_cons_of_mem _ hu)
    simp only [List.map_cons, PyData.eqvAll, ih, dTup_eqv (h v List.mem_cons_self) (g u List.mem_cons_self)]
    simp
theorem dRows_eqv {rs qs : List (List V)} (s : Rws rs) (t : Rws qs) : PyData.eqv (dRows rs) (dRows qs) = decide (rs = qs) := by
  show PyData.eqv (.list _) (.list _) = _
  simp only [PyData.eqv]
  exact dRows_eqv0 s t
section
variable {H : Hp} {Q : VK} {K : PySem.W.Frag}
theorem r_neTT {a b : Addr} {r q : List V} (h : SqT K H a r) (g : SqT K H b q) (s : Scs r) (t : Scs q) (k : Q (.bl (!decide (r = q))) H) : rNeD K (.ref a) (.ref b) H Q :=
  ⟨_, _, dTup_dp h s, dTup_dp g t, dTup_shaped s, dTup_shaped t, by rw [dTup_eqv s t]; exact k⟩
theorem r_eqTT {a b : Addr} {r q : List V} (h : SqT K H a r) (g : SqT K H b q) (s : Scs r) (t : Scs q) (k : Q (.bl (decide (r = q))) H) : rEqD K (.ref a) (.ref b) H Q :=
  ⟨_, _, dTup_dp h s, dTup_dp g t, dTup_shaped s, dTup_shaped t, by rw [dTup_eqv s t]; exact k⟩
theorem r_neRR {a b : Addr} {xs ys : List V} {r q : List (List V)} (h : SqL K H a xs) (g : SqL K H b ys) (ph : Paired (TupAt H) xs r) (pg : Paired (TupAt H) ys q) (s : Rws r) (t : Rws q) (k : Q (.bl (!decide (r = q))) H) : rNeD K (.ref a) (.ref b) H Q :=
  ⟨_, _, dRows_dp h ph s, dRows_dp g pg t, dRows_shaped s, dRows_shaped t, by rw [dRows_eqv s t]; exact k⟩
theorem r_eqRR {a b : Addr} {xs ys : List V} {r q : List (List V)} (h : SqL K H a xs) (g : SqL K H b ys) (ph : Paired (TupAt H) xs r) (pg : Paired (TupAt H) ys q) (s : Rws r) (t : Rws q) (k : Q (.bl (decide (r = q))) H) : rEqD K (.ref a) (.ref b) H Q :=
  ⟨_, _, dRows_dp h ph s, dRows_dp g pg t, dRows_shaped s, dRows_shaped t, by rw [dRows_eqv s t]; exact k⟩
theorem sc_shaped {v : V} (s : Sc v) : SeqAt.shaped (dOf v) = true := by
  obtain ⟨a, b⟩ := s.lay
  unfold SeqAt.shaped
  rw [a, b]
  rfl
theorem r_neSS {x y : V} (s : Sc x) (t : Sc y) (k : Q (.bl (!decide (x = y))) H) : rNeD K x y H Q := ⟨_, _, s.dp, t.dp, sc_shaped s, sc_shaped t, by rw [s.eqv t]; exact k⟩
theorem r_eqSS {x y : V} (s : Sc x) (t : Sc y) (k : Q (.bl (decide (x = y))) H) : rEqD K x y H Q := ⟨_, _, s.dp, t.dp, sc_shaped s, sc_shaped t, by rw [s.eqv t]; exact k⟩
theorem r_neRS {a : Addr} {xs : List V} {r : List (List V)} {y : V} (h : SqL K H a xs) (ph : Paired (TupAt H) xs r) (s : Rws r) (t : Sc y) (k : Q (.bl true) H) : rNeD K (.ref a) y H Q :=
  ⟨_, _, dRows_dp h ph s, t.dp, dRows_shaped s, sc_shaped t, by
    have e : PyData.eqv (dRows r) (dOf y) = false := by
      rcases t with ⟨i, rfl⟩ | ⟨z, rfl, _⟩ <;> simp [dRows, dOf, PyData.eqv]
    rw [e]; exact k⟩
end

abbrev N_Matched : List Str := ["changes", "k", "debts", "covers", "found", "i", "j", "got", "used", "lacking", "left", "part"]
abbrev P_Matched : List Str := ["changes"]
theorem sc_Matched : FnScope N_Matched P_Matched (defScope sMatched) := ⟨rfl, rfl, rfl, by decide +kernel, rfl, by decide +kernel, by decide +kernel⟩
abbrev N_LCellAt : List Str := ["_law_script", "_law_k"]
abbrev P_LCellAt : List Str := ["_law_script", "_law_k"]
theorem sc_LCellAt : FnScope N_LCellAt P_LCellAt (defScope sLCellAt) := ⟨rfl, rfl, rfl, by decide +kernel, rfl, by decide +kernel, by decide +kernel⟩
abbrev N_LWhole : List Str := ["_law_found"]
abbrev P_LWhole : List Str := ["_law_found"]
theorem sc_LWhole : FnScope N_LWhole P_LWhole (defScope sLWhole) := ⟨rfl, rfl, rfl, by decide +kernel, rfl, by decide +kernel, by decide +kernel⟩
abbrev N_LRowOf : List Str := ["_law_script", "_law_cell", "_law_k"]
abbrev P_LRowOf : List Str := ["_law_script"]
theorem sc_LRowOf : FnScope N_LRowOf P_LRowOf (defScope sLRowOf) := ⟨rfl, rfl, rfl, by decide +kernel, rfl, by decide +kernel, by decide +kernel⟩
abbrev N_LAheadWhole : List Str := ["_law_row", "_law_parts", "_law_place", "_law_sign", "_law_k"]
abbrev P_LAheadWhole : List Str := ["_law_row", "_law_parts", "_law_place", "_law_sign"]
theorem sc_LAheadWhole : FnScope N_LAheadWhole P_LAheadWhole (defScope sLAheadWhole) := ⟨rfl, rfl, rfl, by decide +kernel, rfl, by decide +kernel, by decide +kernel⟩
abbrev N_LIsTriple : List Str := ["_law_row", "_law_one"]
abbrev P_LIsTriple : List Str := ["_law_row", "_law_one"]
theorem sc_LIsTriple : FnScope N_LIsTriple P_LIsTriple (defScope sLIsTriple) := ⟨rfl, rfl, rfl, by decide +kernel, rfl, by decide +kernel, by decide +kernel⟩
abbrev N_LMatchedWell : List Str := ["_law_row", "_law_found", "_law_cell", "_law_parts", "_law_last", "_law_one", "_law_cents", "_law_debts", "_law_covers"]
abbrev P_LMatchedWell : List Str := ["_law_row", "_law_found"]
theorem sc_LMatchedWell : FnScope N_LMatchedWell P_LMatchedWell (defScope sLMatchedWell) := ⟨rfl, rfl, rfl, by decide +kernel, rfl, by decide +kernel, by decide +kernel⟩
abbrev N_Law : List Str := ["_law_script", "_law_row", "_law_handed", "_law_found"]
abbrev P_Law : List Str := ["_law_script"]
theorem sc_Law : FnScope N_Law P_Law (defScope sLaw) := ⟨rfl, rfl, rfl, by decide +kernel, rfl, by decide +kernel, by decide +kernel⟩
theorem Tx.b_Matched {w : World} {K : PySem.W.Frag} {mg : Str → Option Value} (T : Tx w K mg) : Binds K (fdO K dMatched.at_) P_Matched [] := T.f_Matched.bindsN fun _ _ _ _ _ _ us hl => match us, hl with | [_], _ => rfl
theorem Tx.b_LCellAt {w : World} {K : PySem.W.Frag} {mg : Str → Option Value} (T : Tx w K mg) : Binds K (fdO K dLCellAt.at_) P_LCellAt [] := T.f_LCellAt.bindsN fun _ _ _ _ _ _ us hl => match us, hl with | [_, _], _ => rfl
theorem Tx.b_LWhole {w : World} {K : PySem.W.Frag} {mg : Str → Option Value} (T : Tx w K mg) : Binds K (fdO K dLWhole.at_) P_LWhole [] := T.f_LWhole.bindsN fun _ _ _ _ _ _ us hl => match us, hl with | [_], _ => rfl
theorem Tx.b_LRowOf {w : World} {K : PySem.W.Frag} {mg : Str → Option Value} (T : Tx w K mg) : Binds K (fdO K dLRowOf.at_) P_LRowOf [] := T.f_LRowOf.bindsN fun _ _ _ _ _ _ us hl => match us, hl with | [_], _ => rfl
theorem Tx.b_LAheadWhole {w : World} {K : PySem.W.Frag} {mg : Str → Option Value} (T : Tx w K mg) : Binds K (fdO K dLAheadWhole.at_) P_LAheadWhole [] := T.f_LAheadWhole.bindsN fun _ _ _ _ _ _ us hl => match us, hl with | [_, _, _, _], _ => rfl
theorem Tx.b_LIsTriple {w : World} {K : PySem.W.Frag} {mg : Str → Option Value} (T : Tx w K mg) : Binds K (fdO K dLIsTriple.at_) P_LIsTriple [] := T.f_LIsTriple.bindsN fun _ _ _ _ _ _ us hl => match us, hl with | [_, _], _ => rfl
theorem Tx.b_LMatchedWell {w : World} {K : PySem.W.Frag} {mg : Str → Option Value} (T : Tx w K mg) : Binds K (fdO K dLMatchedWell.at_) P_LMatchedWell [] := T.f_LMatchedWell.bindsN fun _ _ _ _ _ _ us hl => match us, hl with | [_, _], _ => rfl
theorem Tx.b_Law {w : World} {K : PySem.W.Frag} {mg : Str → Option Value} (T : Tx w K mg) : Binds K (fdO K dLaw.at_) P_Law [] := T.f_Law.bindsN fun _ _ _ _ _ _ us hl => match us, hl with | [_], _ => rfl
theorem runF (w : World) : HandSHeadRun.RunEq R qv hk ob 20000 names (w.withFollow "special-get-raises" false) := by
  intro os
  kernel_rfl
theorem runT (w : World) : HandSHeadRun.RunEq R qv hk ob 20000 names (w.withFollow "special-get-raises" true) := by
  intro os
  kernel_rfl
theorem run (w : World) : HandSHeadRun.RunEq R qv hk ob 20000 names w := PySem.W.byRow2 "special-get-raises" (P := fun w => HandSHeadRun.RunEq R qv hk ob 20000 names w) runF runT w
local macro_rules | `(tactic| walk_at "rd1") => `(tactic| with_reducible first
  | refine r_gn ?_ | refine r_seq ?_ | refine r_asg ?_ | refine r_ret ?_ | refine r_retN ?_ | refine r_drop ?_ | refine r_ifs ?_ | refine r_next ?_ | refine r_var rfl ?_ | refine r_c ?_ | refine r_op ?_ | refine r_un ?_
  | refine r_U ?_ | refine r_I0 ?_ | refine r_eqI ?_ | refine r_neI ?_ | refine r_eqS ?_ | refine r_neS ?_ | refine r_test ?_ | refine r_tB ?_ | refine r_exb ?_ | refine r_and ?_ | refine r_or ?_ | refine r_not ?_
  | refine r_andV ?_ | refine r_orV ?_ | refine r_notV ?_ | refine r_ifE ?_ | refine r_nil ?_ | refine r_cons ?_ | refine r_cb ?_ | refine r_tup ?_ | refine r_lst ?_ | refine r_call ?_ | refine r_callS ?_ | refine r_meth ?_ | refine r_fld ?_ | refine r_sfld ?_
  | refine r_lcl ?_ | refine r_lct ?_ | refine r_lcr ?_ | refine r_forl ?_ | refine r_fort ?_ | refine r_fors ?_ | refine r_forr ?_ | refine r_forr2 ?_
  | refine r_mx ?_ | refine r_sl ?_ | refine r_part ?_ | refine r_nopart ?_ | refine r_exi ?_ | refine r_asgS ?_ | refine r_is_int_int ?_ | refine r_is_int_bool ?_ | refine r_is_int_str ?_ | refine r_is_str_str ?_ | refine r_is_str_int ?_ | refine r_is_str_list ?_
  | refine r_make ?_ | refine r_bm ?_ | refine r_chain ?_ | refine r_itT ?_ | refine r_itF ?_ | refine r_itnT ?_ | refine r_itnF ?_)
local macro_rules | `(tactic| walk_at "rs1") => `(tactic| with_reducible first
  | refine r_gn ?_ | refine r_asg ?_ | refine r_ret ?_ | refine r_retN ?_ | refine r_drop ?_ | refine r_ifs ?_ | refine r_next ?_ | refine r_var rfl ?_ | refine r_c ?_ | refine r_op ?_ | refine r_un ?_
  | refine r_U ?_ | refine r_I0 ?_ | refine r_eqI ?_ | refine r_neI ?_ | refine r_eqS ?_ | refine r_neS ?_ | refine r_test ?_ | refine r_tB ?_ | refine r_exb ?_ | refine r_and ?_ | refine r_or ?_ | refine r_not ?_
  | refine r_andV ?_ | refine r_orV ?_ | refine r_notV ?_ | refine r_ifE ?_ | refine r_nil ?_ | refine r_cons ?_ | refine r_cb ?_ | refine r_tup ?_ | refine r_lst ?_ | refine r_call ?_ | refine r_callS ?_ | refine r_meth ?_ | refine r_fld ?_ | refine r_sfld ?_
  | refine r_lcl ?_ | refine r_lct ?_ | refine r_lcr ?_ | refine r_forl ?_ | refine r_fort ?_ | refine r_fors ?_ | refine r_forr ?_ | refine r_forr2 ?_
  | refine r_mx ?_ | refine r_sl ?_ | refine r_part ?_ | refine r_nopart ?_ | refine r_exi ?_ | refine r_asgS ?_ | refine r_is_int_int ?_ | refine r_is_int_bool ?_ | refine r_is_int_str ?_ | refine r_is_str_str ?_ | refine r_is_str_int ?_ | refine r_is_str_list ?_
  | refine r_make ?_ | refine r_bm ?_ | refine r_chain ?_ | refine r_itT ?_ | refine r_itF ?_ | refine r_itnT ?_ | refine r_itnF ?_)
local macro_rules | `(tactic| walk_at "rs") => `(tactic| repeat walk_at "rs1")
local macro_rules | `(tactic| walk_at "rd") => `(tactic| repeat walk_at "rd1")
local macro_rules | `(tactic| walk_at "pf") => `(tactic| repeat first | exact pf_nil | exact pf_hit | (apply pf_m; decide +kernel))
local macro_rules | `(tactic| walk_at "pos") => `(tactic| (first | (show (0 : Int) < _; decide) | exact ⟨by decide, by decide⟩ | omega))
local macro_rules | `(tactic| walk_at "md") => `(tactic| refine r_I (by walk_at "pos") ?_)
local macro_rules | `(tactic| walk_at "cell") => `(tactic| refine ⟨_, _, rfl, by assumption, by decide, fun _ => ?_⟩)
local macro_rules | `(tactic| walk_at "ml") => `(tactic| first | refine r_I (.inr ⟨by decide, by decide⟩) ?_ | refine r_I (.inl ⟨by decide, by decide⟩) ?_)
/-! ### covers matched with debts -/
theorem lcp_frange {tt : TT} {te : TE} {j : Nat} {σ : L2.St} {H1 : Hp} {Q : VK} {n : Nat} (p : Nat → Bool) (hz : n ≤ 100000)
    (ht : ∀ (i : Nat) (H' : Hp) (QB : Bool → Hp → Prop), i < n → Same H1 H' → QB (p i) H' → tt ((wipe σ [j]).set j (some (.int (i : Int)))) H' QB)
    (he : ∀ (i : Nat) (H' : Hp) (W : VK), i < n → Same H1 H' → W (.int (i : Int)) H' → te ((wipe σ [j]).set j (some (.int (i : Int)))) H' W)
    (k : ∀ (D : Addr) (H' : Hp), H1 D = none → Same H1 H' → H' D = some (.lst (((List.range n).filter p).map fun z : Nat => V.int (z : Int))) → Q (.ref D) H') :
    ∃ m : Int, [V.int (n : Int)] = [V.int m] ∧ -(2 ^ 62) ≤ m ∧ m < 2 ^ 62 ∧ Lcs (Itr 0 m.toNat) (gName j) tt te [j] σ H1 Q := by
  refine ⟨n, rfl, by omega, by omega, fun D hD => ?_⟩
  refine lc_range (lo := 0) (n := n) (fun i H' => Same H1 H' ∧ H' D = some (.lst (((List.range i).filter p).map fun z : Nat => V.int (z : Int)))) ⟨same_upd hD, upd_same⟩ ?_ ?_
  · rintro i H' hi ⟨s, e⟩
    refine ⟨wipe1, ?_⟩
    rw [Int.zero_add]
    refine ht i _ _ hi s ?_
    cases c : p i with
    | true =>
      rw [if_pos rfl]
      refine he i _ _ hi s ⟨_, e, ?_, ?_, ?_⟩
      · rw [List.length_map]
        have := List.length_filter_le p (List.range i)
        rw [List.length_range] at this
        refine sz5l ?_
        omega
      · exact fun b o q => by
          rw [upd_ne (ne_of_none q hD)]
          exact s _ _ q
      · rw [upd_same, List.range_succ, List.filter_append, List.map_append]
        simp [c]
    | false =>
      rw [if_neg (by decide)]
      refine ⟨s, ?_⟩
      rw [e, List.range_succ, List.filter_append]
      simp [c]
  · rintro H' ⟨s, e⟩
    exact k D H' hD s e
def lo (x y : Int) : Int := if y < x then y else x
def mt : List (Nat × Int) → List (Nat × Int) → List (Nat × Nat × Int)
  | (d, x) :: ds, (v, y) :: vs => (d, v, lo x y) :: mt (if lo x y = x then ds else (d, x - lo x y) :: ds) (if lo x y = y then vs else (v, y - lo x y) :: vs)
  | [], _ => []
  | _ :: _, [] => []
termination_by D V => D.length + V.length
decreasing_by
  have h : lo x y = x ∨ lo x y = y := by unfold lo; split <;> simp
  rcases h with h | h <;> (try split) <;> (try split) <;> first | contradiction | (simp only [List.length_cons]; omega)
theorem mt_cons {d v : Nat} {x y : Int} {ds vs : List (Nat × Int)} : mt ((d, x) :: ds) ((v, y) :: vs) = (d, v, lo x y) :: mt (if lo x y = x then ds else (d, x - lo x y) :: ds) (if lo x y = y then vs else (v, y - lo x y) :: vs) := by rw [mt]
theorem mt_nil {V : List (Nat × Int)} : mt [] V = [] := by rw [mt]
theorem mt_nil' {D : List (Nat × Int)} : mt D [] = [] := by
  cases D with
  | nil => exact mt_nil
  | cons a r => rw [mt]
def gOf (ns : List Int) (k : Nat) : Int := ns.getD k 0
def hOf (ns : List Int) (k : Nat) : Int := -(ns.getD k 0)
def debtsOf (ns : List Int) : List Nat := (List.range ns.length).filter fun k => decide (gOf ns k > 0)
def coversOf (ns : List Int) : List Nat := (List.range ns.length).filter fun k => decide (gOf ns k < 0)
def rem (g : Nat → Int) (l : List Nat) (got : Int) : List (Nat × Int) := match l with
  | [] => []
  | d :: ds => (d, g d - got) :: ds.map fun k => (k, g k)
theorem rem_0 {g : Nat → Int} {l : List Nat} : rem g l 0 = l.map fun k => (k, g k) := by
  cases l with
  | nil => rfl
  | cons d ds =>
    show (d, g d - 0) :: _ = _
    rw [Int.sub_zero]
    rfl
def matchedF (ns : List Int) : List (Nat × Nat × Int) := mt (rem (gOf ns) (debtsOf ns) 0) (rem (hOf ns) (coversOf ns) 0)
def tRow (t : Nat × Nat × Int) : List V := [.int t.1, .int t.2.1, .int t.2.2]
def spMatched (K : PySem.W.Frag) : Sp := fun vs H Q _ => ∃ (a : Addr) (ns : List Int), vs = [.ref a] ∧ SqL K H a (ns.map V.int) ∧ ns.length ≤ 10000 ∧
  ∀ r xs H', Same H H' → H r = none → H' r = some (.lst xs) → Paired (TupAt H') xs ((matchedF ns).map tRow) → (matchedF ns).length ≤ 2 * ns.length → Q (.ref r) H'
theorem len_Matched {K : PySem.W.Frag} {vs : List V} {H : Hp} {Q : VK} {E : XK} (h : spMatched K vs H Q E) : vs.length = 1 := by
  obtain ⟨_, _, rfl, _⟩ := h; rfl
theorem g_at {ns : List Int} {k : Nat} (h : k < ns.length) : (ns.map V.int)[k]? = some (.int (gOf ns k)) := by
  rw [List.getElem?_map, List.getElem?_eq_getElem h]
  show some (V.int _) = _
  unfold gOf
  rw [List.getD_eq_getElem?_getD, List.getElem?_eq_getElem h]
  rfl
theorem debt_lt {ns : List Int} {d : Nat} (h : d ∈ debtsOf ns) : d < ns.length ∧ gOf ns d > 0 := by
  unfold debtsOf at h
  obtain ⟨a, b⟩ := List.mem_filter.mp h
  exact ⟨List.mem_range.mp a, of_decide_eq_true b⟩
theorem cover_lt {ns : List Int} {d : Nat} (h : d ∈ coversOf ns) : d < ns.length ∧ gOf ns d < 0 := by
  unfold coversOf at h
  obtain ⟨a, b⟩ := List.mem_filter.mp h
  exact ⟨List.mem_range.mp a, of_decide_eq_true b⟩
theorem both_len {ns : List Int} : (debtsOf ns).length + (coversOf ns).length ≤ 2 * ns.length := by
  have a := List.length_filter_le (fun k => decide (gOf ns k > 0)) (List.range ns.length)
  have b := List.length_filter_le (fun k => decide (gOf ns k < 0)) (List.range ns.length)
  rw [List.length_range] at a b
  unfold debtsOf coversOf
  omega
def MW (c D1 V1 F1 : Addr) (ns : List Int) (H3 : Hp) (m : Nat) (σ : L2.St) (H' : Hp) : Prop := ∃ (i j : Nat) (got used : Int) (v9 v10 v11 : Option V) (xs : List V) (done : List (Nat × Nat × Int)),
  σ = [some (.ref c), none, some (.ref D1), some (.ref V1), some (.ref F1), some (.int (i : Int)), some (.int (j : Int)), some (.int got), some (.int used), v9, v10, v11] ∧ m = (debtsOf ns).length + (coversOf ns).length - i - j ∧
  i ≤ (debtsOf ns).length ∧ j ≤ (coversOf ns).length ∧ H' F1 = some (.lst xs) ∧ Paired (TupAt H') xs (done.map tRow) ∧
  matchedF ns = done ++ mt (rem (gOf ns) ((debtsOf ns).drop i) got) (rem (hOf ns) ((coversOf ns).drop j) used) ∧ done.length ≤ i + j ∧ But (· = F1) H3 H'
theorem drop_cons {l : List Nat} {i d : Nat} (h : l[i]? = some d) : l.drop i = d :: l.drop (i + 1) := by
  have hi := (List.getElem?_eq_some_iff.mp h).1
  rw [List.drop_eq_getElem_cons hi]
  have : l[i] = d := by
    rw [List.getElem?_eq_getElem hi] at h
    exact Option.some.inj h
  rw [this]
theorem rem_if {g : Nat → Int} {d : Nat} {ds : List Nat} {got p : Int} : (if p = g d - got then ds.map (fun k => (k, g k)) else (d, g d - got - p) :: ds.map (fun k => (k, g k))) = if p = g d - got then rem g ds 0 else rem g (d :: ds) (got + p) := by
  split
  · rw [rem_0]
  · show _ = (d, g d - (got + p)) :: _
    rw [show g d - got - p = g d - (got + p) by omega]
theorem ok_Matched {P : Program} {w : World} {K : PySem.W.Frag} {mg : Str → Option Value} {base : Heap} (T : Tx w K mg) : FnOk P w K mg base CX0 1 (He.fAd K dMatched.at_) (fdO K dMatched.at_) P_Matched (spMatched K) := by
  refine T.f_Matched.ok sc_Matched (fun vs H Q E h => len_Matched h) (fun cdv A outer s H vs Q E hr h => ⟨_, PSs.nox ((pss_cons (ps_setLc (i := 2) (own := [("k", 1)]) (g := gName 1) rfl sc_Matched.nd rfl rfl (sw_true rfl rfl rfl (by decide +kernel)) (pi_range1 (by rfl) T.b_range (pa_cons (pe_callB call_len_seq (by rfl) T.b_len (by decide +kernel) (pa_cons (pv 0) pa_nil)) pa_nil)) (blkOk_by (N := N_Matched) (sc := defScope sMatched) (by decide +kernel)) (fun _ _ _ _ _ => pg_name (i := 1) sc_Matched.nd rfl (Or.inl rfl)) (fun _ _ _ _ _ => (pts_one (pt_cmpR op_gt (pe_ix (ix_listK (K := K) rfl) (pv 0) (pv 1) (fun _ _ => rfl)) pe_int (nomark _)))) (fun _ _ _ _ _ => (pv 1)))
      (pss_cons (ps_setLc (i := 3) (own := [("k", 1)]) (g := gName 1) rfl sc_Matched.nd rfl rfl (sw_true rfl rfl rfl (by decide +kernel)) (pi_range1 (by rfl) T.b_range (pa_cons (pe_callB call_len_seq (by rfl) T.b_len (by decide +kernel) (pa_cons (pv 0) pa_nil)) pa_nil)) (blkOk_by (N := N_Matched) (sc := defScope sMatched) (by decide +kernel)) (fun _ _ _ _ _ => pg_name (i := 1) sc_Matched.nd rfl (Or.inl rfl)) (fun _ _ _ _ _ => (pts_one (pt_cmpR op_lt (pe_ix (ix_listK (K := K) rfl) (pv 0) (pv 1) (fun _ _ => rfl)) pe_int (nomark _)))) (fun _ _ _ _ _ => (pv 1)))
      (pss_cons (ps_set (i := 4) sc_Matched.nd rfl (Or.inl rfl) (pe_lst pa_nil))
      (pss_cons (ps_set (i := 5) sc_Matched.nd rfl (Or.inl rfl) pe_int)
      (pss_cons (ps_set (i := 6) sc_Matched.nd rfl (Or.inl rfl) pe_int)
      (pss_cons (ps_set (i := 7) sc_Matched.nd rfl (Or.inl rfl) pe_int)
      (pss_cons (ps_set (i := 8) sc_Matched.nd rfl (Or.inl rfl) pe_int)
      (pss_cons (ps_while PassesOwn.never (PW.pt (pw_and (pt_cmpR op_lt (pv 5) (pe_callB call_len_seq (by rfl) T.b_len (by decide +kernel) (pa_cons (pv 2) pa_nil)) (nomark _)) (pw_and1 (pt_cmpR op_lt (pv 6) (pe_callB call_len_seq (by rfl) T.b_len (by decide +kernel) (pa_cons (pv 3) pa_nil)) (nomark _))))) (pss_cons (ps_set (i := 9) sc_Matched.nd rfl (Or.inl rfl) (pe_op op_sub (pe_ix ix_list (pv 0) (pe_ix ix_list (pv 2) (pv 5) (fun _ _ => rfl)) (fun _ _ => rfl)) (pv 7)))
      (pss_cons (ps_set (i := 10) sc_Matched.nd rfl (Or.inl rfl) (pe_op op_sub (pe_un un_neg (pe_ix ix_list (pv 0) (pe_ix ix_list (pv 3) (pv 6) (fun _ _ => rfl)) (fun _ _ => rfl))) (pv 8)))
      (pss_cons (ps_set (i := 11) sc_Matched.nd rfl (Or.inl rfl) (pe_callB (call_min2 rfl) (by rfl) T.b_min (by decide +kernel) (pa_cons (pv 9) (pa_cons (pv 10) pa_nil))))
      (pss_cons (ps_expr (pe_bm PySem.F.plainAttrs_list PySem.F.slot_list_append PySem.F.type_list_append mt_append (pv 4) (pa_cons (pe_tup (pa_cons (pe_ix ix_list (pv 2) (pv 5) (fun _ _ => rfl)) (pa_cons (pe_ix ix_list (pv 3) (pv 6) (fun _ _ => rfl)) (pa_cons (pv 11) pa_nil)))) pa_nil)))
      (pss_cons (ps_set (i := 7) sc_Matched.nd rfl (Or.inl rfl) (pe_op op_add (pv 7) (pv 11)))
      (pss_cons (ps_set (i := 8) sc_Matched.nd rfl (Or.inl rfl) (pe_op op_add (pv 8) (pv 11)))
      (pss_cons (ps_if (pt_cmpR op_eq (pv 11) (pv 9) (nomark _)) (pss_cons (ps_set (i := 5) sc_Matched.nd rfl (Or.inl rfl) (pe_op op_add (pv 5) pe_int))
      (pss_one (ps_set (i := 7) sc_Matched.nd rfl (Or.inl rfl) pe_int))) pss_nil)
      (pss_one (ps_if (pt_cmpR op_eq (pv 11) (pv 10) (nomark _)) (pss_cons (ps_set (i := 6) sc_Matched.nd rfl (Or.inl rfl) (pe_op op_add (pv 6) pe_int))
      (pss_one (ps_set (i := 8) sc_Matched.nd rfl (Or.inl rfl) pe_int))) pss_nil))))))))))
      (pss_one (ps_ret (pv 4)))))))))))), ?_⟩)
  obtain ⟨c, ns, rfl, hc, hz, k⟩ := h
  walk_at "rd"
  refine ⟨c, _, rfl, .inl hc, ?_⟩
  rw [List.length_map]
  refine lcp_frange (fun z => decide (gOf ns z > 0)) (by omega) (fun i H' QB hi s q => ?_) (fun i H' W hi s q => ?_) fun D1 H1 hD1 s1 eD1 => ?_
  · walk_at "rd"
    refine r_ixL (s.seq hc) (atI_get rfl (g_at hi)) ?_
    walk_at "rd"
    exact q
  · walk_at "rd"
    exact q
  walk_at "rd"
  refine ⟨c, _, rfl, .inl (s1.seq hc), ?_⟩
  rw [List.length_map]
  refine lcp_frange (fun z => decide (gOf ns z < 0)) (by omega) (fun i H' QB hi s q => ?_) (fun i H' W hi s q => ?_) fun V1 H2 hV1 s2 eV1 => ?_
  · walk_at "rd"
    refine r_ixL (s.seq (s1.seq hc)) (atI_get rfl (g_at hi)) ?_
    walk_at "rd"
    exact q
  · walk_at "rd"
    exact q
  walk_at "rd"
  refine r_mk (by simp) fun F1 hF1 => ?_
  have s3 := same_upd (o := .lst []) hF1
  have eF : upd H2 F1 (.lst []) F1 = some (.lst []) := upd_same
  have nF : H F1 = none := Same.free s1 (Same.free s2 hF1)
  have dF : D1 ≠ F1 := ne_of_none (s2 _ _ eD1) hF1
  have vF : V1 ≠ F1 := ne_of_none eV1 hF1
  have eD3 := s3 _ _ (s2 _ _ eD1)
  have eV3 := s3 _ _ eV1
  have s03 := (s1.trans s2).trans s3
  revert s03 eF eD3 eV3
  generalize upd H2 F1 (.lst []) = H3
  intro eF eD3 eV3 s03
  have eD3' : H3 D1 = some (.lst ((debtsOf ns).map fun z : Nat => V.int (z : Int))) := eD3
  have eV3' : H3 V1 = some (.lst ((coversOf ns).map fun z : Nat => V.int (z : Int))) := eV3
  have fin : ∀ H' : Hp, But (· = F1) H3 H' → Same H H' := fun H' b x o e => b.keep _ _ (s03 _ _ e) (ne_of_none e nF)
  walk_at "rd"
  refine ⟨MW c D1 V1 F1 ns H3, ⟨_, 0, 0, 0, 0, none, none, none, [], [], rfl, rfl, Nat.zero_le _, Nat.zero_le _, eF, .nil, rfl, Nat.le_refl _, But.refl⟩, ?_⟩
  rintro m σ H4 ⟨i, j, got, used, v9, v10, v11, xs, done, rfl, rfl, hi, hj, eF4, pF4, em, dl, b4⟩
  have eD4 := b4.keep _ _ eD3' dF
  have eV4 := b4.keep _ _ eV3' vF
  have hc4 : SqL K H4 c (ns.map V.int) := (fin H4 b4).seq hc
  have bl := both_len (ns := ns)
  have stop : (i = (debtsOf ns).length ∨ j = (coversOf ns).length) → Q (.ref F1) H4 := fun z => by
    have e0 : mt (rem (gOf ns) ((debtsOf ns).drop i) got) (rem (hOf ns) ((coversOf ns).drop j) used) = [] := by
      rcases z with z | z
      · rw [z, List.drop_length]; exact mt_nil
      · rw [z, List.drop_length]; exact mt_nil'
    rw [e0, List.append_nil] at em
    refine k F1 xs H4 (fin H4 b4) nF eF4 ?_ ?_
    · rw [em]; exact pF4
    · rw [em]; omega
  walk_at "rd"
  refine ⟨D1, _, rfl, .inl (SqL.of eD4), ?_⟩
  walk_at "rd"
  rw [List.length_map]
  refine r_itd (fun c1 => ?_) (fun c1 => ?_)
  rotate_left
  · walk_at "rd"
    exact stop (.inl (by omega))
  walk_at "rd"
  refine ⟨V1, _, rfl, .inl (SqL.of eV4), ?_⟩
  walk_at "rd"
  rw [List.length_map]
  refine r_itd (fun c2 => ?_) (fun c2 => ?_)
  rotate_left
  · walk_at "rd"
    exact stop (.inr (by omega))
  refine ⟨fun σ' H' => ∃ m', m' < (debtsOf ns).length + (coversOf ns).length - i - j ∧ MW c D1 V1 F1 ns H3 m' σ' H', fun _ _ z => z, ?_⟩
  have hi2 : i < (debtsOf ns).length := by omega
  have hj2 : j < (coversOf ns).length := by omega
  obtain ⟨d, ed⟩ : ∃ d, (debtsOf ns)[i]? = some d := ⟨_, List.getElem?_eq_getElem hi2⟩
  obtain ⟨v, ev⟩ : ∃ v, (coversOf ns)[j]? = some v := ⟨_, List.getElem?_eq_getElem hj2⟩
  have hd := (debt_lt (List.mem_of_getElem? ed)).1
  have hv := (cover_lt (List.mem_of_getElem? ev)).1
  have gd : ((debtsOf ns).map fun z : Nat => V.int (z : Int))[i]? = some (.int (d : Int)) := by rw [List.getElem?_map, ed]; rfl
  have gv : ((coversOf ns).map fun z : Nat => V.int (z : Int))[j]? = some (.int (v : Int)) := by rw [List.getElem?_map, ev]; rfl
  walk_at "rd"
  refine r_ixL (SqL.of eD4) (atI_get rfl gd) ?_
  refine r_ixL hc4 (atI_get rfl (g_at hd)) ?_
  walk_at "rd"
  refine r_ixL (SqL.of eV4) (atI_get rfl gv) ?_
  refine r_ixL hc4 (atI_get rfl (g_at hv)) ?_
  walk_at "rd"
  refine ⟨_, _, rfl, ?_⟩
  walk_at "rd"
  refine r_tyL (SqL.of eF4) ?_
  walk_at "rd"
  refine r_ixL (SqL.of eD4) (atI_get rfl gd) ?_
  walk_at "rd"
  refine r_ixL (SqL.of eV4) (atI_get rfl gv) ?_
  walk_at "rd"
  refine r_mk (by simp) fun t ht => ?_
  obtain ⟨x, ex⟩ : ∃ x, x = gOf ns d - got := ⟨_, rfl⟩
  obtain ⟨y, ey⟩ : ∃ y, y = hOf ns v - used := ⟨_, rfl⟩
  have ey' : -gOf ns v - used = y := ey.symm
  rw [← ex, ey']
  change tNil _ (upd H4 t (.tup [.int (d : Int), .int (v : Int), .int (lo x y)])) _
  have s5 := same_upd (o := .tup [.int (d : Int), .int (v : Int), .int (lo x y)]) ht
  walk_at "rd"
  refine r_app (s5 _ _ eF4) (by rw [pF4.length, List.length_map]; refine sz5l ?_; omega) ?_
  have b6 := (But.of (S := (· = F1)) s5).trans (But.lst (o := .lst (xs ++ [.ref t])) (s5 _ _ eF4) rfl)
  have tF : t ≠ F1 := fun z => by rw [z, eF4] at ht; cases ht
  have e6 : upd (upd H4 t (.tup [.int (d : Int), .int (v : Int), .int (lo x y)])) F1 (.lst (xs ++ [.ref t])) F1 = some (.lst (xs ++ [.ref t])) := upd_same
  have p6 : Paired (TupAt (upd (upd H4 t (.tup [.int (d : Int), .int (v : Int), .int (lo x y)])) F1 (.lst (xs ++ [.ref t])))) (xs ++ [.ref t]) ((done ++ [(d, v, lo x y)]).map tRow) := by
    rw [List.map_append]
    exact Paired.snoc (Paired.mapP pF4 fun _ _ ⟨t, e, q⟩ => ⟨t, e, b6.tup _ _ q⟩) ⟨t, rfl, by rw [upd_ne tF]; exact upd_same⟩
  have em6 : matchedF ns = (done ++ [(d, v, lo x y)]) ++ mt (if lo x y = x then rem (gOf ns) ((debtsOf ns).drop (i + 1)) 0 else rem (gOf ns) ((debtsOf ns).drop i) (got + lo x y)) (if lo x y = y then rem (hOf ns) ((coversOf ns).drop (j + 1)) 0 else rem (hOf ns) ((coversOf ns).drop j) (used + lo x y)) := by
    rw [em, drop_cons ed, drop_cons ev]
    show done ++ mt ((d, gOf ns d - got) :: _) ((v, hOf ns v - used) :: _) = _
    rw [← ex, ← ey, mt_cons, List.append_assoc]
    have r1 := rem_if (g := gOf ns) (d := d) (ds := (debtsOf ns).drop (i + 1)) (got := got) (p := lo x y)
    have r2 := rem_if (g := hOf ns) (d := v) (ds := (coversOf ns).drop (j + 1)) (got := used) (p := lo x y)
    rw [← ex] at r1
    rw [← ey] at r2
    rw [r1, r2]
    rfl
  have b06 := b4.trans b6
  have lox : lo x y = x ∨ lo x y = y := by unfold lo; split <;> simp
  revert e6 p6 b06
  generalize upd (upd H4 t (.tup [.int (d : Int), .int (v : Int), .int (lo x y)])) F1 (.lst (xs ++ [.ref t])) = H6
  intro e6 p6 b06
  have ld : (done ++ [(d, v, lo x y)]).length = done.length + 1 := by simp
  walk_at "rd"
  change if decide (lo x y = x) = true then _ else _
  refine r_itd (fun c3 => ?_) (fun c3 => ?_)
  · rw [if_pos c3] at em6
    walk_at "rd"
    refine r_itd (fun c4 => ?_) (fun c4 => ?_)
    · have c4' : lo x y = y := c4
      rw [if_pos c4'] at em6
      walk_at "rd"
      exact ⟨_, by omega, i + 1, j + 1, 0, 0, _, _, _, _, _, rfl, rfl, by omega, by omega, e6, p6, em6, by omega, b06⟩
    · have c4' : ¬ lo x y = y := c4
      rw [if_neg c4'] at em6
      walk_at "rd"
      exact ⟨_, by omega, i + 1, j, 0, _, _, _, _, _, _, rfl, rfl, by omega, by omega, e6, p6, em6, by omega, b06⟩
  · rw [if_neg c3] at em6
    walk_at "rd"
    refine r_itd (fun c4 => ?_) (fun c4 => ?_)
    · have c4' : lo x y = y := c4
      rw [if_pos c4'] at em6
      walk_at "rd"
      exact ⟨_, by omega, i, j + 1, _, 0, _, _, _, _, _, rfl, rfl, by omega, by omega, e6, p6, em6, by omega, b06⟩
    · exact absurd lox fun z => z.elim c3 c4

/-! ### what is asked of triples -/
theorem pr_ex {α β : Type} {F : α → β → Prop} : ∀ {l₁ : List α} {l₂ : List β} {i : Nat} {a : α}, Paired F l₁ l₂ → l₁[i]? = some a → ∃ b, l₂[i]? = some b ∧ F a b
  | _, _, _, _, .nil, h => by simp at h
  | _, _, 0, _, .cons r _, h => by
    cases h
    exact ⟨_, rfl, r⟩
  | _, _, i + 1, _, .cons _ t, h => pr_ex (i := i) t h
theorem lcp_fm {K : PySem.W.Frag} {tt : TT} {te : TE} {j : Nat} {σ : L2.St} {H1 : Hp} {Q : VK} {a : Addr} {ns : List Int} (p : Int → Bool) (f : Int → Int) (hs : SqL K H1 a (ns.map V.int)) (hz : ns.length ≤ 90000)
    (ht : ∀ (n : Int) (H' : Hp) (QB : Bool → Hp → Prop), Same H1 H' → QB (p n) H' → tt ((wipe σ [j]).set j (some (.int n))) H' QB)
    (he : ∀ (n : Int) (H' : Hp) (W : VK), Same H1 H' → W (.int (f n)) H' → te ((wipe σ [j]).set j (some (.int n))) H' W)
    (k : ∀ (D : Addr) (H' : Hp), H1 D = none → Same H1 H' → H' D = some (.lst (((ns.filter p).map f).map V.int)) → Q (.ref D) H') :
    ∃ a', V.ref a = V.ref a' ∧ (∃ xs, SqL K H1 a' xs) ∧ Lcs (Itl K a') (gName j) tt te [j] σ H1 Q := by
  refine ⟨a, rfl, ⟨_, hs⟩, fun D hD => ?_⟩
  refine lc_list (K := K) (a := a) (xs := ns.map V.int) (fun i H' => Same H1 H' ∧ H' D = some (.lst ((((ns.take i).filter p).map f).map V.int))) ⟨same_upd hD, upd_same⟩ (fun i H' _ q => q.1.seq hs) ?_ ?_
  · rintro i x H' hi ⟨s, e⟩
    rw [List.getElem?_map] at hi
    cases en : ns[i]? with
    | none => rw [en] at hi; cases hi
    | some n =>
      rw [en] at hi
      cases hi
      refine ⟨wipe1, ht n _ _ s ?_⟩
      rw [take_snoc en, List.filter_append, List.map_append, List.map_append]
      cases c : p n with
      | true =>
        rw [if_pos rfl]
        refine he n _ _ s ⟨_, e, ?_, ?_, ?_⟩
        · rw [List.length_map, List.length_map]
          have := List.length_filter_le p (ns.take i)
          rw [List.length_take] at this
          refine sz5l ?_
          omega
        · exact fun b o q => by
            rw [upd_ne (ne_of_none q hD)]
            exact s _ _ q
        · rw [upd_same]
          simp [c]
      | false =>
        rw [if_neg (by decide)]
        refine ⟨s, ?_⟩
        rw [e]
        simp [c]
  · rintro H' ⟨s, e⟩
    rw [List.length_map, List.take_length] at e
    exact k D H' hD s e
def upP (P : List Int) (d : Nat) (p : Int) : List Int := P.set d (gOf P d + p)
theorem g_set {P : List Int} {d k : Nat} {p : Int} (h : d < P.length) : gOf (upP P d p) k = if k = d then gOf P d + p else gOf P k := by
  unfold upP gOf
  rw [List.getD_eq_getElem?_getD]
  by_cases c : k = d
  · subst c
    rw [if_pos rfl, List.getElem?_set_self h]
    rfl
  · rw [if_neg c, List.getElem?_set_ne (Ne.symm c), ← List.getD_eq_getElem?_getD]
theorem upP_len {P : List Int} {d : Nat} {p : Int} : (upP P d p).length = P.length := by
  unfold upP; simp
def Well (ns : List Int) : List Int → Int × Int → List (Nat × Nat × Int) → Prop
  | _, _, [] => True
  | P, last, (d, v, p) :: F => (d < ns.length ∧ v < ns.length ∧ gOf ns d > 0 ∧ gOf ns v < 0 ∧ p > 0) ∧ ¬ ((d : Int), (v : Int)) = last ∧ (∀ k, k < d → gOf ns k > 0 → gOf P k = gOf ns k) ∧ (∀ k, k < v → gOf ns k < 0 → gOf P k = -gOf ns k) ∧
      (gOf P d + p ≤ gOf ns d ∧ gOf P v + p ≤ -gOf ns v) ∧ Well ns (upP (upP P d p) v p) ((d : Int), (v : Int)) F
structure Half (g : Nat → Int) (len : Nat) (P : List Int) (D : List (Nat × Int)) : Prop where
  srt : D.Pairwise fun a b => a.1 < b.1
  mem : ∀ a, a ∈ D → a.1 < len ∧ a.2 > 0 ∧ g a.1 > 0 ∧ gOf P a.1 + a.2 = g a.1
  all : ∀ k, k < len → g k > 0 → (∃ x, (k, x) ∈ D) ∨ gOf P k = g k
theorem Half.step {g : Nat → Int} {len : Nat} {P P1 : List Int} {d : Nat} {x p : Int} {ds : List (Nat × Int)} (h : Half g len P ((d, x) :: ds)) (e1 : gOf P1 d = gOf P d + p) (e2 : ∀ k, g k > 0 → k ≠ d → gOf P1 k = gOf P k) (hp : p ≤ x) :
    Half g len P1 (if p = x then ds else (d, x - p) :: ds) := by
  obtain ⟨s1, s2⟩ := List.pairwise_cons.mp h.srt
  obtain ⟨m1, m2, m3, m4⟩ := h.mem (d, x) List.mem_cons_self
  have old : ∀ a, a ∈ ds → a.1 < len ∧ a.2 > 0 ∧ g a.1 > 0 ∧ gOf P1 a.1 + a.2 = g a.1 := fun a ha => by
    obtain ⟨n1, n2, n3, n4⟩ := h.mem a (List.mem_cons_of_mem _ ha)
    have : d < a.1 := s1 a ha
    rw [e2 a.1 n3 (by omega)]
    exact ⟨n1, n2, n3, n4⟩
  have dd : g d > 0 ∧ gOf P d + x = g d := ⟨m3, m4⟩
  by_cases c : p = x
  · rw [if_pos c]
    refine ⟨s2, old, fun k hk hg => ?_⟩
    by_cases z : k = d
    · refine .inr ?_
      rw [z, e1]
      omega
    · rcases h.all k hk hg with ⟨y, q⟩ | q
      · rcases List.mem_cons.mp q with w | w
        · cases w; exact absurd rfl z
        · exact .inl ⟨y, w⟩
      · exact .inr (by rw [e2 k hg z]; exact q)
  · rw [if_neg c]
    refine ⟨List.pairwise_cons.mpr ⟨s1, s2⟩, fun a ha => ?_, fun k hk hg => ?_⟩
    · rcases List.mem_cons.mp ha with w | w
      · rw [w]
        refine ⟨m1, ?_, m3, ?_⟩
        · show x - p > 0
          omega
        · show gOf P1 d + (x - p) = g d
          rw [e1]
          omega
      · exact old a w
    · by_cases z : k = d
      · exact .inl ⟨x - p, by rw [z]; exact List.mem_cons_self⟩
      · rcases h.all k hk hg with ⟨y, q⟩ | q
        · rcases List.mem_cons.mp q with w | w
          · cases w; exact absurd rfl z
          · exact .inl ⟨y, List.mem_cons_of_mem _ w⟩
        · exact .inr (by rw [e2 k hg z]; exact q)
theorem Half.ahead {g : Nat → Int} {len : Nat} {P : List Int} {d : Nat} {x : Int} {ds : List (Nat × Int)} (h : Half g len P ((d, x) :: ds)) : ∀ k, k < d → g k > 0 → gOf P k = g k := fun k hk hg => by
  obtain ⟨s1, s2⟩ := List.pairwise_cons.mp h.srt
  have m1 := (h.mem (d, x) List.mem_cons_self).1
  have m1' : d < len := m1
  rcases h.all k (by omega) hg with ⟨y, q⟩ | q
  · rcases List.mem_cons.mp q with w | w
    · cases w; omega
    · have := s1 _ w
      have : d < k := this
      omega
  · exact q
theorem lo_pos {x y : Int} (hx : x > 0) (hy : y > 0) : lo x y > 0 ∧ lo x y ≤ x ∧ lo x y ≤ y := by
  unfold lo; split <;> omega
theorem mt_well {ns : List Int} : ∀ (n : Nat) (D V : List (Nat × Int)) (P : List Int) (last : Int × Int), D.length + V.length ≤ n → P.length = ns.length → Half (gOf ns) ns.length P D → Half (hOf ns) ns.length P V →
    (∀ d x ds v y vs, D = (d, x) :: ds → V = (v, y) :: vs → ¬ ((d : Int), (v : Int)) = last) → Well ns P last (mt D V)
  | _, [], V, P, last, _, _, _, _, _ => by rw [mt_nil]; trivial
  | _, a :: ds, [], P, last, _, _, _, _, _ => by rw [mt_nil']; trivial
  | 0, a :: ds, b :: vs, P, last, hn, _, _, _, _ => by simp at hn
  | n + 1, (d, x) :: ds, (v, y) :: vs, P, last, hn, hP, hD, hV, hl => by
    obtain ⟨d1, d2, d3, d4⟩ := hD.mem (d, x) List.mem_cons_self
    obtain ⟨v1, v2, v3, v4⟩ := hV.mem (v, y) List.mem_cons_self
    have d1' : d < ns.length := d1
    have v1' : v < ns.length := v1
    have d3' : gOf ns d > 0 := d3
    have d4' : gOf P d + x = gOf ns d := d4
    have v4' : gOf P v + y = hOf ns v := v4
    have v3' : -gOf ns v > 0 := v3
    have hv : hOf ns v = -gOf ns v := rfl
    have ndv : d ≠ v := fun z => by rw [z] at d3'; omega
    have d2' : x > 0 := d2
    have v2' : y > 0 := v2
    obtain ⟨p0, px, py⟩ := lo_pos d2' v2'
    rw [mt_cons]
    have P1d : gOf (upP (upP P d (lo x y)) v (lo x y)) d = gOf P d + lo x y := by
      rw [g_set (by rw [upP_len, hP]; exact v1'), if_neg ndv, g_set (by rw [hP]; exact d1'), if_pos rfl]
    have P1v : gOf (upP (upP P d (lo x y)) v (lo x y)) v = gOf P v + lo x y := by
      rw [g_set (by rw [upP_len, hP]; exact v1'), if_pos rfl, g_set (by rw [hP]; exact d1'), if_neg (Ne.symm ndv)]
    have P1o : ∀ k, k ≠ d → k ≠ v → gOf (upP (upP P d (lo x y)) v (lo x y)) k = gOf P k := fun k h1 h2 => by
      rw [g_set (by rw [upP_len, hP]; exact v1'), if_neg h2, g_set (by rw [hP]; exact d1'), if_neg h1]
    have lox : lo x y = x ∨ lo x y = y := by unfold lo; split <;> simp
    refine ⟨⟨d1', v1', d3', by omega, p0⟩, hl _ _ _ _ _ _ rfl rfl, hD.ahead, fun k hk hg => ?_, ⟨by omega, by omega⟩, mt_well n _ _ _ _ ?_ (by rw [upP_len, upP_len, hP]) (hD.step P1d (fun k hg n => P1o k n fun z => by rw [z] at hg; omega) px) (hV.step P1v (fun k hg n => P1o k (fun z => ?_) n) py) ?_⟩
    · exact hV.ahead k hk (by show -(gOf ns k) > 0; omega)
    · simp only [List.length_cons] at hn
      rcases lox with h | h <;> (try split) <;> (try split) <;> first | contradiction | ((try simp only [List.length_cons]); omega)
    · have hg' : -gOf ns k > 0 := hg
      rw [z] at hg'
      omega
    · intro d' x' ds' v' y' vs' eD eV z
      injection z with z1 z2
      have z1' : d' = d := by omega
      have z2' : v' = v := by omega
      subst z1' z2'
      rcases lox with h | h
      · rw [if_pos h] at eD
        have := (List.pairwise_cons.mp hD.srt).1 (d', x') (by rw [eD]; exact List.mem_cons_self)
        have : d' < d' := this
        omega
      · rw [if_pos h] at eV
        have := (List.pairwise_cons.mp hV.srt).1 (v', y') (by rw [eV]; exact List.mem_cons_self)
        have : v' < v' := this
        omega
theorem pos_sum {D : List (Nat × Int)} (h : ∀ a, a ∈ D → a.2 > 0) : 0 ≤ (D.map (·.2)).sum := by
  induction D with
  | nil => exact Int.le_refl _
  | cons a r ih =>
    rw [List.map_cons, List.sum_cons]
    have h1 := h a List.mem_cons_self
    have h2 := ih fun b hb => h b (List.mem_cons_of_mem _ hb)
    omega
theorem mt_sum : ∀ (n : Nat) (D V : List (Nat × Int)), D.length + V.length ≤ n → (∀ a, a ∈ D → a.2 > 0) → (∀ a, a ∈ V → a.2 > 0) → ((mt D V).map (·.2.2)).sum = lo (D.map (·.2)).sum (V.map (·.2)).sum
  | _, [], V, _, _, hV => by
    rw [mt_nil]
    have := pos_sum hV
    show (0 : Int) = lo 0 _
    unfold lo
    split <;> omega
  | _, a :: ds, [], _, hD, _ => by
    rw [mt_nil']
    have := pos_sum hD
    show (0 : Int) = lo _ 0
    unfold lo
    split <;> omega
  | 0, a :: ds, b :: vs, hn, _, _ => by simp at hn
  | n + 1, (d, x) :: ds, (v, y) :: vs, hn, hD, hV => by
    have hx : x > 0 := hD (d, x) List.mem_cons_self
    have hy : y > 0 := hV (v, y) List.mem_cons_self
    obtain ⟨p0, px, py⟩ := lo_pos hx hy
    have lox : lo x y = x ∨ lo x y = y := by unfold lo; split <;> simp
    rw [mt_cons, List.map_cons, List.sum_cons, mt_sum n]
    · have eD : ((if lo x y = x then ds else (d, x - lo x y) :: ds).map (·.2)).sum = (((d, x) :: ds).map (·.2)).sum - lo x y := by
        split
        · rename_i c
          rw [List.map_cons, List.sum_cons]
          show _ = x + _ - _
          omega
        · rw [List.map_cons, List.map_cons, List.sum_cons, List.sum_cons]
          show x - lo x y + _ = x + _ - _
          omega
      have eV : ((if lo x y = y then vs else (v, y - lo x y) :: vs).map (·.2)).sum = (((v, y) :: vs).map (·.2)).sum - lo x y := by
        split
        · rename_i c
          rw [List.map_cons, List.sum_cons]
          show _ = y + _ - _
          omega
        · rw [List.map_cons, List.map_cons, List.sum_cons, List.sum_cons]
          show y - lo x y + _ = y + _ - _
          omega
      rw [eD, eV]
      generalize (((d, x) :: ds).map (·.2)).sum = a
      generalize (((v, y) :: vs).map (·.2)).sum = b
      show lo x y + lo (a - lo x y) (b - lo x y) = lo a b
      generalize lo x y = p
      unfold lo
      split <;> split <;> omega
    · simp only [List.length_cons] at hn
      rcases lox with h | h <;> (try split) <;> (try split) <;> first | contradiction | ((try simp only [List.length_cons]); omega)
    · intro a ha
      split at ha
      · exact hD a (List.mem_cons_of_mem _ ha)
      · rcases List.mem_cons.mp ha with z | z
        · rw [z]; show x - lo x y > 0; omega
        · exact hD a (List.mem_cons_of_mem _ z)
    · intro a ha
      split at ha
      · exact hV a (List.mem_cons_of_mem _ ha)
      · rcases List.mem_cons.mp ha with z | z
        · rw [z]; show y - lo x y > 0; omega
        · exact hV a (List.mem_cons_of_mem _ z)
theorem g_zero {n k : Nat} : gOf (List.replicate n 0) k = 0 := by
  unfold gOf
  rw [List.getD_eq_getElem?_getD, List.getElem?_replicate]
  split <;> rfl
theorem half0 {ns : List Int} {g : Nat → Int} {l : List Nat} (hl : l = (List.range ns.length).filter fun k => decide (g k > 0)) : Half g ns.length (List.replicate ns.length 0) (rem g l 0) := by
  rw [rem_0]
  refine ⟨?_, fun a ha => ?_, fun k hk hg => ?_⟩
  · rw [List.pairwise_map, hl]
    exact (List.pairwise_lt_range).filter _
  · obtain ⟨k, hk, rfl⟩ := List.mem_map.mp ha
    rw [hl] at hk
    obtain ⟨a, b⟩ := List.mem_filter.mp hk
    have b' := of_decide_eq_true b
    refine ⟨List.mem_range.mp a, b', b', ?_⟩
    rw [g_zero]
    exact Int.zero_add _
  · refine .inl ⟨g k, List.mem_map.mpr ⟨k, ?_, rfl⟩⟩
    rw [hl]
    exact List.mem_filter.mpr ⟨List.mem_range.mpr hk, decide_eq_true hg⟩
theorem covers_h {ns : List Int} : coversOf ns = (List.range ns.length).filter fun k => decide (hOf ns k > 0) := by
  unfold coversOf
  congr 1
  funext k
  have : (gOf ns k < 0) ↔ (hOf ns k > 0) := by
    show gOf ns k < 0 ↔ -gOf ns k > 0
    omega
  simp only [this]
theorem matched_well {ns : List Int} : Well ns (List.replicate ns.length 0) (-1, -1) (matchedF ns) := by
  unfold matchedF
  refine mt_well _ _ _ _ _ (Nat.le_refl _) (by simp) (half0 rfl) (half0 covers_h) ?_
  intro d x ds v y vs _ _ z
  injection z with z1 z2
  omega
theorem g_list {ns : List Int} : (List.range ns.length).map (gOf ns) = ns := by
  apply List.ext_getElem?
  intro i
  rw [List.getElem?_map]
  by_cases h : i < ns.length
  · rw [List.getElem?_range h, List.getElem?_eq_getElem h]
    show some (gOf ns i) = _
    unfold gOf
    rw [List.getD_eq_getElem?_getD, List.getElem?_eq_getElem h]
    rfl
  · rw [List.getElem?_eq_none (by simp; omega), List.getElem?_eq_none (by omega)]
    rfl
theorem matched_sum {ns : List Int} : ((matchedF ns).map (·.2.2)).sum = lo (ns.filter fun c => decide (c > 0)).sum ((ns.filter fun c => decide (c < 0)).map fun c => -c).sum := by
  unfold matchedF
  rw [mt_sum _ _ _ (Nat.le_refl _) (fun a ha => ((half0 (ns := ns) (g := gOf ns) (l := debtsOf ns) rfl).mem a ha).2.1) (fun a ha => ((half0 (ns := ns) (g := hOf ns) (l := coversOf ns) covers_h).mem a ha).2.1)]
  rw [rem_0, rem_0, List.map_map, List.map_map]
  have e1 : (debtsOf ns).map (gOf ns) = ns.filter fun c => decide (c > 0) := by
    have h := List.filter_map (p := fun c : Int => decide (c > 0)) (f := gOf ns) (l := List.range ns.length)
    rw [g_list] at h
    rw [h]
    rfl
  have e2 : (coversOf ns).map (gOf ns) = ns.filter fun c => decide (c < 0) := by
    have h := List.filter_map (p := fun c : Int => decide (c < 0)) (f := gOf ns) (l := List.range ns.length)
    rw [g_list] at h
    rw [h]
    rfl
  have e3 : (coversOf ns).map (hOf ns) = (ns.filter fun c => decide (c < 0)).map fun c => -c := by
    rw [← e2, List.map_map]
    rfl
  rw [← e1, ← e3]
  rfl

/-! ### the law's helpers -/
def Script (K : PySem.W.Frag) (H : Hp) (a : Addr) : Prop := ∃ ns : List Int, SqL K H a (ns.map V.int) ∧ ns.length ≤ 63
theorem SqL.keep {K : PySem.W.Frag} {H H' : Hp} {a : Addr} {xs : List V} (h : SqL K H a xs) (k : ∀ o, H a = some o → H' a = some o) : SqL K H' a xs := by
  rcases h with (h | ⟨o, h⟩) | h
  · exact .inl (.inl (k _ h))
  · exact .inl (.inr ⟨o, k _ h⟩)
  · exact .inr h
theorem Script.same {K : PySem.W.Frag} {H H' : Hp} {a : Addr} (S : Script K H a) (s : Same H H') : Script K H' a := by
  obtain ⟨ns, h, l⟩ := S
  exact ⟨ns, SqL.keep h fun o e => s _ _ e, l⟩
theorem int_at {ns : List Int} {i : Nat} (h : i < ns.length) : (ns.map V.int)[i]? = some (V.int ns[i]) := by
  rw [List.getElem?_map, List.getElem?_eq_getElem h]; rfl
def spLCellAt (K : PySem.W.Frag) : Sp := fun vs H Q _ => ∃ (a : Addr) (k : Int), vs = [.ref a, .int k] ∧ Script K H a ∧ 0 ≤ k ∧ ∀ n : Int, Q (.int n) H
theorem len_LCellAt {K : PySem.W.Frag} {vs : List V} {H : Hp} {Q : VK} {E : XK} (h : spLCellAt K vs H Q E) : vs.length = 2 := by
  obtain ⟨_, _, rfl, _⟩ := h; rfl
theorem ok_LCellAt {P : Program} {w : World} {K : PySem.W.Frag} {mg : Str → Option Value} {base : Heap} (T : Tx w K mg) : FnOk P w K mg base CX0 1 (He.fAd K dLCellAt.at_) (fdO K dLCellAt.at_) P_LCellAt (spLCellAt K) := by
  refine T.f_LCellAt.ok sc_LCellAt (fun vs H Q E h => len_LCellAt h) (fun cdv A outer s H vs Q E hr h => ⟨_, PSs.nox ((pss_cons (ps_if (pt_cmpR op_lt (pv 1) (pe_callB call_len_seq (by rfl) T.b_len (by decide +kernel) (pa_cons (pv 0) pa_nil)) (nomark _)) (pss_one (ps_ret (pe_ix ix_list (pv 0) (pv 1) (fun _ _ => rfl)))) pss_nil)
      (pss_one (ps_ret pe_int)))), ?_⟩)
  obtain ⟨a, i, rfl, ⟨ns, hs, _⟩, hi, k⟩ := h
  walk_at "rd"
  refine ⟨a, _, rfl, .inl hs, ?_⟩
  rw [List.length_map]
  walk_at "rd"
  refine r_itd (fun c => ?_) (fun c => ?_)
  · walk_at "rd"
    exact r_ixL hs (atI_get (j := i.toNat) (by omega) (int_at (by omega))) (k _)
  · walk_at "rd"
    exact k 0
def spLWhole (_ : PySem.W.Frag) : Sp := fun vs H Q _ => ∃ i : Int, vs = [.int i] ∧ Q (.bl true) H
theorem len_LWhole {K : PySem.W.Frag} {vs : List V} {H : Hp} {Q : VK} {E : XK} (h : spLWhole K vs H Q E) : vs.length = 1 := by
  obtain ⟨_, rfl, _⟩ := h; rfl
theorem ok_LWhole {P : Program} {w : World} {K : PySem.W.Frag} {mg : Str → Option Value} {base : Heap} (T : Tx w K mg) : FnOk P w K mg base CX0 1 (He.fAd K dLWhole.at_) (fdO K dLWhole.at_) P_LWhole (spLWhole K) := by
  refine T.f_LWhole.ok sc_LWhole (fun vs H Q E h => len_LWhole h) (fun cdv A outer s H vs Q E hr h => ⟨_, PSs.nox ((pss_one (ps_ret (pe_and (pe_callB call_isi (by rfl) T.b_isinstance (by decide +kernel) (pa_cons (pv 0) (pa_cons (pe_bltn (v := .ty "int") (by rfl) T.b_int (by decide +kernel) rfl) pa_nil))) (pe_one (pe_not (pe_callB call_isi (by rfl) T.b_isinstance (by decide +kernel) (pa_cons (pv 0) (pa_cons (pe_bltn (v := .ty "bool") (by rfl) T.b_bool (by decide +kernel) rfl) pa_nil))))))))), ?_⟩)
  obtain ⟨i, rfl, k⟩ := h
  walk_at "rd"
  exact k
def spLRowOf (K : PySem.W.Frag) : Sp := fun vs H Q _ => ∃ (a : Addr), vs = [.ref a] ∧ Script K H a ∧ ∀ (r : Addr) (ns : List Int) (H' : Hp), Same H H' → H' r = some (.lst (ns.map V.int)) → ns.length ≤ 10000 → Q (.ref r) H'
theorem len_LRowOf {K : PySem.W.Frag} {vs : List V} {H : Hp} {Q : VK} {E : XK} (h : spLRowOf K vs H Q E) : vs.length = 1 := by
  obtain ⟨_, rfl, _⟩ := h; rfl

theorem p15 : (0 : Int) < 2 * 10 ^ (15 : Int).toNat + 1 := by decide

/-! ### the law's judges of triples -/
def spLAheadWhole (K : PySem.W.Frag) : Sp := fun vs H Q _ => ∃ (a pa : Addr) (ns P : List Int) (n : Nat) (s : Int), vs = [.ref a, .ref pa, .int (n : Int), .int s] ∧ SqL K H a (ns.map V.int) ∧ H pa = some (.lst (P.map V.int)) ∧ P.length = ns.length ∧ n ≤ ns.length ∧ ns.length ≤ 10000 ∧
  (s = 1 ∨ s = -1) ∧ (∀ k, k < n → gOf ns k * s > 0 → gOf P k = gOf ns k * s) ∧ Q (.bl true) H
theorem len_LAheadWhole {K : PySem.W.Frag} {vs : List V} {H : Hp} {Q : VK} {E : XK} (h : spLAheadWhole K vs H Q E) : vs.length = 4 := by
  obtain ⟨_, _, _, _, _, _, rfl, _⟩ := h; rfl
theorem ok_LAheadWhole {P : Program} {w : World} {K : PySem.W.Frag} {mg : Str → Option Value} {base : Heap} (T : Tx w K mg) : FnOk P w K mg base CX0 1 (He.fAd K dLAheadWhole.at_) (fdO K dLAheadWhole.at_) P_LAheadWhole (spLAheadWhole K) := by
  refine T.f_LAheadWhole.ok sc_LAheadWhole (fun vs H Q E h => len_LAheadWhole h) (fun cdv A outer s H vs Q E hr h => ⟨_, PSs.nox ((pss_cons (ps_for PassesOwn.never rfl (pi_range1 (by rfl) T.b_range (pa_cons (pv 2) pa_nil)) (pg_name (i := 4) sc_LAheadWhole.nd rfl (Or.inl rfl)) (pss_one (ps_if (PW.pt (pw_and (pt_cmpR op_gt (pe_op op_mul (pe_ix ix_list (pv 0) (pv 4) (fun _ _ => rfl)) (pv 3)) pe_int (nomark _)) (pw_and1 (pt_cmpR op_ne (pe_ix ix_list (pv 1) (pv 4) (fun _ _ => rfl)) (pe_op op_mul (pe_ix ix_list (pv 0) (pv 4) (fun _ _ => rfl)) (pv 3)) (nomark _))))) (pss_one (ps_ret pe_bl)) pss_nil)))
      (pss_one (ps_ret pe_bl)))), ?_⟩)
  obtain ⟨a, pa, ns, P, n, s, rfl, ha, hpa, lp, hn, hz, hs, al, k⟩ := h
  have mul : ∀ i : Int, CMul i s := fun i => .inr (by rcases hs with rfl | rfl <;> exact ⟨by decide, by decide⟩)
  walk_at "rd"
  refine ⟨n, rfl, by omega, by omega, for_range (lo := 0) (n := n) (fun i σ H' => ∃ v4, σ = [some (.ref a), some (.ref pa), some (.int (n : Int)), some (.int s), v4] ∧ H' = H) ⟨none, rfl, rfl⟩ ?_ ?_⟩
  · rintro i σ H' hi ⟨v4, rfl, rfl⟩
    rw [Int.zero_add]
    walk_at "rd"
    refine r_ixL ha (atI_get rfl (g_at (by omega))) ?_
    walk_at "rd"
    refine r_I (mul _) ?_
    walk_at "rd"
    refine r_itd (fun c => ?_) (fun c => ?_)
    · walk_at "rd"
      refine r_ixL (SqL.of hpa) (atI_get rfl (g_at (by omega))) ?_
      walk_at "rd"
      refine r_ixL ha (atI_get rfl (g_at (by omega))) ?_
      walk_at "rd"
      refine r_I (mul _) ?_
      walk_at "rd"
      refine r_itn (fun z => absurd (al i hi c) z) (fun _ => ?_)
      walk_at "rd"
      exact ⟨_, rfl, rfl⟩
    · walk_at "rd"
      exact ⟨_, rfl, rfl⟩
  · rintro σ H' ⟨v4, rfl, rfl⟩
    walk_at "rd"
    exact k
def spLIsTriple (K : PySem.W.Frag) : Sp := fun vs H Q _ => ∃ (a t : Addr) (ns : List Int) (d v : Nat) (p : Int), vs = [.ref a, .ref t] ∧ SqL K H a (ns.map V.int) ∧ H t = some (.tup (tRow (d, v, p))) ∧ (d < ns.length ∧ v < ns.length ∧ gOf ns d > 0 ∧ gOf ns v < 0 ∧ p > 0) ∧ Q (.bl true) H
theorem len_LIsTriple {K : PySem.W.Frag} {vs : List V} {H : Hp} {Q : VK} {E : XK} (h : spLIsTriple K vs H Q E) : vs.length = 2 := by
  obtain ⟨_, _, _, _, _, _, rfl, _⟩ := h; rfl
theorem ok_LIsTriple {P : Program} {w : World} {K : PySem.W.Frag} {mg : Str → Option Value} {base : Heap} (T : Tx w K mg) : FnOk P w K mg base CX0 2 (He.fAd K dLIsTriple.at_) (fdO K dLIsTriple.at_) P_LIsTriple (spLIsTriple K) := by
  refine T.f_LIsTriple.ok sc_LIsTriple (fun vs H Q E h => len_LIsTriple h) (fun cdv A outer s H vs Q E hr h => ⟨_, PSs.nox ((pss_cons (ps_if (PW.pt (pw_or (pt_not (pt_val (pe_callB call_isi (by rfl) T.b_isinstance (by decide +kernel) (pa_cons (pv 1) (pa_cons (pe_bltn (v := .ty "tuple") (by rfl) T.b_tuple (by decide +kernel) rfl) pa_nil))))) (pw_or1 (pt_cmpR op_ne (pe_callB call_len_seq (by rfl) T.b_len (by decide +kernel) (pa_cons (pv 1) pa_nil)) pe_int (nomark _))))) (pss_one (ps_ret pe_bl)) pss_nil)
      (pss_cons (ps_if (PW.pt (pw_or (pt_not (pt_val (pe_call (ok_LWhole T) (hr.mono (by decide)) rfl T.g_LWhole T.f_LWhole.kp T.b_LWhole .nil pass0 (pa_cons (pe_ix ix_tup (pv 1) pe_int (fun _ _ => rfl)) pa_nil)))) (pw_or (pt_not (pt_val (pe_call (ok_LWhole T) (hr.mono (by decide)) rfl T.g_LWhole T.f_LWhole.kp T.b_LWhole .nil pass0 (pa_cons (pe_ix ix_tup (pv 1) pe_int (fun _ _ => rfl)) pa_nil)))) (pw_or1 (pt_not (pt_val (pe_call (ok_LWhole T) (hr.mono (by decide)) rfl T.g_LWhole T.f_LWhole.kp T.b_LWhole .nil pass0 (pa_cons (pe_ix ix_tup (pv 1) pe_int (fun _ _ => rfl)) pa_nil)))))))) (pss_one (ps_ret pe_bl)) pss_nil)
      (pss_cons (ps_if (PW.pt (pw_or (pt_not (pt_chain op_le op_lt pe_int (pe_ix ix_tup (pv 1) pe_int (fun _ _ => rfl)) (pe_callB call_len_seq (by rfl) T.b_len (by decide +kernel) (pa_cons (pv 0) pa_nil)))) (pw_or1 (pt_not (pt_chain op_le op_lt pe_int (pe_ix ix_tup (pv 1) pe_int (fun _ _ => rfl)) (pe_callB call_len_seq (by rfl) T.b_len (by decide +kernel) (pa_cons (pv 0) pa_nil))))))) (pss_one (ps_ret pe_bl)) pss_nil)
      (pss_one (ps_ret (pe_and (pe_cmpR op_gt (pe_ix ix_list (pv 0) (pe_ix ix_tup (pv 1) pe_int (fun _ _ => rfl)) (fun _ _ => rfl)) pe_int (nomark _)) (pe_and (pe_cmpR op_lt (pe_ix ix_list (pv 0) (pe_ix ix_tup (pv 1) pe_int (fun _ _ => rfl)) (fun _ _ => rfl)) pe_int (nomark _)) (pe_one (pe_cmpR op_gt (pe_ix ix_tup (pv 1) pe_int (fun _ _ => rfl)) pe_int (nomark _))))))))))), ?_⟩)
  obtain ⟨a, t, ns, d, v, p, rfl, ha, ht, ⟨h1, h2, h3, h4, h5⟩, k⟩ := h
  have ht' : H t = some (.tup [.int (d : Int), .int (v : Int), .int p]) := ht
  walk_at "rd"
  refine r_is_tup_tuple ht ?_
  walk_at "rd"
  refine ⟨t, _, rfl, .inr (SqT.of ht'), ?_⟩
  walk_at "rd"
  refine r_itn (fun z => absurd rfl z) (fun _ => ?_)
  walk_at "rd"
  refine r_ixT (SqT.of ht') (atI_get (j := 0) rfl rfl) ?_
  walk_at "rd"
  refine ⟨_, rfl, ?_⟩
  walk_at "rd"
  refine r_ixT (SqT.of ht') (atI_get (j := 1) rfl rfl) ?_
  walk_at "rd"
  refine ⟨_, rfl, ?_⟩
  walk_at "rd"
  refine r_ixT (SqT.of ht') (atI_get (j := 2) rfl rfl) ?_
  walk_at "rd"
  refine ⟨_, rfl, ?_⟩
  walk_at "rd"
  refine r_ixT (SqT.of ht') (atI_get (j := 0) rfl rfl) ?_
  walk_at "rd"
  refine r_ity (by omega) ?_
  walk_at "rd"
  refine ⟨a, _, rfl, .inl ha, ?_⟩
  walk_at "rd"
  rw [List.length_map]
  refine r_itn (fun z => absurd (by omega) z) (fun _ => ?_)
  walk_at "rd"
  refine r_ixT (SqT.of ht') (atI_get (j := 1) rfl rfl) ?_
  walk_at "rd"
  refine r_ity (by omega) ?_
  walk_at "rd"
  refine ⟨a, _, rfl, .inl ha, ?_⟩
  walk_at "rd"
  rw [List.length_map]
  refine r_itn (fun z => absurd (by omega) z) (fun _ => ?_)
  walk_at "rd"
  refine r_ixT (SqT.of ht') (atI_get (j := 0) rfl rfl) ?_
  refine r_ixL ha (atI_get rfl (g_at h1)) ?_
  walk_at "rd"
  refine r_ity h3 ?_
  walk_at "rd"
  refine r_ixT (SqT.of ht') (atI_get (j := 1) rfl rfl) ?_
  refine r_ixL ha (atI_get rfl (g_at h2)) ?_
  walk_at "rd"
  refine r_ity h4 ?_
  walk_at "rd"
  refine r_ixT (SqT.of ht') (atI_get (j := 2) rfl rfl) ?_
  walk_at "rd"
  rw [decide_eq_true h5]
  exact k
def FRows (H : Hp) (f : Addr) (F : List (Nat × Nat × Int)) : Prop := ∃ xs, H f = some (.lst xs) ∧ Paired (TupAt H) xs (F.map tRow)
def spLMatchedWell (K : PySem.W.Frag) : Sp := fun vs H Q _ => ∃ (a f : Addr) (ns : List Int) (F : List (Nat × Nat × Int)), vs = [.ref a, .ref f] ∧ SqL K H a (ns.map V.int) ∧ ns.length ≤ 10000 ∧ FRows H f F ∧ F.length ≤ 20000 ∧
  Well ns (List.replicate ns.length 0) (-1, -1) F ∧ (F.map (·.2.2)).sum = lo (ns.filter fun c => decide (c > 0)).sum ((ns.filter fun c => decide (c < 0)).map fun c => -c).sum ∧ ∀ H', Same H H' → Q (.bl true) H'
theorem len_LMatchedWell {K : PySem.W.Frag} {vs : List V} {H : Hp} {Q : VK} {E : XK} (h : spLMatchedWell K vs H Q E) : vs.length = 2 := by
  obtain ⟨_, _, _, _, rfl, _⟩ := h; rfl
theorem set_up {P : List Int} {d : Nat} {p : Int} : (P.map V.int).set d (.int (gOf P d + p)) = (upP P d p).map V.int := by
  unfold upP
  rw [List.map_set]
theorem cast_ne {d v : Nat} {l : Int × Int} (h : ¬ ((d : Int), (v : Int)) = l) : ¬ [V.int (d : Int), V.int (v : Int)] = [V.int l.1, V.int l.2] := fun z => by
  injection z with z1 z2
  injection z2 with z2 _
  injection z1 with z1
  injection z2 with z2
  exact h (Prod.ext z1 z2)
theorem ok_LMatchedWell {P : Program} {w : World} {K : PySem.W.Frag} {mg : Str → Option Value} {base : Heap} (T : Tx w K mg) : FnOk P w K mg base CX0 3 (He.fAd K dLMatchedWell.at_) (fdO K dLMatchedWell.at_) P_LMatchedWell (spLMatchedWell K) := by
  refine T.f_LMatchedWell.ok sc_LMatchedWell (fun vs H Q E h => len_LMatchedWell h) (fun cdv A outer s H vs Q E hr h => ⟨_, PSs.nox ((pss_cons (ps_setLc (i := 3) (own := [("_law_cell", 2)]) (g := gName 2) (tt := tYes) rfl sc_LMatchedWell.nd rfl rfl (sw_true rfl rfl rfl (by decide +kernel)) (pi_list (pv 0)) (blkOk_by (N := N_LMatchedWell) (sc := defScope sLMatchedWell) (by decide +kernel)) (fun _ _ _ _ _ => pg_name (i := 2) sc_LMatchedWell.nd rfl (Or.inl rfl)) (fun _ _ _ _ _ => pts_nil) (fun _ _ _ _ _ => pe_int))
      (pss_cons (ps_set (i := 4) sc_LMatchedWell.nd rfl (Or.inl rfl) (pe_tup (pa_cons (pe_un un_neg pe_int) (pa_cons (pe_un un_neg pe_int) pa_nil))))
      (pss_cons (ps_for PassesOwn.never rfl (pi_list (pv 1)) (pg_name (i := 5) sc_LMatchedWell.nd rfl (Or.inl rfl)) (pss_cons (ps_if (PW.pt (pw_or (pt_not (pt_val (pe_call (ok_LIsTriple T) (hr.mono (by decide)) rfl T.g_LIsTriple T.f_LIsTriple.kp T.b_LIsTriple .nil pass0 (pa_cons (pv 0) (pa_cons (pv 5) pa_nil))))) (pw_or1 (pt_cmpR (op_eqD hr.units) (pe_tup (pa_cons (pe_ix ix_tup (pv 5) pe_int (fun _ _ => rfl)) (pa_cons (pe_ix ix_tup (pv 5) pe_int (fun _ _ => rfl)) pa_nil))) (pv 4) (nomark _))))) (pss_one (ps_ret pe_bl)) pss_nil)
      (pss_cons (ps_if (PW.pt (pw_or (pt_not (pt_val (pe_call (ok_LAheadWhole T) (hr.mono (by decide)) rfl T.g_LAheadWhole T.f_LAheadWhole.kp T.b_LAheadWhole .nil pass0 (pa_cons (pv 0) (pa_cons (pv 3) (pa_cons (pe_ix ix_tup (pv 5) pe_int (fun _ _ => rfl)) (pa_cons pe_int pa_nil))))))) (pw_or1 (pt_not (pt_val (pe_call (ok_LAheadWhole T) (hr.mono (by decide)) rfl T.g_LAheadWhole T.f_LAheadWhole.kp T.b_LAheadWhole .nil pass0 (pa_cons (pv 0) (pa_cons (pv 3) (pa_cons (pe_ix ix_tup (pv 5) pe_int (fun _ _ => rfl)) (pa_cons (pe_un un_neg pe_int) pa_nil)))))))))) (pss_one (ps_ret pe_bl)) pss_nil)
      (pss_cons (ps_asg (pe_op op_add (pe_ix ix_list (pv 3) (pe_ix ix_tup (pv 5) pe_int (fun _ _ => rfl)) (fun _ _ => rfl)) (pe_ix ix_tup (pv 5) pe_int (fun _ _ => rfl))) (pg_sub (pv 3) (pe_ix ix_tup (pv 5) pe_int (fun _ _ => rfl)) set_list))
      (pss_cons (ps_asg (pe_op op_add (pe_ix ix_list (pv 3) (pe_ix ix_tup (pv 5) pe_int (fun _ _ => rfl)) (fun _ _ => rfl)) (pe_ix ix_tup (pv 5) pe_int (fun _ _ => rfl))) (pg_sub (pv 3) (pe_ix ix_tup (pv 5) pe_int (fun _ _ => rfl)) set_list))
      (pss_cons (ps_if (PW.pt (pw_or (pt_cmpR op_gt (pe_ix ix_list (pv 3) (pe_ix ix_tup (pv 5) pe_int (fun _ _ => rfl)) (fun _ _ => rfl)) (pe_ix ix_list (pv 0) (pe_ix ix_tup (pv 5) pe_int (fun _ _ => rfl)) (fun _ _ => rfl)) (nomark _)) (pw_or1 (pt_cmpR op_gt (pe_ix ix_list (pv 3) (pe_ix ix_tup (pv 5) pe_int (fun _ _ => rfl)) (fun _ _ => rfl)) (pe_un un_neg (pe_ix ix_list (pv 0) (pe_ix ix_tup (pv 5) pe_int (fun _ _ => rfl)) (fun _ _ => rfl))) (nomark _))))) (pss_one (ps_ret pe_bl)) pss_nil)
      (pss_one (ps_set (i := 4) sc_LMatchedWell.nd rfl (Or.inl rfl) (pe_tup (pa_cons (pe_ix ix_tup (pv 5) pe_int (fun _ _ => rfl)) (pa_cons (pe_ix ix_tup (pv 5) pe_int (fun _ _ => rfl)) pa_nil)))))))))))
      (pss_cons (ps_set (i := 7) sc_LMatchedWell.nd rfl (Or.inl rfl) (pe_callB (cr_sum rfl) (by rfl) T.b_sum (by decide +kernel) (pa_cons (pe_lc (own := [("_law_cents", 6)]) (g := gName 6) rfl sc_LMatchedWell.nd (pi_list (pv 0)) (blkOk_by (N := N_LMatchedWell) (sc := defScope sLMatchedWell) (by decide +kernel)) (fun _ _ _ _ _ => pg_name (i := 6) sc_LMatchedWell.nd rfl (Or.inl rfl)) (fun _ _ _ _ _ => (pts_one (pt_cmpR op_gt (pv 6) pe_int (nomark _)))) (fun _ _ _ _ _ => (pv 6))) pa_nil)))
      (pss_cons (ps_set (i := 8) sc_LMatchedWell.nd rfl (Or.inl rfl) (pe_callB (cr_sum rfl) (by rfl) T.b_sum (by decide +kernel) (pa_cons (pe_lc (own := [("_law_cents", 6)]) (g := gName 6) rfl sc_LMatchedWell.nd (pi_list (pv 0)) (blkOk_by (N := N_LMatchedWell) (sc := defScope sLMatchedWell) (by decide +kernel)) (fun _ _ _ _ _ => pg_name (i := 6) sc_LMatchedWell.nd rfl (Or.inl rfl)) (fun _ _ _ _ _ => (pts_one (pt_cmpR op_lt (pv 6) pe_int (nomark _)))) (fun _ _ _ _ _ => (pe_un un_neg (pv 6)))) pa_nil)))
      (pss_one (ps_ret (pe_cmpR op_eq (pe_callB (cr_sum rfl) (by rfl) T.b_sum (by decide +kernel) (pa_cons (pe_lc (own := [("_law_one", 5)]) (g := gName 5) (tt := tYes) rfl sc_LMatchedWell.nd (pi_list (pv 1)) (blkOk_by (N := N_LMatchedWell) (sc := defScope sLMatchedWell) (by decide +kernel)) (fun _ _ _ _ _ => pg_name (i := 5) sc_LMatchedWell.nd rfl (Or.inl rfl)) (fun _ _ _ _ _ => pts_nil) (fun _ _ _ _ _ => (pe_ix (ix_tupK (K := K) rfl) (pv 5) pe_int (fun _ _ => rfl)))) pa_nil)) (pe_callB (call_min2 rfl) (by rfl) T.b_min (by decide +kernel) (pa_cons (pv 7) (pa_cons (pv 8) pa_nil))) (nomark _)))))))))), ?_⟩)
  obtain ⟨a, f, ns, F, rfl, ha, hz, ⟨xs, hf, pf⟩, lF, wl, sm, k⟩ := h
  walk_at "rd"
  refine lcp_list (ys := ns.map fun _ => V.int 0) ha (by simp) (by simp; omega) ?_ ?_
  · intro i x y H' R ex ey s q
    rw [List.getElem?_map] at ey
    cases e : ns[i]? with
    | none => rw [e] at ey; cases ey
    | some n =>
      rw [e] at ey
      cases ey
      walk_at "rd"
      exact q _ (Same.refl _)
  intro pa H1 hpa s1 epa
  have epa' : H1 pa = some (.lst ((List.replicate ns.length (0 : Int)).map V.int)) := by
    rw [epa]
    congr 2
    rw [List.map_replicate, List.map_const']
  walk_at "rd"
  refine r_mk (by simp) fun la hla => ?_
  have s2 := same_upd (o := .tup [.int (-1), .int (-1)]) hla
  have ela : upd H1 la (.tup [.int (-1), .int (-1)]) la = some (.tup [.int (-1), .int (-1)]) := upd_same
  have epa2 := s2 _ _ epa'
  have s12 := s1.trans s2
  revert ela epa2 s12
  generalize upd H1 la (.tup [.int (-1), .int (-1)]) = H2
  intro ela epa2 s12
  have fin : ∀ H' : Hp, But (· = pa) H2 H' → Same H H' := fun H' b x o e => b.keep _ _ (s12 _ _ e) (ne_of_none e hpa)
  have fpa : f ≠ pa := ne_of_none hf hpa
  walk_at "rd"
  refine ⟨f, rfl, ⟨xs, SqL.of (s12 _ _ hf)⟩, for_list (K := K) (a := f) (xs := xs) (fun i σ H' => ∃ (la : Addr) (l : Int × Int) (P : List Int) (v5 : Option V), σ = [some (.ref a), some (.ref f), none, some (.ref pa), some (.ref la), v5, none, none, none] ∧
      H' la = some (.tup [.int l.1, .int l.2]) ∧ H' pa = some (.lst (P.map V.int)) ∧ P.length = ns.length ∧ Well ns P l (F.drop i) ∧ But (· = pa) H2 H')
    ⟨la, (-1, -1), _, none, rfl, ela, epa2, by simp, wl, But.refl⟩ (fun i σ H' _ ⟨_, _, _, _, _, _, _, _, _, b⟩ => SqL.of ((fin H' b) _ _ hf)) ?_ ?_⟩
  · rintro i x σ H3 hi ⟨la, l, P, v5, rfl, ela, epa3, lP, w, b3⟩
    obtain ⟨row, er, t, rfl, ht⟩ := pr_ex pf hi
    rw [List.getElem?_map] at er
    cases eF : F[i]? with
    | none => rw [eF] at er; cases er
    | some T3 =>
    rw [eF] at er
    cases er
    obtain ⟨d, v, p⟩ := T3
    have dr : F.drop i = (d, v, p) :: F.drop (i + 1) := by
      have hi' := (List.getElem?_eq_some_iff.mp eF).1
      rw [List.drop_eq_getElem_cons hi']
      rw [List.getElem?_eq_getElem hi'] at eF
      rw [Option.some.inj eF]
    rw [dr] at w
    obtain ⟨⟨w1, w2, w3, w4, w5⟩, w6, w7, w8, ⟨w9, w10⟩, w11⟩ := w
    have st := fin H3 b3
    have ha3 : SqL K H3 a (ns.map V.int) := st.seq ha
    have ht3 : H3 t = some (.tup [.int (d : Int), .int (v : Int), .int p]) := st _ _ ht
    have ndv : d ≠ v := fun z => by rw [z] at w3; omega
    walk_at "rd"
    refine ⟨a, t, ns, d, v, p, rfl, ha3, ht3, ⟨w1, w2, w3, w4, w5⟩, ?_⟩
    walk_at "rd"
    refine r_ixT (SqT.of ht3) (atI_get (j := 0) rfl rfl) ?_
    walk_at "rd"
    refine r_ixT (SqT.of ht3) (atI_get (j := 1) rfl rfl) ?_
    walk_at "rd"
    refine r_mk (by simp) fun q hq => ?_
    have s4 := same_upd (o := .tup [.int (d : Int), .int (v : Int)]) hq
    walk_at "rd"
    refine r_eqTT (r := [.int (d : Int), .int (v : Int)]) (q := [.int l.1, .int l.2]) (SqT.of upd_same) (SqT.of (s4 _ _ ela)) (.cons .int (.cons .int .nil)) (.cons .int (.cons .int .nil)) ?_
    walk_at "rd"
    refine r_itz (cast_ne w6) ?_
    have st4 := st.trans s4
    have b4 := b3.trans (But.of (S := (· = pa)) s4)
    have epa4 := s4 _ _ epa3
    have ht4 := s4 _ _ ht3
    revert st4 b4 epa4 ht4
    generalize upd H3 q (.tup [.int (d : Int), .int (v : Int)]) = H4
    intro st4 b4 epa4 ht4
    have ha4 : SqL K H4 a (ns.map V.int) := st4.seq ha
    walk_at "rd"
    refine r_ixT (SqT.of ht4) (atI_get (j := 0) rfl rfl) ?_
    walk_at "rd"
    refine ⟨a, pa, ns, P, d, 1, rfl, ha4, epa4, lP, by omega, hz, .inl rfl, fun k' hk hg => ?_, ?_⟩
    · rw [Int.mul_one] at hg ⊢
      exact w7 k' hk hg
    walk_at "rd"
    refine r_ixT (SqT.of ht4) (atI_get (j := 1) rfl rfl) ?_
    walk_at "rd"
    refine ⟨a, pa, ns, P, v, -1, rfl, ha4, epa4, lP, by omega, hz, .inr rfl, fun k' hk hg => ?_, ?_⟩
    · have e : gOf ns k' * -1 = -gOf ns k' := by omega
      rw [e] at hg ⊢
      exact w8 k' hk (by omega)
    walk_at "rd"
    refine r_ixT (SqT.of ht4) (atI_get (j := 0) rfl rfl) ?_
    refine r_ixL (SqL.of epa4) (atI_get rfl (g_at (by omega))) ?_
    walk_at "rd"
    refine r_ixT (SqT.of ht4) (atI_get (j := 2) rfl rfl) ?_
    walk_at "rd"
    refine r_ixT (SqT.of ht4) (atI_get (j := 0) rfl rfl) ?_
    walk_at "rd"
    refine r_setL epa4 rfl (by rw [List.length_map]; omega) ?_
    rw [set_up]
    have b5 := b4.trans (But.lst (S := (· = pa)) (o := .lst ((upP P d p).map V.int)) epa4 rfl)
    have epa5 : upd H4 pa (.lst ((upP P d p).map V.int)) pa = some (.lst ((upP P d p).map V.int)) := upd_same
    revert b5 epa5
    generalize upd H4 pa (.lst ((upP P d p).map V.int)) = H5
    intro b5 epa5
    have ht5 := (fin H5 b5) _ _ ht
    have ht5' : H5 t = some (.tup [.int (d : Int), .int (v : Int), .int p]) := ht5
    have lP1 : (upP P d p).length = ns.length := by rw [upP_len, lP]
    walk_at "rd"
    refine r_ixT (SqT.of ht5') (atI_get (j := 1) rfl rfl) ?_
    refine r_ixL (SqL.of epa5) (atI_get rfl (g_at (by omega))) ?_
    walk_at "rd"
    refine r_ixT (SqT.of ht5') (atI_get (j := 2) rfl rfl) ?_
    walk_at "rd"
    refine r_ixT (SqT.of ht5') (atI_get (j := 1) rfl rfl) ?_
    walk_at "rd"
    refine r_setL epa5 rfl (by rw [List.length_map]; omega) ?_
    rw [set_up]
    have b6 := b5.trans (But.lst (S := (· = pa)) (o := .lst ((upP (upP P d p) v p).map V.int)) epa5 rfl)
    have epa6 : upd H5 pa (.lst ((upP (upP P d p) v p).map V.int)) pa = some (.lst ((upP (upP P d p) v p).map V.int)) := upd_same
    revert b6 epa6
    generalize upd H5 pa (.lst ((upP (upP P d p) v p).map V.int)) = H6
    intro b6 epa6
    have ht6 : H6 t = some (.tup [.int (d : Int), .int (v : Int), .int p]) := (fin H6 b6) _ _ ht
    have ha6 : SqL K H6 a (ns.map V.int) := (fin H6 b6).seq ha
    have lP2 : (upP (upP P d p) v p).length = ns.length := by rw [upP_len, lP1]
    have P1d : gOf (upP (upP P d p) v p) d = gOf P d + p := by
      rw [g_set (by omega), if_neg ndv, g_set (by omega), if_pos rfl]
    have P1v : gOf (upP (upP P d p) v p) v = gOf P v + p := by
      rw [g_set (by omega), if_pos rfl, g_set (by omega), if_neg (Ne.symm ndv)]
    walk_at "rd"
    refine r_ixT (SqT.of ht6) (atI_get (j := 0) rfl rfl) ?_
    refine r_ixL (SqL.of epa6) (atI_get rfl (g_at (by omega))) ?_
    walk_at "rd"
    refine r_ixT (SqT.of ht6) (atI_get (j := 0) rfl rfl) ?_
    refine r_ixL ha6 (atI_get rfl (g_at w1)) ?_
    walk_at "rd"
    refine r_itz (by omega) ?_
    walk_at "rd"
    refine r_ixT (SqT.of ht6) (atI_get (j := 1) rfl rfl) ?_
    refine r_ixL (SqL.of epa6) (atI_get rfl (g_at (by omega))) ?_
    walk_at "rd"
    refine r_ixT (SqT.of ht6) (atI_get (j := 1) rfl rfl) ?_
    refine r_ixL ha6 (atI_get rfl (g_at w2)) ?_
    walk_at "rd"
    refine r_itz (by omega) ?_
    walk_at "rd"
    refine r_ixT (SqT.of ht6) (atI_get (j := 0) rfl rfl) ?_
    walk_at "rd"
    refine r_ixT (SqT.of ht6) (atI_get (j := 1) rfl rfl) ?_
    walk_at "rd"
    refine r_mk (by simp) fun l2 hl2 => ?_
    have s7 := same_upd (o := .tup [.int (d : Int), .int (v : Int)]) hl2
    walk_at "rd"
    exact ⟨l2, ((d : Int), (v : Int)), upP (upP P d p) v p, _, rfl, upd_same, s7 _ _ epa6, lP2, w11, b6.trans (But.of s7)⟩
  · rintro σ H3 ⟨la, l, P, v5, rfl, ela, epa3, lP, w, b3⟩
    have st := fin H3 b3
    walk_at "rd"
    refine lcp_fm (fun c => decide (c > 0)) id (st.seq ha) (by omega) (fun n H' QB s q => ?_) (fun n H' W s q => ?_) fun D H4 hD s4 eD => ?_
    · walk_at "rd"
      exact q
    · walk_at "rd"
      exact q
    walk_at "rd"
    refine ⟨D, _, rfl, SqL.of eD, ?_⟩
    walk_at "rd"
    refine lcp_fm (fun c => decide (c < 0)) (fun c => -c) ((st.trans s4).seq ha) (by omega) (fun n H' QB s q => ?_) (fun n H' W s q => ?_) fun D2 H5 hD2 s5 eD2 => ?_
    · walk_at "rd"
      exact q
    · walk_at "rd"
      exact q
    walk_at "rd"
    refine ⟨D2, _, rfl, SqL.of eD2, ?_⟩
    have st5 := (st.trans s4).trans s5
    walk_at "rd"
    refine lcp_list (ys := F.map fun t => V.int t.2.2) (SqL.of (st5 _ _ hf)) (by rw [pf.length]; simp) (by rw [pf.length]; simp; omega) ?_ ?_
    · intro i x y H' R ex ey s q
      obtain ⟨row, er, t, rfl, ht⟩ := pr_ex pf ex
      rw [List.getElem?_map] at er ey
      cases eF : F[i]? with
      | none => rw [eF] at er; cases er
      | some T3 =>
        rw [eF] at er ey
        cases er
        cases ey
        walk_at "rd"
        refine r_ixT (SqT.of (s _ _ (st5 _ _ ht))) (atI_get (j := 2) rfl rfl) ?_
        exact q _ (Same.refl _)
    intro D3 H6 hD3 s6 eD3
    walk_at "rd"
    refine ⟨D3, F.map (·.2.2), rfl, SqL.of (by rw [eD3, List.map_map]; rfl), ?_⟩
    walk_at "rd"
    refine ⟨_, _, rfl, ?_⟩
    walk_at "rd"
    rw [List.map_id, sm]
    rw [decide_eq_true (show lo _ _ = (if _ < _ then _ else _) from rfl)]
    exact k _ (st5.trans s6)

theorem ok_LRowOf {P : Program} {w : World} {K : PySem.W.Frag} {mg : Str → Option Value} {base : Heap} (T : Tx w K mg) : FnOk P w K mg base CX0 2 (He.fAd K dLRowOf.at_) (fdO K dLRowOf.at_) P_LRowOf (spLRowOf K) := by
  refine T.f_LRowOf.ok sc_LRowOf (fun vs H Q E h => len_LRowOf h) (fun cdv A outer s H vs Q E hr h => ⟨_, PSs.nox ((pss_cons (ps_if (pt_cmpR op_eq (pe_op op_mod (pe_call (ok_LCellAt T) (hr.mono (by decide)) rfl T.g_LCellAt T.f_LCellAt.kp T.b_LCellAt .nil pass0 (pa_cons (pv 0) (pa_cons pe_int pa_nil))) pe_int) pe_int (nomark _)) (pss_cons (ps_set (i := 1) sc_LRowOf.nd rfl (Or.inr rfl) (pe_call (ok_LCellAt T) (hr.mono (by decide)) rfl T.g_LCellAt T.f_LCellAt.kp T.b_LCellAt .nil pass0 (pa_cons (pv 0) (pa_cons pe_int pa_nil))))
      (pss_one (ps_ret (pe_lc (own := [("_law_k", 2)]) (g := gName 2) (tt := tYes) rfl sc_LRowOf.nd (pi_range1 (by rfl) T.b_range (pa_cons (pe_op op_mod (pe_op op_fdiv (pe_call (ok_LCellAt T) (hr.mono (by decide)) rfl T.g_LCellAt T.f_LCellAt.kp T.b_LCellAt .nil pass0 (pa_cons (pv 0) (pa_cons pe_int pa_nil))) pe_int) pe_int) pa_nil)) (blkOk_by (N := N_LRowOf) (sc := defScope sLRowOf) (by decide +kernel)) (fun _ _ _ _ _ => pg_name (i := 2) sc_LRowOf.nd rfl (Or.inl rfl)) (fun _ _ _ _ _ => pts_nil) (fun _ _ _ _ _ => (pe_op op_sub (pe_op op_mod (pe_op op_mod (pe_op op_mul (pe_op op_mul (pv 1) pe_int) (pe_op op_add (pv 2) pe_int)) pe_int) pe_int) pe_int)))))) pss_nil)
      (pss_cons (ps_if (pt_cmpR op_eq (pe_op op_mod (pe_call (ok_LCellAt T) (hr.mono (by decide)) rfl T.g_LCellAt T.f_LCellAt.kp T.b_LCellAt .nil pass0 (pa_cons (pv 0) (pa_cons pe_int pa_nil))) pe_int) pe_int (nomark _)) (pss_one (ps_ret (pe_lc (own := [("_law_cell", 1)]) (g := gName 1) (tt := tYes) rfl sc_LRowOf.nd (pi_list (pe_slice sl_list (pv 0) (po_some pe_int) po_none)) (blkOk_by (N := N_LRowOf) (sc := defScope sLRowOf) (by decide +kernel)) (fun _ _ _ _ _ => pg_name (i := 1) sc_LRowOf.nd rfl (Or.inl rfl)) (fun _ _ _ _ _ => pts_nil) (fun _ _ _ _ _ => (pe_op op_sub (pe_op op_mod (pv 1) (pe_op op_add (pe_op op_mul pe_int (pe_op op_pow pe_int pe_int)) pe_int)) (pe_op op_pow pe_int pe_int)))))) pss_nil)
      (pss_one (ps_ret (pe_lc (own := [("_law_cell", 1)]) (g := gName 1) (tt := tYes) rfl sc_LRowOf.nd (pi_list (pe_slice sl_list (pv 0) (po_some pe_int) po_none)) (blkOk_by (N := N_LRowOf) (sc := defScope sLRowOf) (by decide +kernel)) (fun _ _ _ _ _ => pg_name (i := 1) sc_LRowOf.nd rfl (Or.inl rfl)) (fun _ _ _ _ _ => pts_nil) (fun _ _ _ _ _ => (pe_op op_sub (pe_op op_mod (pv 1) pe_int) pe_int)))))))), ?_⟩)
  obtain ⟨a, rfl, S, k⟩ := h
  obtain ⟨ns, hs, hn⟩ := id S
  walk_at "rd"
  refine ⟨a, _, rfl, S, by decide, fun n0 => ?_⟩
  walk_at "rd"
  walk_at "md"
  walk_at "rd"
  refine r_itd (fun _ => ?_) (fun _ => ?_)
  · walk_at "rd"
    refine ⟨a, _, rfl, S, by decide, fun n1 => ?_⟩
    walk_at "rd"
    refine ⟨a, _, rfl, S, by decide, fun n2 => ?_⟩
    walk_at "rd"
    walk_at "md"
    walk_at "rd"
    walk_at "md"
    obtain ⟨m, em, hm⟩ : ∃ m : Nat, n2 / 4 % 90 = (m : Int) ∧ m < 90 := ⟨(n2 / 4 % 90).toNat, by omega, by omega⟩
    rw [em]
    walk_at "rd"
    refine lcp_range (ys := ((List.range m).map fun i : Nat => n1 * 48271 * ((i : Int) + 3) % 10007 % 41 - 20).map V.int) (by simp) (by omega) (by omega) ?_ ?_
    · intro i y H' R ey s q
      rw [List.map_map, List.getElem?_map] at ey
      cases ek : (List.range m)[i]? with
      | none => rw [ek] at ey; cases ey
      | some z =>
        rw [ek] at ey
        cases ey
        have ez : z = i ∧ i < m := by
          obtain ⟨h1, h2⟩ := List.getElem?_eq_some_iff.mp ek
          rw [List.getElem_range] at h2
          rw [List.length_range] at h1
          exact ⟨h2.symm, h1⟩
        obtain ⟨rfl, hz⟩ := ez
        walk_at "rd"
        walk_at "ml"
        walk_at "rd"
        refine r_I (.inr ⟨by omega, by omega⟩) ?_
        walk_at "rd"
        walk_at "md"
        walk_at "rd"
        walk_at "md"
        walk_at "rd"
        exact q _ (Same.refl _)
    · intro D H' hD s e
      exact k D _ H' s e (by simp; omega)
  walk_at "rd"
  refine ⟨a, _, rfl, S, by decide, fun n1 => ?_⟩
  walk_at "rd"
  walk_at "md"
  walk_at "rd"
  have cut : cutV (ns.map V.int) (some 2) none = (ns.drop 2).map V.int := by
    have h := cut_from (xs := ns.map V.int) (k := 2)
    rw [List.map_drop]
    exact h
  have ld : (ns.drop 2).length ≤ 63 := by rw [List.length_drop]; omega
  refine r_itd (fun _ => ?_) (fun _ => ?_)
  · walk_at "rd"
    refine r_sll hs fun p hp => ?_
    rw [cut]
    refine lcp_list (ys := ((ns.drop 2).map fun c => c % (2 * 10 ^ (15 : Int).toNat + 1) - 10 ^ (15 : Int).toNat).map V.int) (SqL.of upd_same) (by simp) (by rw [List.length_map]; omega) ?_ ?_
    · intro i x y H' R ex ey s q
      rw [List.getElem?_map] at ex ey
      rw [List.getElem?_map] at ey
      cases e : (ns.drop 2)[i]? with
      | none => rw [e] at ex; cases ex
      | some n =>
        rw [e] at ex ey
        cases ex
        cases ey
        walk_at "rd"
        refine r_I (C := CPow) ⟨by decide, by decide, by decide⟩ ?_
        walk_at "rd"
        walk_at "ml"
        walk_at "rd"
        refine r_I p15 ?_
        walk_at "rd"
        refine r_I (C := CPow) ⟨by decide, by decide, by decide⟩ ?_
        walk_at "rd"
        exact q _ (Same.refl _)
    · intro D H' hD s e
      exact k D _ H' ((same_upd hp).trans s) e (by rw [List.length_map]; omega)
  · walk_at "rd"
    refine r_sll hs fun p hp => ?_
    rw [cut]
    refine lcp_list (ys := ((ns.drop 2).map fun c => c % 21 - 10).map V.int) (SqL.of upd_same) (by simp) (by rw [List.length_map]; omega) ?_ ?_
    · intro i x y H' R ex ey s q
      rw [List.getElem?_map] at ex ey
      rw [List.getElem?_map] at ey
      cases e : (ns.drop 2)[i]? with
      | none => rw [e] at ex; cases ex
      | some n =>
        rw [e] at ex ey
        cases ex
        cases ey
        walk_at "rd"
        walk_at "md"
        walk_at "rd"
        exact q _ (Same.refl _)
    · intro D H' hD s e
      exact k D _ H' ((same_upd hp).trans s) e (by rw [List.length_map]; omega)
theorem ints_sc {ns : List Int} : Scs (ns.map V.int) := fun v hv => by
  obtain ⟨n, _, rfl⟩ := List.mem_map.mp hv
  exact .int
theorem r_neLL {K : PySem.W.Frag} {H : Hp} {Q : VK} {a b : Addr} {r : List V} (h : SqL K H a r) (g : SqL K H b r) (s : Scs r) (k : Q (.bl false) H) : rNeD K (.ref a) (.ref b) H Q := by
  obtain ⟨x, y⟩ := s.lay
  have c : PyData.canLay0 (.list (r.map dOf)) = true := by simp only [PyData.canLay0]; exact x
  have e : PyData.depth (.list (r.map dOf)) ≤ 1 := by simp only [PyData.depth]; omega
  have sh : SeqAt.shaped (.list (r.map dOf)) = true := by
    unfold SeqAt.shaped
    rw [c, decide_eq_true (by omega)]
    rfl
  refine ⟨_, _, .lst h s.dp, .lst g s.dp, sh, sh, ?_⟩
  rw [SeqAt.eqv_refl _ c]
  exact k
def spLaw (K : PySem.W.Frag) : Sp := fun vs H Q _ => ∃ a, vs = [.ref a] ∧ Script K H a ∧ ∀ H', Q (.bl true) H'
theorem len_Law {K : PySem.W.Frag} {vs : List V} {H : Hp} {Q : VK} {E : XK} (h : spLaw K vs H Q E) : vs.length = 1 := by
  obtain ⟨_, rfl, _⟩ := h; rfl
theorem ok_Law {P : Program} {w : World} {K : PySem.W.Frag} {mg : Str → Option Value} {base : Heap} (T : Tx w K mg) : FnOk P w K mg base CX0 4 (He.fAd K dLaw.at_) (fdO K dLaw.at_) P_Law (spLaw K) := by
  refine T.f_Law.ok sc_Law (fun vs H Q E h => len_Law h) (fun cdv A outer s H vs Q E hr h => ⟨_, PSs.nox ((pss_cons (ps_set (i := 1) sc_Law.nd rfl (Or.inl rfl) (pe_call (ok_LRowOf T) (hr.mono (by decide)) rfl T.g_LRowOf T.f_LRowOf.kp T.b_LRowOf .nil pass0 (pa_cons (pv 0) pa_nil)))
      (pss_cons (ps_set (i := 2) sc_Law.nd rfl (Or.inl rfl) (pe_callTy call_list_of (by rfl) T.b_list (by decide +kernel) (pa_cons (pv 1) pa_nil)))
      (pss_cons (ps_set (i := 3) sc_Law.nd rfl (Or.inl rfl) (pe_call (ok_Matched T) (hr.mono (by decide)) rfl T.g_Matched T.f_Matched.kp T.b_Matched .nil pass0 (pa_cons (pv 2) pa_nil)))
      (pss_cons (ps_if (PW.pt (pw_or (pt_not (pt_val (pe_callB call_isi (by rfl) T.b_isinstance (by decide +kernel) (pa_cons (pv 3) (pa_cons (pe_bltn (v := .ty "list") (by rfl) T.b_list (by decide +kernel) rfl) pa_nil))))) (pw_or (pt_not (pt_val (pe_callB call_isi (by rfl) T.b_isinstance (by decide +kernel) (pa_cons (pv 2) (pa_cons (pe_bltn (v := .ty "list") (by rfl) T.b_list (by decide +kernel) rfl) pa_nil))))) (pw_or1 (pt_cmpR (op_neD hr.units) (pv 2) (pv 1) (nomark _)))))) (pss_one (ps_ret pe_bl)) pss_nil)
      (pss_one (ps_ret (pe_call (ok_LMatchedWell T) (hr.mono (by decide)) rfl T.g_LMatchedWell T.f_LMatchedWell.kp T.b_LMatchedWell .nil pass0 (pa_cons (pv 1) (pa_cons (pv 3) pa_nil)))))))))), ?_⟩)
  obtain ⟨s, rfl, S, k⟩ := h
  walk_at "rd"
  refine ⟨s, rfl, S, fun a ns H1 s1 ea hz => ?_⟩
  walk_at "rd"
  refine ⟨a, _, rfl, .inl (SqL.of ea), fun b hb => ?_⟩
  have s2 := same_upd (o := .lst (ns.map V.int)) hb
  have eb : upd H1 b (.lst (ns.map V.int)) b = some (.lst (ns.map V.int)) := upd_same
  have ea2 := s2 _ _ ea
  revert s2 eb ea2
  generalize upd H1 b (.lst (ns.map V.int)) = H2
  intro s2 eb ea2
  walk_at "rd"
  refine ⟨b, ns, rfl, SqL.of eb, hz, fun r xs H3 s3 nr er pr lr => ?_⟩
  walk_at "rd"
  refine r_is_lst_list er ?_
  walk_at "rd"
  refine r_is_lst_list (s3 _ _ eb) ?_
  walk_at "rd"
  refine r_neLL (SqL.of (s3 _ _ eb)) (SqL.of (s3 _ _ ea2)) ints_sc ?_
  walk_at "rd"
  refine ⟨a, r, ns, matchedF ns, rfl, SqL.of (s3 _ _ ea2), hz, ⟨xs, er, pr⟩, by omega, matched_well, matched_sum, fun H4 s4 => ?_⟩
  exact k _

theorem Tx.b_Law_args {w : World} {K : PySem.W.Frag} {mg : Str → Option Value} (T : Tx w K mg) (s : Shared) (v : Value) : BindsTo s (fdO K dLaw.at_) ⟨[v], []⟩ [("_law_script", v)] := by
  have b := FunD.bindsA (ps := ["_law_script"]) T.f_Law fun _ _ _ _ _ _ us hl => match us, hl with | [_], _ => rfl
  exact b s [v] rfl
theorem law_start {K : PySem.W.Frag} {H : Hp} {a : Addr} {ns : List Int} (hs : SqL K H a (ns.map V.int)) (hl : ns.length ≤ 63) : spLaw K [.ref a] H (fun v _ => v = .bl true) fun _ _ _ => False := ⟨a, rfl, ⟨ns, hs, hl⟩, fun _ => rfl⟩
end Of
open PySem PySem.W PySem.Calls PyProof.Rows
set_option maxRecDepth 100000 in
set_option maxHeartbeats 0 in
theorem PySem.Challenge.cw_orderflow_k02_covers_matched_holds : PySem.Challenge.rw_orderflow_k02_covers_matched.Holds := by
  w_on; o_law
  refine HandSHeadRun.head_any (r := OpenLaw.row PySem.Challenge.rw_orderflow_k02_covers_matched) (q := view (OpenLaw.row PySem.Challenge.rw_orderflow_k02_covers_matched).prog [9]) (H := Of.hk) (ob := Of.ob) (M := 20000) (loose := Of.names) (d := HandSHeadRun.topDef (OpenLaw.row PySem.Challenge.rw_orderflow_k02_covers_matched).prog 9) (kwd := []) Of.ob_eq
    (by kernel_rfl) (fun s => by kernel_rfl) Of.run (by kernel_rfl) (by kernel_rfl) (by kernel_rfl) (by rfl) (by first | assumption | decide +kernel) (by decide +kernel) ⟨rfl, rfl, rfl, rfl, rfl, by decide +kernel⟩ ?hw ?hc
  case hw => w_witness2
  case hc =>
    refine L2.walk_ofE (l := PySem.Challenge.rw_orderflow_k02_covers_matched) (n := 63) (k := 4) (x := "_law_script") (CX := L2.CX0) rfl (by decide) (by kernel_rfl) ⟨rfl, by decide, by decide⟩ ?F (fun _ _ _ _ z => z)
    intro w mg fa h Y G hm0
    obtain ⟨K, KX, c⟩ := Y
    have T : Of.Tx w K mg := Of.tx_of KX G c
    have hm : mg ("law" : PySem.Str) = some (.ref fa) := by
      have e : (HandSHeadRun.topDef (OpenLaw.row PySem.Challenge.rw_orderflow_k02_covers_matched).prog 9).name = ("law" : PySem.Str) := by kernel_rfl
      rw [← e]
      exact hm0
    have ef : fa = He.fAd K Of.dLaw.at_ := by
      have q := hm.symm.trans T.g_Law
      cases q
      rfl
    rw [ef]
    exact ⟨K, Of.fdO K Of.dLaw.at_, Of.spLaw K, KX, fun s v => T.b_Law_args s v, fun H a ns hl _ hS => Of.law_start hS hl, fun base _ _ => Of.ok_Law T⟩
#print axioms PySem.Challenge.cw_orderflow_k02_covers_matched_holds
