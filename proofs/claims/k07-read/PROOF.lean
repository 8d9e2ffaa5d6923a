import PyProof.Rows.All
import Wide.All
import OpenK.AllK
import Wide.FinOn
import KE.KStateDown
import Lean
import HandS.ForMost
import HandS.ForExc
import HandS.More
import HandS.TryMany
import HandS.Walk
import HandS.IsInst
import HandS.ExcIs
import HandS.Defaults
import HandS.Head0
import HandS.Head1
import HandS.Head2
import HandS.HeadEnd
import HandS.HeadHook1
import HandS.HeadHook2
import HandS.HeadHook3
import HandS.HeadHook4
import PySem.Challenge.RW_orderflow_k07_shown_and_read
set_option Elab.async false
set_option linter.all false
set_option maxRecDepth 100000
set_option maxHeartbeats 0
namespace Of
open PySem PySem.Spec PyProof.Rows L2
/-! ### a written dict of text keys, whole -/
theorem kd_of {K : PySem.W.Frag} {w : World} {a : Addr} {ks : List Str} (h : He.dicW K a = some (He.keysIn w.params ks)) :
    ∃ es n, K.lookup a = some ⟨.type "dict", none, .dict es n, #[]⟩ ∧ PySem.W.KeysLit w.params es.toList ∧ es.toList.map He.keyOf = He.keysIn w.params ks ∧ (a == sysModules) = false := by
  obtain ⟨es, n, D⟩ := He.dicW_ok h
  refine ⟨es, n, D.at_, D.lit, ?_, D.low⟩
  unfold He.dicW at h
  rw [D.at_] at h
  have e2 : (match decide ((("dict" : String)) = "dict") && ((#[] : Array (Option Value)).isEmpty && !(a == sysModules)) with
    | true => some (es.toList.map He.keyOf)
    | false => none) = some (He.keysIn w.params ks) := h
  have e3 : (decide ((("dict" : String)) = "dict") && ((#[] : Array (Option Value)).isEmpty && !(a == sysModules))) = true := by
    rw [D.low]; rfl
  rw [e3] at e2
  exact Option.some.inj e2

/-! ### what an error's class says, for isinstance -/
def excB (K : PySem.W.Frag) (D : Addr) : Bool := decide (PySem.W.findIn K (.ref D) "__getattribute__" = some (some (.builtin "BaseException.__getattribute__"))) && (decide (PySem.W.findIn K (.ref D) "__getattr__" = some none) &&
  (decide (PySem.W.subIn K (.ref D) (.type "BaseException") = some true) && (PySem.W.hasDictIn K D && (decide (PySem.W.findIn K (.ref D) "__class__" = some (some (.builtin "object.__class__"))) &&
  (decide (PySem.W.specialIn K (.builtin "object.__class__") "__get__" = some (some (.builtin "getset_descriptor.__get__"))) && (decide (PySem.W.takesIn K (.builtin "object.__class__") = some true) && decide (PySem.W.mroIn K D (.type "object") = some true)))))))
theorem excB_ok {K : PySem.W.Frag} {D : Addr} (h : excB K D = true) : ExcC K D := by
  obtain ⟨h1, h⟩ := He.ba h
  obtain ⟨h2, h⟩ := He.ba h
  obtain ⟨h3, h⟩ := He.ba h
  obtain ⟨h4, h⟩ := He.ba h
  obtain ⟨h5, h⟩ := He.ba h
  obtain ⟨h6, h⟩ := He.ba h
  obtain ⟨h7, h8⟩ := He.ba h
  exact ⟨of_decide_eq_true h1, of_decide_eq_true h2, of_decide_eq_true h3, h4, of_decide_eq_true h5, of_decide_eq_true h6, of_decide_eq_true h7, of_decide_eq_true h8⟩
def excAll (K : PySem.W.Frag) (xs : List Str) : Bool := xs.all fun x => excB K (He.ga K x) && (decide (PySem.W.kitOne K (.ref (He.ga K x)) (.type "ValueError") = some true) && xs.all fun y => decide (PySem.W.kitOne K (.ref (He.ga K x)) (.ref (He.ga K y)) = some (decide (x = y))))
theorem excAll_ok {K : PySem.W.Frag} {xs : List Str} (h : excAll K xs = true) {x : Str} (hx : x ∈ xs) : ExcC K (He.ga K x) ∧ PySem.W.kitOne K (.ref (He.ga K x)) (.type "ValueError") = some true ∧
    ∀ y, y ∈ xs → PySem.W.kitOne K (.ref (He.ga K x)) (.ref (He.ga K y)) = some (decide (x = y)) := by
  obtain ⟨h1, h⟩ := He.ba (List.all_eq_true.mp h x hx)
  obtain ⟨h2, h3⟩ := He.ba h
  exact ⟨excB_ok h1, of_decide_eq_true h2, fun y hy => of_decide_eq_true (List.all_eq_true.mp h3 y hy)⟩
/-- isinstance(e, C) in a handler -/
def rIsX (K : PySem.W.Frag) (cls : Value) (d : Option Addr) (a : Addr) : List V → Hp → VK → Prop := fun xs H Q => ∃ (D : Addr) (c : V) (cv : Value) (b : Bool), cls = .ref D ∧ d = none ∧ ExcC K D ∧ xs = [.ref a, c] ∧ ClsV c cv ∧ PySem.W.kitOne K (.ref D) cv = some b ∧ Q (.bl b) H
theorem call_isX {X : Cx} {K : PySem.W.Frag} {a : Addr} {cls : Value} {d : Option Addr} {oe : Obj} {pn : List (Addr × Obj)} (eK : X.K = K) (hz : Zc cls d oe) (hf : ∃ vs, oe.data = .fields vs) : CallR (X.suite a ((a, oe) :: pn)) (.builtin "isinstance") (rIsX K cls d a) := by
  subst eK
  intro pins s σ H xs us Q I r h
  obtain ⟨D, c, cv, b, rfl, rfl, C, rfl, hc, e, q⟩ := h
  exact call_isE C hz hf pins s σ H _ us Q I r ⟨c, cv, b, rfl, fun u ru => hc.eq ru, e, q⟩
/-! ### the text by places -/
def top (i : Nat) : Stmt := PySem.Challenge.pw_orderflow_k07_shown_and_read.main.body.getD i (.Pass ⟨0, 0, 0, 0⟩)
abbrev sIsItem : Stmt := top 6
abbrev sShown : Stmt := top 11
abbrev sLineShown : Stmt := top 12
abbrev sNumberIn : Stmt := top 13
abbrev sLineIn : Stmt := top 14
abbrev sRead : Stmt := top 15
abbrev sLCellAt : Stmt := top 17
abbrev sLWhole : Stmt := top 18
abbrev sLNumberBy : Stmt := top 19
abbrev sLItemBy : Stmt := top 20
abbrev sLAnyDeed : Stmt := top 21
abbrev sLTextOf : Stmt := top 22
abbrev sLPartsAlike : Stmt := top 23
abbrev sLDeedAlike : Stmt := top 24
abbrev sLRead : Stmt := top 25
abbrev sLaw : Stmt := top 26
def dIsItem : He.DefD := ⟨("is_item", none), "is_item", "is_item", defArgs sIsItem, defBody sIsItem, defScope sIsItem, [], []⟩
def dShown : He.DefD := ⟨("shown", none), "shown", "shown", defArgs sShown, defBody sShown, defScope sShown, [], []⟩
def dLineShown : He.DefD := ⟨("line_shown", none), "line_shown", "line_shown", defArgs sLineShown, defBody sLineShown, defScope sLineShown, [], []⟩
def dNumberIn : He.DefD := ⟨("number_in", none), "number_in", "number_in", defArgs sNumberIn, defBody sNumberIn, defScope sNumberIn, [], []⟩
def dLineIn : He.DefD := ⟨("line_in", none), "line_in", "line_in", defArgs sLineIn, defBody sLineIn, defScope sLineIn, [], []⟩
def dRead : He.DefD := ⟨("read", none), "read", "read", defArgs sRead, defBody sRead, defScope sRead, [], []⟩
def dLCellAt : He.DefD := ⟨("_law_cell_at", none), "_law_cell_at", "_law_cell_at", defArgs sLCellAt, defBody sLCellAt, defScope sLCellAt, [], []⟩
def dLWhole : He.DefD := ⟨("_law_whole", none), "_law_whole", "_law_whole", defArgs sLWhole, defBody sLWhole, defScope sLWhole, [], []⟩
def dLNumberBy : He.DefD := ⟨("_law_number_by", none), "_law_number_by", "_law_number_by", defArgs sLNumberBy, defBody sLNumberBy, defScope sLNumberBy, [], []⟩
def dLItemBy : He.DefD := ⟨("_law_item_by", none), "_law_item_by", "_law_item_by", defArgs sLItemBy, defBody sLItemBy, defScope sLItemBy, [], []⟩
def dLAnyDeed : He.DefD := ⟨("_law_any_deed", none), "_law_any_deed", "_law_any_deed", defArgs sLAnyDeed, defBody sLAnyDeed, defScope sLAnyDeed, [], []⟩
def dLTextOf : He.DefD := ⟨("_law_text_of", none), "_law_text_of", "_law_text_of", defArgs sLTextOf, defBody sLTextOf, defScope sLTextOf, [], []⟩
def dLPartsAlike : He.DefD := ⟨("_law_parts_alike", none), "_law_parts_alike", "_law_parts_alike", defArgs sLPartsAlike, defBody sLPartsAlike, defScope sLPartsAlike, [], []⟩
def dLDeedAlike : He.DefD := ⟨("_law_deed_alike", none), "_law_deed_alike", "_law_deed_alike", defArgs sLDeedAlike, defBody sLDeedAlike, defScope sLDeedAlike, [], []⟩
def dLRead : He.DefD := ⟨("_law_read", none), "_law_read", "_law_read", defArgs sLRead, defBody sLRead, defScope sLRead, [], []⟩
def dLaw : He.DefD := ⟨("law", none), "law", "law", defArgs sLaw, defBody sLaw, defScope sLaw, [], []⟩
def fn : List He.DefD := ([dIsItem, dShown, dLineShown, dNumberIn, dLineIn, dRead, dLCellAt, dLWhole, dLNumberBy, dLItemBy, dLAnyDeed, dLTextOf] : List He.DefD) ++ ([dLPartsAlike, dLDeedAlike, dLRead, dLaw] : List He.DefD)
def fa : List He.Fa := ([.glo "is_item", .glo "shown", .glo "line_shown", .glo "number_in", .glo "line_in", .glo "read", .glo "_law_cell_at", .glo "_law_whole", .glo "_law_number_by", .glo "_law_item_by", .glo "_law_any_deed", .glo "_law_text_of"] : List He.Fa) ++ ([.glo "_law_parts_alike", .glo "_law_deed_alike", .glo "_law_read", .glo "law", .free "bool", .free "int", .free "isinstance", .free "len", .free "list", .free "range", .free "str", .free "tuple"] : List He.Fa) ++ ([.str "LETTERS" "abcdefghijklmnopqrstuvwxyz", .int "MOST_LETTERS" 12, .glo "PARTS", .str "FIGURES" "0123456789", .int "MOST_FIGURES" 30, .glo "FlowError", .exc "FlowError", .glo "NoDeed", .exc "NoDeed", .exm "NoDeed" "NoDeed" true] : List He.Fa)
def ts : List He.Tab := [(fun K => He.ga K "PARTS", ["order", "deliver", "back", "swap", "credit", "pay", "refund", "move"])]
def parts : List (Str × Int) := [("order", 2), ("deliver", 4), ("back", 4), ("swap", 4), ("credit", 4), ("pay", 3), ("refund", 3), ("move", 4)]
def ex (K : PySem.W.Frag) : Bool := He.valsB K (He.ga K "PARTS") (parts.map fun p => (p.1, He.Dv.int p.2))
abbrev R : PySem.W.OpenRow := PySem.W.OpenLaw.row PySem.Challenge.rw_orderflow_k07_shown_and_read
abbrev qv : Program := PySem.W.view R.prog [26]
abbrev hk : PySem.W.Hook := He.hookX 5 fa fn ts [] ex
def ob (s : PySem.W.SharedT) : He.AlX := He.obsX 5 fa fn ts [] ex (HandSHeadRun.getT s)
theorem ob_eq (s : PySem.W.SharedT) : ob s = hk.obs s.abs := He.obsX_eq (HandSHeadRun.getT_eq s)
def names : List PySem.Str := (["FlowError", "NoDeed", "LETTERS", "MOST_LETTERS", "is_item", "PARTS", "FIGURES", "MOST_FIGURES", "shown", "line_shown", "number_in", "line_in"] : List PySem.Str) ++ (["read", "_law_cell_at", "_law_whole", "_law_number_by", "_law_item_by", "_law_any_deed", "_law_text_of", "_law_parts_alike", "_law_deed_alike", "_law_read"] : List PySem.Str)
/-! ### what the walk asks of the text -/
def fdO (K : PySem.W.Frag) (p : Str × Option Str) : FuncData := match K.lookup (He.fAd K p) with
  | some ⟨_, _, .func fd, _⟩ => fd
  | _ => PySem.W.fnOf "" "" ⟨[], [], none, [], [], none, []⟩ [] default .none .none .none .none none .none .none
theorem fdO_of {K : PySem.W.Frag} {p : Str × Option Str} {x qual : Str} {params : Arguments} {body : List Stmt} {scope : Scope} {dvs : List V} {kws : List (Str × V)} {fd : FuncData} (F : FunD K x qual params body scope dvs kws (He.fAd K p) fd) :
    FunD K x qual params body scope dvs kws (He.fAd K p) (fdO K p) := by
  obtain ⟨oc, od, dV, kV, doc, pm, an, cdv, ct, osl, e, lk, _⟩ := F.ex
  have q : fdO K p = fd := by
    unfold fdO
    rw [lk]
  rw [q]
  exact F
theorem gi_ok {K : PySem.W.Frag} {h : Heap} {mg : Str → Option Value} (X : K.In h) (G : h.Ns mainGlobals mg) {x : Str} {i : Int} (c : (He.Fa.int x i).ok K = true) : ∃ u, mg x = some u ∧ RelV (.int i) u := by
  obtain ⟨t, h⟩ := He.int_ok X G c
  exact ⟨_, h, t, rfl⟩
theorem gs_ok {K : PySem.W.Frag} {h : Heap} {mg : Str → Option Value} (X : K.In h) (G : h.Ns mainGlobals mg) {x z : Str} (c : (He.Fa.str x z).ok K = true) : ∃ u, mg x = some u ∧ RelV (.str z) u := by
  obtain ⟨t, h⟩ := He.str_ok X G c
  exact ⟨_, h, t, rfl⟩
structure Tx (w : World) (K : PySem.W.Frag) (mg : Str → Option Value) : Prop where
  g_IsItem : mg "is_item" = some (.ref (He.ga K "is_item"))
  g_Shown : mg "shown" = some (.ref (He.ga K "shown"))
  g_LineShown : mg "line_shown" = some (.ref (He.ga K "line_shown"))
  g_NumberIn : mg "number_in" = some (.ref (He.ga K "number_in"))
  g_LineIn : mg "line_in" = some (.ref (He.ga K "line_in"))
  g_Read : mg "read" = some (.ref (He.ga K "read"))
  g_LCellAt : mg "_law_cell_at" = some (.ref (He.ga K "_law_cell_at"))
  g_LWhole : mg "_law_whole" = some (.ref (He.ga K "_law_whole"))
  g_LNumberBy : mg "_law_number_by" = some (.ref (He.ga K "_law_number_by"))
  g_LItemBy : mg "_law_item_by" = some (.ref (He.ga K "_law_item_by"))
  g_LAnyDeed : mg "_law_any_deed" = some (.ref (He.ga K "_law_any_deed"))
  g_LTextOf : mg "_law_text_of" = some (.ref (He.ga K "_law_text_of"))
  g_LPartsAlike : mg "_law_parts_alike" = some (.ref (He.ga K "_law_parts_alike"))
  g_LDeedAlike : mg "_law_deed_alike" = some (.ref (He.ga K "_law_deed_alike"))
  g_LRead : mg "_law_read" = some (.ref (He.ga K "_law_read"))
  g_Law : mg "law" = some (.ref (He.ga K "law"))
  b_bool : mg "bool" = none
  b_int : mg "int" = none
  b_isinstance : mg "isinstance" = none
  b_len : mg "len" = none
  b_list : mg "list" = none
  b_range : mg "range" = none
  b_str : mg "str" = none
  b_tuple : mg "tuple" = none
  c_LETTERS : ∃ u, mg "LETTERS" = some u ∧ RelV (.str "abcdefghijklmnopqrstuvwxyz") u
  c_MOST_LETTERS : ∃ u, mg "MOST_LETTERS" = some u ∧ RelV (.int 12) u
  c_PARTS : mg "PARTS" = some (.ref (He.ga K "PARTS"))
  c_FIGURES : ∃ u, mg "FIGURES" = some u ∧ RelV (.str "0123456789") u
  c_MOST_FIGURES : ∃ u, mg "MOST_FIGURES" = some u ∧ RelV (.int 30) u
  g_FlowError : mg "FlowError" = some (.ref (He.ga K "FlowError"))
  x_FlowError : PySem.W.excIn K (He.ga K "FlowError") He.veBase "ValueError.__new__" = true ∧ PySem.W.keepIn K (.ref (He.ga K "FlowError")) = true ∧ PySem.W.subIn K (.ref (He.ga K "FlowError")) (.type "BaseException") = some true ∧ PySem.W.typeIn K (.ref (He.ga K "FlowError")) = some (.type "type")
  g_NoDeed : mg "NoDeed" = some (.ref (He.ga K "NoDeed"))
  x_NoDeed : PySem.W.excIn K (He.ga K "NoDeed") He.veBase "ValueError.__new__" = true ∧ PySem.W.keepIn K (.ref (He.ga K "NoDeed")) = true ∧ PySem.W.subIn K (.ref (He.ga K "NoDeed")) (.type "BaseException") = some true ∧ PySem.W.typeIn K (.ref (He.ga K "NoDeed")) = some (.type "type")
  e_NoDeed_NoDeed : PySem.W.exmOne K (.ref (He.ga K "NoDeed")) (.ref (He.ga K "NoDeed")) = some true
  f_IsItem : FunD K dIsItem.name dIsItem.qual dIsItem.params dIsItem.body dIsItem.scope [] [] (He.fAd K dIsItem.at_) (fdO K dIsItem.at_)
  f_Shown : FunD K dShown.name dShown.qual dShown.params dShown.body dShown.scope [] [] (He.fAd K dShown.at_) (fdO K dShown.at_)
  f_LineShown : FunD K dLineShown.name dLineShown.qual dLineShown.params dLineShown.body dLineShown.scope [] [] (He.fAd K dLineShown.at_) (fdO K dLineShown.at_)
  f_NumberIn : FunD K dNumberIn.name dNumberIn.qual dNumberIn.params dNumberIn.body dNumberIn.scope [] [] (He.fAd K dNumberIn.at_) (fdO K dNumberIn.at_)
  f_LineIn : FunD K dLineIn.name dLineIn.qual dLineIn.params dLineIn.body dLineIn.scope [] [] (He.fAd K dLineIn.at_) (fdO K dLineIn.at_)
  f_Read : FunD K dRead.name dRead.qual dRead.params dRead.body dRead.scope [] [] (He.fAd K dRead.at_) (fdO K dRead.at_)
  f_LCellAt : FunD K dLCellAt.name dLCellAt.qual dLCellAt.params dLCellAt.body dLCellAt.scope [] [] (He.fAd K dLCellAt.at_) (fdO K dLCellAt.at_)
  f_LWhole : FunD K dLWhole.name dLWhole.qual dLWhole.params dLWhole.body dLWhole.scope [] [] (He.fAd K dLWhole.at_) (fdO K dLWhole.at_)
  f_LNumberBy : FunD K dLNumberBy.name dLNumberBy.qual dLNumberBy.params dLNumberBy.body dLNumberBy.scope [] [] (He.fAd K dLNumberBy.at_) (fdO K dLNumberBy.at_)
  f_LItemBy : FunD K dLItemBy.name dLItemBy.qual dLItemBy.params dLItemBy.body dLItemBy.scope [] [] (He.fAd K dLItemBy.at_) (fdO K dLItemBy.at_)
  f_LAnyDeed : FunD K dLAnyDeed.name dLAnyDeed.qual dLAnyDeed.params dLAnyDeed.body dLAnyDeed.scope [] [] (He.fAd K dLAnyDeed.at_) (fdO K dLAnyDeed.at_)
  f_LTextOf : FunD K dLTextOf.name dLTextOf.qual dLTextOf.params dLTextOf.body dLTextOf.scope [] [] (He.fAd K dLTextOf.at_) (fdO K dLTextOf.at_)
  f_LPartsAlike : FunD K dLPartsAlike.name dLPartsAlike.qual dLPartsAlike.params dLPartsAlike.body dLPartsAlike.scope [] [] (He.fAd K dLPartsAlike.at_) (fdO K dLPartsAlike.at_)
  f_LDeedAlike : FunD K dLDeedAlike.name dLDeedAlike.qual dLDeedAlike.params dLDeedAlike.body dLDeedAlike.scope [] [] (He.fAd K dLDeedAlike.at_) (fdO K dLDeedAlike.at_)
  f_LRead : FunD K dLRead.name dLRead.qual dLRead.params dLRead.body dLRead.scope [] [] (He.fAd K dLRead.at_) (fdO K dLRead.at_)
  f_Law : FunD K dLaw.name dLaw.qual dLaw.params dLaw.body dLaw.scope [] [] (He.fAd K dLaw.at_) (fdO K dLaw.at_)
  kd : ∃ es n, K.lookup (He.ga K "PARTS") = some ⟨.type "dict", none, .dict es n, #[]⟩ ∧ PySem.W.KeysLit w.params es.toList ∧ es.toList.map He.keyOf = He.keysIn w.params (parts.map (·.1)) ∧ ((He.ga K "PARTS") == sysModules) = false
  kv : ex K = true
theorem tx_of {w : World} {K : PySem.W.Frag} {h : Heap} {mg : Str → Option Value} (X : K.In h) (G : h.Ns mainGlobals mg) (c : He.SaysX fa fn ts [] ex w h K) : Tx w K mg where
  g_IsItem := He.glo_ok X G (c.t.d.fact 0 (f := .glo "is_item") rfl)
  g_Shown := He.glo_ok X G (c.t.d.fact 1 (f := .glo "shown") rfl)
  g_LineShown := He.glo_ok X G (c.t.d.fact 2 (f := .glo "line_shown") rfl)
  g_NumberIn := He.glo_ok X G (c.t.d.fact 3 (f := .glo "number_in") rfl)
  g_LineIn := He.glo_ok X G (c.t.d.fact 4 (f := .glo "line_in") rfl)
  g_Read := He.glo_ok X G (c.t.d.fact 5 (f := .glo "read") rfl)
  g_LCellAt := He.glo_ok X G (c.t.d.fact 6 (f := .glo "_law_cell_at") rfl)
  g_LWhole := He.glo_ok X G (c.t.d.fact 7 (f := .glo "_law_whole") rfl)
  g_LNumberBy := He.glo_ok X G (c.t.d.fact 8 (f := .glo "_law_number_by") rfl)
  g_LItemBy := He.glo_ok X G (c.t.d.fact 9 (f := .glo "_law_item_by") rfl)
  g_LAnyDeed := He.glo_ok X G (c.t.d.fact 10 (f := .glo "_law_any_deed") rfl)
  g_LTextOf := He.glo_ok X G (c.t.d.fact 11 (f := .glo "_law_text_of") rfl)
  g_LPartsAlike := He.glo_ok X G (c.t.d.fact 12 (f := .glo "_law_parts_alike") rfl)
  g_LDeedAlike := He.glo_ok X G (c.t.d.fact 13 (f := .glo "_law_deed_alike") rfl)
  g_LRead := He.glo_ok X G (c.t.d.fact 14 (f := .glo "_law_read") rfl)
  g_Law := He.glo_ok X G (c.t.d.fact 15 (f := .glo "law") rfl)
  b_bool := He.free_ok X G (c.t.d.fact 16 (f := .free "bool") rfl)
  b_int := He.free_ok X G (c.t.d.fact 17 (f := .free "int") rfl)
  b_isinstance := He.free_ok X G (c.t.d.fact 18 (f := .free "isinstance") rfl)
  b_len := He.free_ok X G (c.t.d.fact 19 (f := .free "len") rfl)
  b_list := He.free_ok X G (c.t.d.fact 20 (f := .free "list") rfl)
  b_range := He.free_ok X G (c.t.d.fact 21 (f := .free "range") rfl)
  b_str := He.free_ok X G (c.t.d.fact 22 (f := .free "str") rfl)
  b_tuple := He.free_ok X G (c.t.d.fact 23 (f := .free "tuple") rfl)
  c_LETTERS := gs_ok X G (c.t.d.fact 24 (f := .str "LETTERS" "abcdefghijklmnopqrstuvwxyz") rfl)
  c_MOST_LETTERS := gi_ok X G (c.t.d.fact 25 (f := .int "MOST_LETTERS" 12) rfl)
  c_PARTS := He.glo_ok X G (c.t.d.fact 26 (f := .glo "PARTS") rfl)
  c_FIGURES := gs_ok X G (c.t.d.fact 27 (f := .str "FIGURES" "0123456789") rfl)
  c_MOST_FIGURES := gi_ok X G (c.t.d.fact 28 (f := .int "MOST_FIGURES" 30) rfl)
  g_FlowError := He.glo_ok X G (c.t.d.fact 29 (f := .glo "FlowError") rfl)
  x_FlowError := He.exc_ok (c.t.d.fact 30 (f := .exc "FlowError") rfl)
  g_NoDeed := He.glo_ok X G (c.t.d.fact 31 (f := .glo "NoDeed") rfl)
  x_NoDeed := He.exc_ok (c.t.d.fact 32 (f := .exc "NoDeed") rfl)
  e_NoDeed_NoDeed := He.exm_ok (c.t.d.fact 33 (f := .exm "NoDeed" "NoDeed" true) rfl)
  f_IsItem := by
    obtain ⟨fd, F⟩ := c.t.d.def_ 0 (d := dIsItem) rfl
    exact fdO_of F
  f_Shown := by
    obtain ⟨fd, F⟩ := c.t.d.def_ 1 (d := dShown) rfl
    exact fdO_of F
  f_LineShown := by
    obtain ⟨fd, F⟩ := c.t.d.def_ 2 (d := dLineShown) rfl
    exact fdO_of F
  f_NumberIn := by
    obtain ⟨fd, F⟩ := c.t.d.def_ 3 (d := dNumberIn) rfl
    exact fdO_of F
  f_LineIn := by
    obtain ⟨fd, F⟩ := c.t.d.def_ 4 (d := dLineIn) rfl
    exact fdO_of F
  f_Read := by
    obtain ⟨fd, F⟩ := c.t.d.def_ 5 (d := dRead) rfl
    exact fdO_of F
  f_LCellAt := by
    obtain ⟨fd, F⟩ := c.t.d.def_ 6 (d := dLCellAt) rfl
    exact fdO_of F
  f_LWhole := by
    obtain ⟨fd, F⟩ := c.t.d.def_ 7 (d := dLWhole) rfl
    exact fdO_of F
  f_LNumberBy := by
    obtain ⟨fd, F⟩ := c.t.d.def_ 8 (d := dLNumberBy) rfl
    exact fdO_of F
  f_LItemBy := by
    obtain ⟨fd, F⟩ := c.t.d.def_ 9 (d := dLItemBy) rfl
    exact fdO_of F
  f_LAnyDeed := by
    obtain ⟨fd, F⟩ := c.t.d.def_ 10 (d := dLAnyDeed) rfl
    exact fdO_of F
  f_LTextOf := by
    obtain ⟨fd, F⟩ := c.t.d.def_ 11 (d := dLTextOf) rfl
    exact fdO_of F
  f_LPartsAlike := by
    obtain ⟨fd, F⟩ := c.t.d.def_ 12 (d := dLPartsAlike) rfl
    exact fdO_of F
  f_LDeedAlike := by
    obtain ⟨fd, F⟩ := c.t.d.def_ 13 (d := dLDeedAlike) rfl
    exact fdO_of F
  f_LRead := by
    obtain ⟨fd, F⟩ := c.t.d.def_ 14 (d := dLRead) rfl
    exact fdO_of F
  f_Law := by
    obtain ⟨fd, F⟩ := c.t.d.def_ 15 (d := dLaw) rfl
    exact fdO_of F
  kd := by
    have e : ts.map (fun t => He.dicW K (t.1 K)) = ts.map fun t => some (He.keysIn w.params t.2) := congrArg (fun z : He.AlT => z.2) c.t
    have e1 : He.dicW K (He.ga K "PARTS") = some (He.keysIn w.params (parts.map (·.1))) := (List.cons.inj e).1
    exact kd_of e1
  kv := c.more
theorem room_any {k : Nat} {A : Around} (h : Room k A) : Room k A := h
/-! ### rules of our own over the layer -/
theorem pe_gc {X : Cx} {x : Str} {v : V} {pos : Pos} (hg : Gl X x) (hm : ∃ u, X.mg x = some u ∧ RelV v u) (hd : (x == ("__debug__" : Str)) = false := by decide) : PE X (.Name x pos) (tC v) := by
  obtain ⟨u, h, r⟩ := hm
  exact pe_glob hg h r hd
/-! ### readings from the left: one lemma a form -/
section
variable {σ : L2.St} {H : Hp} {Q : VK} {QB : Bool → Hp → Prop} {D : Ends} {K : PySem.W.Frag}
theorem r_seq {t u : TS} (h : t { D with nx := u D } σ H) : tSeq t u D σ H := h
/-- the ways behind a statement are joined: P holds behind it -/
theorem r_join {t u : TS} (P : L2.St → Hp → Prop) (h2 : ∀ σ' H', P σ' H' → u D σ' H') (h1 : ∀ N : L2.St → Hp → Prop, (∀ σ' H', P σ' H' → N σ' H') → t { D with nx := N } σ H) : tSeq t u D σ H := h1 (u D) h2
/-- a test, by what it tells -/
theorem r_ifj {c : TT} {t u : TS} (P : Bool → Hp → Prop) (h2 : ∀ b H', P b H' → if b = true then t D σ H' else u D σ H') (h1 : ∀ QB' : Bool → Hp → Prop, (∀ b H', P b H' → QB' b H') → c σ H QB') : tIfS c t u D σ H := h1 _ h2
theorem r_asg {te : TE} {i : Nat} (h : te σ H fun x H1 => D.nx (σ.set i (some x)) H1) : tAsg te (gName i) D σ H := h
theorem r_gn {i : Nat} {v : V} {R : L2.St → Hp → Prop} (h : R (σ.set i (some v)) H) : gName i v σ H R := h
theorem r_ret {te : TE} (h : te σ H D.rt) : tRet te D σ H := h
theorem r_retN (h : D.rt .non H) : tRetN D σ H := h
theorem r_drop {te : TE} (h : te σ H fun _ H1 => D.nx σ H1) : tDrop te D σ H := h
theorem r_ifs {c : TT} {t u : TS} (h : c σ H fun b H1 => if b = true then t D σ H1 else u D σ H1) : tIfS c t u D σ H := h
theorem r_next (h : D.nx σ H) : tNext D σ H := h
theorem r_var {i : Nat} {v : V} (e : σ[i]? = some (some v)) (h : Q v H) : tVar i σ H Q := ⟨v, e, h⟩
theorem r_c {v : V} (h : Q v H) : tC v σ H Q := h
theorem r_op {r : R2} {ta tb : TE} (h : ta σ H fun x H1 => tb σ H1 fun y H2 => r x y H2 Q) : tOp r ta tb σ H Q := h
theorem r_un {r : V → Hp → VK → Prop} {ta : TE} (h : ta σ H fun x H1 => r x H1 Q) : tUn r ta σ H Q := h
theorem r_U {g : Int → V} {i : Int} (h : Q (g i) H) : rU g (.int i) H Q := ⟨i, rfl, h⟩
theorem r_I0 {g : Int → Int → V} {i j : Int} (h : Q (g i j) H) : rI0 g (.int i) (.int j) H Q := ⟨i, j, rfl, rfl, h⟩
theorem r_I {C : Int → Int → Prop} {g : Int → Int → V} {i j : Int} (c : C i j) (h : Q (g i j) H) : rI C g (.int i) (.int j) H Q := ⟨i, j, rfl, rfl, c, h⟩
theorem r_eqI {i j : Int} (h : Q (.bl (decide (i = j))) H) : rEq (.int i) (.int j) H Q := by
  refine ⟨rfl, ?_⟩
  have e : decide (V.int i = V.int j) = decide (i = j) := by simp
  rw [e]
  exact h
theorem r_neI {i j : Int} (h : Q (.bl (!decide (i = j))) H) : rNe (.int i) (.int j) H Q := by
  refine ⟨rfl, ?_⟩
  have e : decide (V.int i = V.int j) = decide (i = j) := by simp
  rw [e]
  exact h
theorem r_eqS {i j : Str} (h : Q (.bl (decide (i = j))) H) : rEq (.str i) (.str j) H Q := by
  refine ⟨rfl, ?_⟩
  have e : decide (V.str i = V.str j) = decide (i = j) := by simp
  rw [e]
  exact h
theorem r_neS {i j : Str} (h : Q (.bl (!decide (i = j))) H) : rNe (.str i) (.str j) H Q := by
  refine ⟨rfl, ?_⟩
  have e : decide (V.str i = V.str j) = decide (i = j) := by simp
  rw [e]
  exact h
theorem r_test {t : TE} (h : t σ H fun x H1 => ∃ k, x = V.bl k ∧ QB k H1) : tTest t σ H QB := h
theorem r_tB {t : TE} (h : t σ H fun x H1 => ∃ k, x = V.bl k ∧ QB k H1) : tB t σ H QB := h
theorem r_exb {b : Bool} {P : Bool → Prop} (h : P b) : ∃ k, V.bl b = V.bl k ∧ P k := ⟨b, rfl, h⟩
theorem r_and {t u : TT} (h : t σ H fun c H1 => if c = true then u σ H1 QB else QB false H1) : tAnd t u σ H QB := h
theorem r_or {t u : TT} (h : t σ H fun c H1 => if c = true then QB true H1 else u σ H1 QB) : tOr t u σ H QB := h
theorem r_not {t : TT} (h : t σ H fun c H1 => QB (!c) H1) : tNot t σ H QB := h
theorem r_andV {ta tb : TE} (h : ta σ H fun x H1 => ∃ c, x = V.bl c ∧ if c = true then tb σ H1 Q else Q (.bl false) H1) : tAndV ta tb σ H Q := h
theorem r_orV {ta tb : TE} (h : ta σ H fun x H1 => ∃ c, x = V.bl c ∧ if c = true then Q (.bl true) H1 else tb σ H1 Q) : tOrV ta tb σ H Q := h
theorem r_notV {ta : TE} (h : ta σ H fun x H1 => ∃ c, x = V.bl c ∧ Q (.bl (!c)) H1) : tNotV ta σ H Q := h
theorem r_ifE {t : TT} {ta tb : TE} (h : t σ H fun c H1 => if c = true then ta σ H1 Q else tb σ H1 Q) : tIf t ta tb σ H Q := h
theorem r_nil {QA : List V → Hp → Prop} (h : QA [] H) : tNil σ H QA := h
theorem r_cons {te : TE} {ta : TA} {QA : List V → Hp → Prop} (h : te σ H fun x H1 => ta σ H1 fun xs H2 => QA (x :: xs) H2) : tCons te ta σ H QA := h
theorem r_cb {r : List V → Hp → VK → Prop} {t : TA} (h : t σ H fun vs H1 => r vs H1 Q) : tCB r t σ H Q := h
theorem r_tup {t : TA} (h : t σ H fun xs H1 => xs.length ≤ sizeLine ∧ ∀ p, H1 p = none → Q (.ref p) (upd H1 p (.tup xs))) : tTup t σ H Q := h
theorem r_lst {t : TA} (h : t σ H fun xs H1 => xs.length ≤ sizeLine ∧ ∀ p, H1 p = none → Q (.ref p) (upd H1 p (.lst xs))) : tLst t σ H Q := h
theorem r_mk {xs : List V} {P : Addr → Prop} (hl : xs.length ≤ 100) (h : ∀ p, P p) : xs.length ≤ sizeLine ∧ ∀ p, P p := ⟨Nat.le_trans hl (by rw [sizeLine_eq]; decide), h⟩
theorem r_call {sp : Sp} {E : XK} {t : TA} (h : t σ H fun vs H1 => sp (vs ++ []) H1 Q E) : tCall sp [] E t σ H Q := h
theorem r_callS {sp : Sp} {E : L2.St → XK} {t : TA} (h : t σ H fun vs H1 => sp vs H1 Q (E σ)) : tCallS sp E t σ H Q := h
theorem r_meth {C : Addr} {m : Str} {sp : Sp} {E : XK} {ta : TE} {t : TA} (h : ta σ H fun x H1 => ∃ a dx fs, x = V.ref a ∧ H1 a = some (.ins C dx fs) ∧ fs.lookup m = none ∧ t σ H1 fun vs H2 => sp (x :: (vs ++ [])) H2 Q E) :
    tMeth C m sp [] E ta t σ H Q := h
theorem r_m {C : Addr} {m : Str} {a dx : Addr} {fs : List (Str × V)} {P : Prop} (ho : H a = some (.ins C dx fs)) (hn : fs.lookup m = none) (h : P) : ∃ a' dx' fs', V.ref a = V.ref a' ∧ H a' = some (.ins C dx' fs') ∧ fs'.lookup m = none ∧ P :=
  ⟨a, dx, fs, rfl, ho, hn, h⟩
theorem r_fld {ta : TE} {f : Str} (h : ta σ H fun x H1 => ∃ a C dx fs v, x = V.ref a ∧ H1 a = some (.ins C dx fs) ∧ Cls K C ∧ NoAttr K C f ∧ fs.lookup f = some v ∧ Q v H1) : tFld K ta f σ H Q := h
theorem r_f {f : Str} {a C dx : Addr} {fs : List (Str × V)} {v : V} {P : V → Prop} (ho : H a = some (.ins C dx fs)) (hc : Cls K C) (hn : NoAttr K C f) (hl : fs.lookup f = some v) (h : P v) :
    ∃ a' C' dx' fs' v', V.ref a = V.ref a' ∧ H a' = some (.ins C' dx' fs') ∧ Cls K C' ∧ NoAttr K C' f ∧ fs'.lookup f = some v' ∧ P v' := ⟨a, C, dx, fs, v, rfl, ho, hc, hn, hl, h⟩
theorem r_sfld {ta tv : TE} {f : Str} (h : tv σ H fun y H1 => ta σ H1 fun x H2 => ∃ a C dx fs, x = V.ref a ∧ H2 a = some (.ins C dx fs) ∧ Cls K C ∧ NoAttr K C f ∧ fs.length < 1000 ∧ D.nx σ (upd H2 a (.ins C dx (putF f y fs)))) :
    sFld K ta tv f D σ H := h
theorem r_sf {f : Str} {y : V} {a C dx : Addr} {fs gs : List (Str × V)} {P : Hp → Prop} (ho : H a = some (.ins C dx fs)) (hc : Cls K C) (hn : NoAttr K C f) (hp : putF f y fs = gs) (hl : fs.length ≤ 20) (h : P (upd H a (.ins C dx gs))) :
    ∃ a' C' dx' fs', V.ref a = V.ref a' ∧ H a' = some (.ins C' dx' fs') ∧ Cls K C' ∧ NoAttr K C' f ∧ fs'.length < 1000 ∧ P (upd H a' (.ins C' dx' (putF f y fs'))) :=
  ⟨a, C, dx, fs, rfl, ho, hc, hn, Nat.lt_of_le_of_lt hl (by decide), by rw [hp]; exact h⟩
theorem r_ixT {a : Addr} {xs : List V} {i : Int} {v : V} (h : SqT K H a xs) (e : atI xs i = some v) (q : Q v H) : rIxT K (.ref a) (.int i) H Q := ⟨a, xs, i, v, rfl, rfl, h, e, q⟩
theorem r_ixL {a : Addr} {xs : List V} {i : Int} {v : V} (h : SqL K H a xs) (e : atI xs i = some v) (q : Q v H) : rIxL K (.ref a) (.int i) H Q := ⟨a, xs, i, v, rfl, rfl, h, e, q⟩
theorem r_chain {r r' : R2} {ta tb tc : TE} (h : ta σ H fun x H1 => tb σ H1 fun y H2 => r x y H2 fun z H3 => ∃ k, z = V.bl k ∧ (if k = true then tc σ H3 fun w H4 => r' y w H4 Q else Q (.bl false) H3)) : tChain r r' ta tb tc σ H Q := h
theorem r_itd {p : Prop} [Decidable p] {A B : Prop} (h1 : p → A) (h2 : ¬ p → B) : if decide p = true then A else B := by
  by_cases h : p
  · rw [decide_eq_true h, if_pos rfl]; exact h1 h
  · rw [decide_eq_false h, if_neg (by decide)]; exact h2 h
theorem r_itn {p : Prop} [Decidable p] {A B : Prop} (h1 : ¬ p → A) (h2 : p → B) : if (!decide p) = true then A else B := by
  by_cases h : p
  · rw [decide_eq_true h, if_neg (by decide)]; exact h2 h
  · rw [decide_eq_false h, if_pos (show (!false) = true from rfl)]; exact h1 h
theorem r_itb {b : Bool} {A B : Prop} (h1 : b = true → A) (h2 : b = false → B) : if b = true then A else B := by
  cases b with
  | true => rw [if_pos rfl]; exact h1 rfl
  | false => rw [if_neg (by decide)]; exact h2 rfl
theorem r_ity {p : Prop} [Decidable p] {A B : Prop} (hp : p) (h : A) : if decide p = true then A else B := by
  rw [decide_eq_true hp, if_pos rfl]; exact h
theorem r_itz {p : Prop} [Decidable p] {A B : Prop} (hp : ¬ p) (h : B) : if decide p = true then A else B := by
  rw [decide_eq_false hp, if_neg (by decide)]; exact h
theorem r_itT {A B : Prop} (h : A) : if true = true then A else B := h
theorem r_itF {A B : Prop} (h : B) : if false = true then A else B := by
  rw [if_neg (by decide)]; exact h
theorem r_itnT {A B : Prop} (h : B) : if (!true) = true then A else B := by
  rw [if_neg (by decide)]; exact h
theorem r_itnF {A B : Prop} (h : A) : if (!false) = true then A else B := by
  rw [if_pos (by decide)]; exact h
theorem r_make {C : Addr} {sp : Sp} {E : XK} {t : TA} (h : t σ H fun vs H1 => ∀ x dx, H1 x = none → H1 dx = none → dx ≠ x → sp (.ref x :: (vs ++ [])) (upd (upd H1 dx (.own x)) x (.ins C dx [])) (fun v H2 => v = .non ∧ Q (.ref x) H2) E) : tMake C sp [] E t σ H Q := h
theorem r_bm {T : String} {r : V → List V → Hp → VK → Prop} {to : TE} {t : TA} (h : to σ H fun x H1 => tyV K T x H1 ∧ t σ H1 fun xs H2 => r x xs H2 Q) : tBM K T r to t σ H Q := h
theorem r_tyL {p : Addr} {xs : List V} {P : Prop} (h : SqL K H p xs) (q : P) : tyV K "list" (.ref p) H ∧ P := ⟨.inl ⟨rfl, xs, h⟩, q⟩
theorem r_app {l : Addr} {xs : List V} {y : V} (h : H l = some (.lst xs)) (hz : xs.length < sizeLine) (q : Q .non (upd H l (.lst (xs ++ [y])))) : rAppend (.ref l) [y] H Q := ⟨l, xs, y, rfl, rfl, h, hz, q⟩
theorem r_yes (h : QB true H) : tYes σ H QB := h
theorem r_raise {cls : Value} {W : WX} (h : W cls none σ H) : (fun (_ : Ends) (σ : L2.St) (H : Hp) => (fun (_ : L2.St) (H : Hp) (Q : XK) => Q cls none H) σ H fun cls d H' => W cls d σ H') D σ H := h
end
theorem atI_get {α : Type} {xs : List α} {i : Int} {j : Nat} {v : α} (e : i = (j : Int)) (h : xs[j]? = some v) : atI xs i = some v := by
  subst e
  have hl : j < xs.length := (List.getElem?_eq_some_iff.mp h).1
  unfold atI ixN
  rw [if_pos (by omega), if_pos (by omega)]
  simpa using h
theorem lk_hit {a : Str} {v : V} {r : List (Str × V)} : List.lookup a ((a, v) :: r) = some v := by simp [List.lookup]
theorem lk_miss {a b : Str} {v : V} {r : List (Str × V)} (h : ¬ a = b) : List.lookup a ((b, v) :: r) = List.lookup a r := by
  have e : (a == b) = false := by simpa using h
  simp [List.lookup, e]
theorem pf_hit {a : Str} {v u : V} {r : List (Str × V)} : putF a v ((a, u) :: r) = (a, v) :: r := by
  show (if a = a then (a, v) :: r else _) = _
  rw [if_pos rfl]
theorem pf_miss {a b : Str} {v u : V} {r : List (Str × V)} (h : ¬ b = a) : putF a v ((b, u) :: r) = (b, u) :: putF a v r := by
  show (if b = a then _ else (b, u) :: putF a v r) = _
  rw [if_neg h]
theorem pf_nil {a : Str} {v : V} : putF a v [] = [(a, v)] := rfl
/-- all but S is as it was; tuples always -/
structure But (S : Addr → Prop) (H H' : Hp) : Prop where
  keep : ∀ a o, H a = some o → ¬ S a → H' a = some o
  tup : ∀ a xs, H a = some (.tup xs) → H' a = some (.tup xs)
theorem But.refl {S : Addr → Prop} {H : Hp} : But S H H := ⟨fun _ _ h _ => h, fun _ _ h => h⟩
theorem But.trans {S : Addr → Prop} {H H1 H2 : Hp} (a : But S H H1) (b : But S H1 H2) : But S H H2 := ⟨fun x o h n => b.keep x o (a.keep x o h n) n, fun x o h => b.tup x o (a.tup x o h)⟩
theorem But.of {S : Addr → Prop} {H H' : Hp} (h : Same H H') : But S H H' := ⟨fun x o e _ => h x o e, fun x o e => h x _ e⟩
theorem But.mono {S S' : Addr → Prop} {H H' : Hp} (h : But S H H') (m : ∀ a, S a → S' a) : But S' H H' := ⟨fun x o e n => h.keep x o e fun z => n (m x z), h.tup⟩
theorem But.ins {S : Addr → Prop} {H : Hp} {a C dx : Addr} {fs : List (Str × V)} {o : HO} (ha : H a = some (.ins C dx fs)) (h : S a) : But S H (L2.upd H a o) :=
  ⟨fun x u e n => by rw [upd_ne (fun z => n (by rw [z]; exact h))]; exact e, fun x u e => by rw [upd_ne (ne_of e ha (by intro q; cases q))]; exact e⟩
theorem But.lst {S : Addr → Prop} {H : Hp} {a : Addr} {xs : List V} {o : HO} (ha : H a = some (.lst xs)) (h : S a) : But S H (L2.upd H a o) :=
  ⟨fun x u e n => by rw [upd_ne (fun z => n (by rw [z]; exact h))]; exact e, fun x u e => by rw [upd_ne (ne_of e ha (by intro q; cases q))]; exact e⟩
theorem same_upd {H : Hp} {a : Addr} {o : HO} (h : H a = none) : Same H (L2.upd H a o) := fun x u e => by
  rw [upd_ne (ne_of_none e h)]; exact e
/-- a new address may change -/
theorem But.new {S : Addr → Prop} {H H1 : Hp} {a : Addr} {o : HO} (b : But S H H1) (h : H a = none) : But S H (L2.upd H1 a o) :=
  ⟨fun x u e n => by rw [upd_ne (ne_of_none e h)]; exact b.keep x u e n, fun x u e => by rw [upd_ne (ne_of_none e h)]; exact b.tup x u e⟩
theorem But.same {H H' : Hp} (h : But (fun _ => False) H H') : Same H H' := fun x o e => h.keep x o e id
theorem But.mut {S S' : Addr → Prop} {H H1 H2 : Hp} (b : But S H H1) (c : But S' H1 H2) (m : ∀ a, S' a → S a ∨ H a = none) : But S H H2 :=
  ⟨fun x u e n => c.keep x u (b.keep x u e n) fun z => (m x z).elim n fun q => (by rw [q] at e; cases e), fun x u e => c.tup x u (b.tup x u e)⟩
theorem sz5 {n : Nat} (h : n ≤ 100000) : n ≤ sizeLine := Nat.le_trans h (by rw [sizeLine_eq]; decide)
theorem sz5l {n : Nat} (h : n < 100000) : n < sizeLine := Nat.lt_of_lt_of_le h (by rw [sizeLine_eq]; decide)
/-! ### comprehensions -/
theorem wipe1 {σ : L2.St} {j : Nat} {x : V} : wipe ((wipe σ [j]).set j (some x)) [j] = wipe σ [j] := by
  show ((σ.set j none).set j (some x)).set j none = σ.set j none
  simp
theorem take_snoc {α : Type} : ∀ {l : List α} {i : Nat} {x : α}, l[i]? = some x → l.take (i + 1) = l.take i ++ [x]
  | [], i, x, h => by simp at h
  | a :: l, 0, x, h => by
    have e : a = x := Option.some.inj h
    subst e
    rfl
  | a :: l, i + 1, x, h => by
    have ih := take_snoc (l := l) (i := i) (x := x) h
    show a :: l.take (i + 1) = a :: l.take i ++ [x]
    rw [ih]
    rfl
/-- what a comprehension's walk asks -/
def Lcs (J : It) (g : TG) (tt : TT) (te : TE) (vs : List Nat) (σ : L2.St) (H1 : Hp) (Q : VK) : Prop := ∀ D, H1 D = none → ∃ W : Nat → Nat → Hp → Prop, (∃ m, W 0 m (L2.upd H1 D (.lst []))) ∧ ∀ i m H, W i m H →
  (J.stop i H ∧ Q (.ref D) H) ∨ (J.go i H ∧ ∃ Nx : Hp → Prop, (∀ H', Nx H' → ∃ m', m' < m ∧ W (i + 1) m' H') ∧ ∀ x H', J.yld i H x H' → g x (wipe σ vs) H' fun σ2 H2 => wipe σ2 vs = wipe σ vs ∧ tt σ2 H2 fun b H3 =>
    if b = true then te σ2 H3 fun y H4 => ∃ acc, H4 D = some (.lst acc) ∧ acc.length < sizeLine ∧ Nx (L2.upd H4 D (.lst (acc ++ [y]))) else Nx H3)
theorem r_lcl {K : PySem.W.Frag} {tl te : TE} {g : TG} {tt : TT} {vs : List Nat} {σ : L2.St} {H : Hp} {Q : VK} (h : tl σ H fun x H1 => ∃ a, x = V.ref a ∧ (∃ xs, SqL K H1 a xs) ∧ Lcs (Itl K a) g tt te vs σ H1 Q) : tLc (iList K tl) g tt te vs σ H Q := h
theorem r_lct {K : PySem.W.Frag} {tl te : TE} {g : TG} {tt : TT} {vs : List Nat} {σ : L2.St} {H : Hp} {Q : VK} (h : tl σ H fun x H1 => ∃ a, x = V.ref a ∧ (∃ xs, SqT K H1 a xs) ∧ Lcs (Itt K a) g tt te vs σ H1 Q) : tLc (iTup K tl) g tt te vs σ H Q := h
theorem r_lcr {ta : TA} {te : TE} {g : TG} {tt : TT} {vs : List Nat} {σ : L2.St} {H : Hp} {Q : VK} (h : ta σ H fun us H1 => ∃ j : Int, us = [V.int j] ∧ -(2 ^ 62) ≤ j ∧ j < 2 ^ 62 ∧ Lcs (Itr 0 j.toNat) g tt te vs σ H1 Q) : tLc (iRng1 ta) g tt te vs σ H Q := h
/-- a comprehension whose elements leave what stands: by the list of its values -/
theorem lcp_list {K : PySem.W.Frag} {te : TE} {j : Nat} {σ : L2.St} {H1 : Hp} {Q : VK} {a : Addr} {xs ys : List V} (hs : SqL K H1 a xs) (hl : ys.length = xs.length) (hz : xs.length ≤ 100000)
    (he : ∀ (i : Nat) (x y : V) (H' : Hp) (R : VK), xs[i]? = some x → ys[i]? = some y → Same H1 H' → (∀ H'', Same H' H'' → R y H'') → te ((wipe σ [j]).set j (some x)) H' R)
    (k : ∀ (D : Addr) (H' : Hp), H1 D = none → Same H1 H' → H' D = some (.lst ys) → Q (.ref D) H') : ∃ a', V.ref a = V.ref a' ∧ (∃ xs, SqL K H1 a' xs) ∧ Lcs (Itl K a') (gName j) tYes te [j] σ H1 Q := by
  refine ⟨a, rfl, ⟨xs, hs⟩, fun D hD => ?_⟩
  refine lc_list (K := K) (a := a) (xs := xs) (fun i H' => Same H1 H' ∧ H' D = some (.lst (ys.take i))) ⟨same_upd hD, upd_same⟩ (fun i H' _ p => p.1.seq hs) ?_ ?_
  · rintro i x H' hi ⟨s, e⟩
    have hi2 : i < ys.length := by rw [hl]; exact (List.getElem?_eq_some_iff.mp hi).1
    have ey : ys[i]? = some ys[i] := List.getElem?_eq_getElem hi2
    refine ⟨wipe1, r_yes (r_itT ?_)⟩
    refine he i x _ H' _ hi ey s fun H'' s2 => ⟨_, s2 _ _ e, ?_, ?_, ?_⟩
    · refine sz5l ?_
      rw [List.length_take]
      omega
    · exact fun b o q => by
        rw [upd_ne (ne_of_none q hD)]
        exact s2 _ _ (s _ _ q)
    · rw [upd_same, take_snoc ey]
  · rintro H' ⟨s, e⟩
    refine k D H' hD s ?_
    rw [e, List.take_of_length_le (by omega)]
/-- .. whose elements are told by a relation that leans on tuples alone -/
theorem lcp_rel {K : PySem.W.Frag} {te : TE} {j : Nat} {σ : L2.St} {H1 : Hp} {Q : VK} {a : Addr} {xs : List V} {α : Type} {R : Hp → V → α → Prop} {zs : List α} (hs : SqL K H1 a xs) (hl : zs.length = xs.length) (hz : xs.length ≤ 100000)
    (stab : ∀ H H' v z, R H v z → (∀ b ys, H b = some (.tup ys) → H' b = some (.tup ys)) → R H' v z)
    (he : ∀ (i : Nat) (x : V) (z : α) (H' : Hp) (W : VK), xs[i]? = some x → zs[i]? = some z → Same H1 H' → (∀ y H'', Same H' H'' → R H'' y z → W y H'') → te ((wipe σ [j]).set j (some x)) H' W)
    (k : ∀ (D : Addr) (H' : Hp) (acc : List V), H1 D = none → Same H1 H' → H' D = some (.lst acc) → Paired (R H') acc zs → Q (.ref D) H') : ∃ a', V.ref a = V.ref a' ∧ (∃ xs, SqL K H1 a' xs) ∧ Lcs (Itl K a') (gName j) tYes te [j] σ H1 Q := by
  refine ⟨a, rfl, ⟨xs, hs⟩, fun D hD => ?_⟩
  refine lc_list (K := K) (a := a) (xs := xs) (fun i H' => Same H1 H' ∧ ∃ acc, H' D = some (.lst acc) ∧ Paired (R H') acc (zs.take i)) ⟨same_upd hD, [], upd_same, .nil⟩ (fun i H' _ p => p.1.seq hs) ?_ ?_
  · rintro i x H' hi ⟨s, acc, e, pr⟩
    have hi1 : i < xs.length := (List.getElem?_eq_some_iff.mp hi).1
    have hi2 : i < zs.length := by rw [hl]; exact hi1
    have ez : zs[i]? = some zs[i] := List.getElem?_eq_getElem hi2
    refine ⟨wipe1, r_yes (r_itT ?_)⟩
    refine he i x _ H' _ hi ez s fun y H'' s2 r => ⟨acc, s2 _ _ e, ?_, ?_, acc ++ [y], upd_same, ?_⟩
    · have := pr.length
      rw [List.length_take] at this
      refine sz5l ?_
      omega
    · exact fun b o q => by
        rw [upd_ne (ne_of_none q hD)]
        exact s2 _ _ (s _ _ q)
    · have up : ∀ b ys, H'' b = some (.tup ys) → L2.upd H'' D (.lst (acc ++ [y])) b = some (.tup ys) := fun b ys q => by
        rw [upd_ne (ne_of q (s2 _ _ e) (by intro z; cases z))]
        exact q
      rw [take_snoc ez]
      exact Paired.snoc (Paired.mapP pr fun _ _ q => stab _ _ _ _ q fun b ys w => up b ys (s2 _ _ w)) (stab _ _ _ _ r up)
  · rintro H' ⟨s, acc, e, pr⟩
    rw [List.take_of_length_le (by omega)] at pr
    exact k D H' acc hD s e pr
/-- .. over a range -/
theorem lcp_range {te : TE} {j : Nat} {σ : L2.St} {H1 : Hp} {Q : VK} {n : Int} {ys : List V} (hl : ys.length = n.toNat) (hz : n ≤ 100000) (hn : -100000 ≤ n)
    (he : ∀ (i : Nat) (y : V) (H' : Hp) (R : VK), ys[i]? = some y → Same H1 H' → (∀ H'', Same H' H'' → R y H'') → te ((wipe σ [j]).set j (some (.int (i : Int)))) H' R)
    (k : ∀ (D : Addr) (H' : Hp), H1 D = none → Same H1 H' → H' D = some (.lst ys) → Q (.ref D) H') : ∃ m : Int, [V.int n] = [V.int m] ∧ -(2 ^ 62) ≤ m ∧ m < 2 ^ 62 ∧ Lcs (Itr 0 m.toNat) (gName j) tYes te [j] σ H1 Q := by
  refine ⟨n, rfl, by omega, by omega, fun D hD => ?_⟩
  refine lc_range (lo := 0) (n := n.toNat) (fun i H' => Same H1 H' ∧ H' D = some (.lst (ys.take i))) ⟨same_upd hD, upd_same⟩ ?_ ?_
  · rintro i H' hi ⟨s, e⟩
    have hi2 : i < ys.length := by rw [hl]; exact hi
    have ey : ys[i]? = some ys[i] := List.getElem?_eq_getElem hi2
    refine ⟨wipe1, r_yes (r_itT ?_)⟩
    rw [Int.zero_add]
    refine he i _ H' _ ey s fun H'' s2 => ⟨_, s2 _ _ e, ?_, ?_, ?_⟩
    · refine sz5l ?_
      rw [List.length_take]
      omega
    · exact fun b o q => by
        rw [upd_ne (ne_of_none q hD)]
        exact s2 _ _ (s _ _ q)
    · rw [upd_same, take_snoc ey]
  · rintro H' ⟨s, e⟩
    refine k D H' hD s ?_
    rw [e, List.take_of_length_le (by omega)]
/-! ### what a for's walk asks -/
def Fors (J : It) (g : TG) (tb : TS) (D : Ends) (σ : L2.St) (H1 : Hp) : Prop := ∃ W : Nat → Nat → L2.St → Hp → Prop, (∃ m, W 0 m σ H1) ∧ ∀ i m σ H, W i m σ H →
  (J.stop i H ∧ D.nx σ H) ∨ (J.go i H ∧ ∃ N : L2.St → Hp → Prop, (∀ σ' H', N σ' H' → ∃ m', m' < m ∧ W (i + 1) m' σ' H') ∧ ∀ x H', J.yld i H x H' → g x σ H' fun σ2 H2 => tb { D with nx := N, ct := N, bk := D.nx } σ2 H2)
theorem r_forl {K : PySem.W.Frag} {tl : TE} {g : TG} {tb : TS} {D : Ends} {σ : L2.St} {H : Hp} (h : tl σ H fun x H1 => ∃ a, x = V.ref a ∧ (∃ xs, SqL K H1 a xs) ∧ Fors (Itl K a) g tb D σ H1) : tFor (iList K tl) g tb D σ H := h
theorem r_fort {K : PySem.W.Frag} {tl : TE} {g : TG} {tb : TS} {D : Ends} {σ : L2.St} {H : Hp} (h : tl σ H fun x H1 => ∃ a, x = V.ref a ∧ (∃ xs, SqT K H1 a xs) ∧ Fors (Itt K a) g tb D σ H1) : tFor (iTup K tl) g tb D σ H := h
theorem r_fors {te : TE} {g : TG} {tb : TS} {D : Ends} {σ : L2.St} {H : Hp} (h : te σ H fun v H1 => ∃ x, v = V.str x ∧ Fors (Its x) g tb D σ H1) : tFor (iStr te) g tb D σ H := h
theorem r_forr {ta : TA} {g : TG} {tb : TS} {D : Ends} {σ : L2.St} {H : Hp} (h : ta σ H fun us H1 => ∃ j : Int, us = [V.int j] ∧ -(2 ^ 62) ≤ j ∧ j < 2 ^ 62 ∧ Fors (Itr 0 j.toNat) g tb D σ H1) : tFor (iRng1 ta) g tb D σ H := h
theorem r_forr2 {ta : TA} {g : TG} {tb : TS} {D : Ends} {σ : L2.St} {H : Hp} (h : ta σ H fun us H1 => ∃ i j : Int, us = [V.int i, V.int j] ∧ (-(2 ^ 62) ≤ i ∧ i < 2 ^ 62 ∧ -(2 ^ 62) ≤ j ∧ j < 2 ^ 62) ∧ Fors (Itr i (j - i).toNat) g tb D σ H1) : tFor (iRng2 ta) g tb D σ H := h
theorem pf_m {a b : Str} {v u : V} {r s : List (Str × V)} (h : ¬ b = a) (e : putF a v r = s) : putF a v ((b, u) :: r) = (b, u) :: s := by
  rw [pf_miss h, e]
theorem lk_m {a b : Str} {v u : V} {r : List (Str × V)} (h : ¬ a = b) (e : List.lookup a r = some u) : List.lookup a ((b, v) :: r) = some u := (lk_miss h).trans e
theorem lk_n {a b : Str} {v : V} {r : List (Str × V)} (h : ¬ a = b) (e : List.lookup a r = none) : List.lookup a ((b, v) :: r) = none := (lk_miss h).trans e
/-! ### the data of the program -/
structure Ln where
  item : Str
  ordered : Int
  cents : Int
  pack : Int
  sent : Int
  home : Int
  again : Int
  credited : Int
def lnF (l : Ln) : List (Str × V) := [("item", .str l.item), ("ordered", .int l.ordered), ("cents", .int l.cents), ("pack", .int l.pack), ("sent", .int l.sent), ("home", .int l.home), ("again", .int l.again), ("credited", .int l.credited)]
def odF (ll : Addr) (m : Int) (lm : Addr) : List (Str × V) := [("lines", .ref ll), ("money", .int m), ("marks", .ref lm)]
def bkF (e t : Addr) : List (Str × V) := [("each", .ref e), ("trail", .ref t)]
/-! ### a method that may raise, called in a try -/
def tMX (C : Addr) (m : Str) (sp : Sp) (E : L2.St → XK) (ta : TE) (t : TA) : TE := fun σ H Q => ta σ H fun x H1 => ∃ a dx fs, x = V.ref a ∧ H1 a = some (.ins C dx fs) ∧ fs.lookup m = none ∧ t σ H1 fun vs H2 => sp (x :: vs) H2 Q (E σ)
theorem pe_mX {X : Cx} {CX : CXT} {k : Nat} {f C : Addr} {fd : FuncData} {ps : List Str} {sp : Sp} {E : L2.St → XK} {m : Str} {pos apos : Pos} {e o : Expr} {es : List Expr} {ta : TE} {t : TA} {pl : Sem Bool}
    (ho : PE X o ta) (hc : Cls X.K C) (hm : Meth X.K C m f) (G : FnOk X.prog X.w X.K X.mg X.base CX k f fd ps sp) (room : Room k X.A) (bd : Binds X.K fd ps []) (pass : ∀ σ, PassesAt CX X σ (E σ)) (hargs : PA X (e :: es) t)
    (hstar : starEach (e :: es) X.env = (false, eval e X.env) :: starEach es X.env := by rfl) (hplain : (backTo pos (starEach es X.env)).any (·.1) = false := by rfl)
    (hform : eval (.Call (.Attribute o m apos) (e :: es) [] pos) X.env = (do let ov ← eval o X.env; standAt apos.atName; let (f, first) ← holding [ov] (getMethod ov m pl); callWith pos f first (backTo pos (starEach (e :: es) X.env)) (backToKw pos (keywordEach [] X.env))) := by rfl) :
    PE X (.Call (.Attribute o m apos) (e :: es) [] pos) (tMX C m sp E ta t) := by
  refine ⟨fun pins st σ H Q inv hq => ?_⟩
  refine PySem.W.methodCall_KW (pl := pl) (thn (ho.run pins st σ H _ inv hq) fun u st1 hu => ?_) hform
  obtain ⟨x, H1, inv1, rx, a, dx, fs, ex, ea, hl, q⟩ := hu
  subst ex
  obtain rfl : u = Value.ref a := rx
  refine getmeth_ok inv1 ea hc hm hl ?_
  refine PySem.W.callWith_K (first := [.ref a]) (h₀ := X.base) inv1.ok.mod.kin hm.kp (thn (hargs.run pos pins st1 σ H1 _ inv1 q) fun us st2 hv => ?_) hstar hplain
  obtain ⟨vs, H2, inv2, rv, q2⟩ := hv
  exact ⟨inv2.kIn, run_fnS (us := .ref a :: us) (vs := .ref a :: vs) G room bd (pass σ) inv2 (.cons rfl rv) q2⟩
theorem pe_mX0 {X : Cx} {CX : CXT} {k : Nat} {f C : Addr} {fd : FuncData} {ps : List Str} {sp : Sp} {E : L2.St → XK} {m : Str} {pos apos : Pos} {o : Expr} {ta : TE} {pl : Sem Bool}
    (ho : PE X o ta) (hc : Cls X.K C) (hm : Meth X.K C m f) (G : FnOk X.prog X.w X.K X.mg X.base CX k f fd ps sp) (room : Room k X.A) (bd : Binds X.K fd ps []) (pass : ∀ σ, PassesAt CX X σ (E σ))
    (hform : eval (.Call (.Attribute o m apos) [] [] pos) X.env = (do let ov ← eval o X.env; standAt apos.atName; let (f, first) ← holding [ov] (getMethod ov m pl); callWith pos f first (backTo pos (starEach [] X.env)) (backToKw pos (keywordEach [] X.env))) := by rfl) :
    PE X (.Call (.Attribute o m apos) [] [] pos) (tMX C m sp E ta tNil) := by
  refine ⟨fun pins st σ H Q inv hq => ?_⟩
  refine PySem.W.methodCall_KW (pl := pl) (thn (ho.run pins st σ H _ inv hq) fun u st1 hu => ?_) hform
  obtain ⟨x, H1, inv1, rx, a, dx, fs, ex, ea, hl, q⟩ := hu
  subst ex
  obtain rfl : u = Value.ref a := rx
  refine getmeth_ok inv1 ea hc hm hl ?_
  exact PySem.W.callWith_K0 (first := [.ref a]) inv1.kIn hm.kp (run_fnS (us := [.ref a]) (vs := [.ref a]) G room bd (pass σ) inv1 (.cons rfl .nil) q)
section
variable {σ : L2.St} {H : Hp} {Q : VK} {QB : Bool → Hp → Prop} {D : Ends} {K : PySem.W.Frag}
theorem r_mx {C : Addr} {m : Str} {sp : Sp} {E : L2.St → XK} {ta : TE} {t : TA} (h : ta σ H fun x H1 => ∃ a dx fs, x = V.ref a ∧ H1 a = some (.ins C dx fs) ∧ fs.lookup m = none ∧ t σ H1 fun vs H2 => sp (x :: vs) H2 Q (E σ)) : tMX C m sp E ta t σ H Q := h
/-! ### slices, stores, kinds -/
theorem r_sl {r : V → Option Int → Option Int → Hp → VK → Prop} {te : TE} {tl th : TO} (h : te σ H fun x H1 => tl σ H1 fun l H2 => th σ H2 fun u H3 => r x l u H3 Q) : tSl r te tl th σ H Q := h
theorem r_part {te : TE} {QO : Option Int → Hp → Prop} (h : te σ H fun x H1 => ∃ i, x = V.int i ∧ QO (some i) H1) : tPart te σ H QO := h
theorem r_nopart {QO : Option Int → Hp → Prop} (h : QO none H) : tNoPart σ H QO := h
theorem r_exi {i : Int} {P : Int → Prop} (h : P i) : ∃ j, V.int i = V.int j ∧ P j := ⟨i, rfl, h⟩
theorem r_sll {a : Addr} {xs : List V} {lo hi : Option Int} (hs : SqL K H a xs) (k : ∀ p, H p = none → Q (.ref p) (upd H p (.lst (cutV xs lo hi)))) : rSlL K (.ref a) lo hi H Q := ⟨a, xs, rfl, hs, k⟩
theorem r_asgS {te to ti : TE} (h : te σ H fun x H1 => to σ H1 fun o H2 => ti σ H2 fun i H3 => rSetL o i x H3 fun H4 => D.nx σ H4) : tAsg te (gSub to ti rSetL) D σ H := h
theorem r_setL {p : Addr} {xs : List V} {i : Int} {j : Nat} {v : V} {R : Hp → Prop} (h : H p = some (.lst xs)) (e : i = (j : Int)) (hj : j < xs.length) (q : R (upd H p (.lst (xs.set j v)))) : rSetL (.ref p) (.int i) v H R :=
  ⟨p, xs, i, j, rfl, rfl, h, by unfold ixN; rw [e, if_pos (by omega), if_pos (by omega)]; simp, q⟩
theorem r_isi {x : V} {t : Value} {n : String} {b : Bool} (ty : TyOf K H x t) (hk : PySem.W.kitOne K t (.type n) = some b) (q : Q (.bl b) H) : rIsi K [x, .ty n] H Q := ⟨x, .ty n, t, .type n, b, rfl, .ty n, .base ty, hk, q⟩
theorem r_is_int_int {i : Int} (q : Q (.bl true) H) : rIsi K [.int i, .ty "int"] H Q := r_isi (.int i) (kit_ty (by decide +kernel)) q
theorem r_is_int_bool {i : Int} (q : Q (.bl false) H) : rIsi K [.int i, .ty "bool"] H Q := r_isi (.int i) (kit_ty (by decide +kernel)) q
theorem r_is_int_str {i : Int} (q : Q (.bl false) H) : rIsi K [.int i, .ty "str"] H Q := r_isi (.int i) (kit_ty (by decide +kernel)) q
theorem r_is_str_str {i : Str} (q : Q (.bl true) H) : rIsi K [.str i, .ty "str"] H Q := r_isi (.str i) (kit_ty (by decide +kernel)) q
theorem r_is_str_int {i : Str} (q : Q (.bl false) H) : rIsi K [.str i, .ty "int"] H Q := r_isi (.str i) (kit_ty (by decide +kernel)) q
theorem r_is_str_list {i : Str} (q : Q (.bl false) H) : rIsi K [.str i, .ty "list"] H Q := r_isi (.str i) (kit_ty (by decide +kernel)) q
theorem r_is_lst_list {a : Addr} {xs : List V} (h : H a = some (.lst xs)) (q : Q (.bl true) H) : rIsi K [.ref a, .ty "list"] H Q := r_isi (.lst h) (kit_ty (by decide +kernel)) q
theorem r_is_lst_str {a : Addr} {xs : List V} (h : H a = some (.lst xs)) (q : Q (.bl false) H) : rIsi K [.ref a, .ty "str"] H Q := r_isi (.lst h) (kit_ty (by decide +kernel)) q
theorem r_is_tup_tuple {a : Addr} {xs : List V} (h : H a = some (.tup xs)) (q : Q (.bl true) H) : rIsi K [.ref a, .ty "tuple"] H Q := r_isi (.tup h) (kit_ty (by decide +kernel)) q
end
theorem cut_from {xs : List V} {k : Nat} : cutV xs (some (k : Int)) none = xs.drop k := by
  unfold cutV
  rw [HT.sIx_nat, HT.sIx_none]
  by_cases h : k ≤ xs.length
  · rw [Nat.min_eq_left h, List.take_of_length_le (by simp)]
  · rw [Nat.min_eq_right (by omega), List.drop_of_length_le (Nat.le_refl _), List.drop_of_length_le (by omega)]
    simp

/-! ### readings with the kernel's own name (in a comprehension's block) -/
section
variable {X : Cx} {K : PySem.W.Frag}
theorem ix_listK (e : X.K = K) : IxR X (rIxL K) := by subst e; exact ix_list
theorem ix_tupK (e : X.K = K) : IxR X (rIxT K) := by subst e; exact ix_tup
theorem op_eqDK (e : X.K = K) (hu : X.A.units + 64 < cLine) : OpR X (compareOp .Eq) (rEqD K) := by subst e; exact op_eqD hu
theorem op_neDK (e : X.K = K) (hu : X.A.units + 64 < cLine) : OpR X (compareOp .NotEq) (rNeD K) := by subst e; exact op_neD hu
theorem call_lenK (e : X.K = K) : CallR X (.builtin "len") (fun xs H Q => ∃ p ys, xs = [.ref p] ∧ (SqL K H p ys ∨ SqT K H p ys) ∧ Q (.int ys.length) H) := by subst e; exact call_len_seq
theorem call_listK (e : X.K = K) : CallR X (.type "list") (fun xs H Q => ∃ p ys, xs = [.ref p] ∧ (SqL K H p ys ∨ SqT K H p ys) ∧ ∀ l, H l = none → Q (.ref l) (upd H l (.lst ys))) := by subst e; exact call_list_of
theorem fldK {E : Expr} {ta : TE} {f : Str} (e : X.K = K) (h : PE X E (tFld X.K ta f)) : PE X E (tFld K ta f) := by subst e; exact h
theorem bmK {E : Expr} {T : String} {r : V → List V → Hp → VK → Prop} {to : TE} {t : TA} (e : X.K = K) (h : PE X E (tBM X.K T r to t)) : PE X E (tBM K T r to t) := by subst e; exact h
end
/-! ### data that is compared -/
def dOf : V → PyData
  | .non => .none
  | .bl b => .bool b
  | .int i => .int i
  | .str z => .str z
  | _ => .none
/-- an int, or a text -/
def Sc (v : V) : Prop := (∃ i, v = .int i) ∨ ∃ z, v = .str z ∧ PyData.strOk z = true
theorem Sc.int {i : Int} : Sc (.int i) := .inl ⟨i, rfl⟩
theorem Sc.dp {K : PySem.W.Frag} {H : Hp} {v : V} (h : Sc v) : Dp K H v (dOf v) := by
  rcases h with ⟨i, rfl⟩ | ⟨z, rfl, _⟩
  · exact .int i
  · exact .str z
theorem Sc.lay {v : V} (h : Sc v) : PyData.canLay0 (dOf v) = true ∧ PyData.depth (dOf v) = 0 := by
  rcases h with ⟨i, rfl⟩ | ⟨z, rfl, hz⟩
  · exact ⟨by simp only [dOf, PyData.canLay0], by simp only [dOf, PyData.depth]⟩
  · exact ⟨by simp only [dOf, PyData.canLay0]; exact hz, by simp only [dOf, PyData.depth]⟩
theorem Sc.eqv {v u : V} (h : Sc v) (g : Sc u) : PyData.eqv (dOf v) (dOf u) = decide (v = u) := by
  rcases h with ⟨i, rfl⟩ | ⟨z, rfl, _⟩ <;> rcases g with ⟨j, rfl⟩ | ⟨y, rfl, _⟩
  · simp [dOf, PyData.eqv, Bool.beq_eq_decide_eq]
  · simp [dOf, PyData.eqv]
  · simp [dOf, PyData.eqv]
  · simp [dOf, PyData.eqv, Bool.beq_eq_decide_eq]
def Scs (vs : List V) : Prop := ∀ v, v ∈ vs → Sc v
theorem Scs.nil : Scs [] := fun _ h => by cases h
theorem Scs.cons {v : V} {vs : List V} (h : Sc v) (g : Scs vs) : Scs (v :: vs) := fun u hu => by
  rcases List.mem_cons.mp hu with e | e
  · rw [e]; exact h
  · exact g u e
theorem Scs.dp {K : PySem.W.Frag} {H : Hp} : ∀ {vs : List V}, Scs vs → DpAll K H vs (vs.map dOf)
  | [], _ => .nil
  | v :: vs, h => .cons (h v List.mem_cons_self).dp (Scs.dp fun u hu => h u (List.mem_cons_of_mem _ hu))
theorem Scs.lay : ∀ {vs : List V}, Scs vs → PyData.canLayAll0 (vs.map dOf) = true ∧ PyData.depthAll (vs.map dOf) = 0
  | [], _ => ⟨by simp only [List.map_nil, PyData.canLayAll0], by simp only [List.map_nil, PyData.depthAll]⟩
  | v :: vs, h => by
    obtain ⟨a, b⟩ := (h v List.mem_cons_self).lay
    obtain ⟨c, d⟩ := Scs.lay (vs := vs) fun u hu => h u (List.mem_cons_of_mem _ hu)
    refine ⟨?_, ?_⟩
    · simp only [List.map_cons, PyData.canLayAll0, a, c, Bool.and_self]
    · simp only [List.map_cons, PyData.depthAll, b, d]; rfl
theorem Scs.eqv : ∀ {vs us : List V}, Scs vs → Scs us → PyData.eqvAll (vs.map dOf) (us.map dOf) = decide (vs = us)
  | [], [], _, _ => by simp [PyData.eqvAll]
  | [], u :: us, _, _ => by simp [PyData.eqvAll]
  | v :: vs, [], _, _ => by simp [PyData.eqvAll]
  | v :: vs, u :: us, h, g => by
    have ih := Scs.eqv (vs := vs) (us := us) (fun u hu => h u (List.mem_cons_of_mem _ hu)) fun u hu => g u (List.mem_cons_of_mem _ hu)
    simp only [List.map_cons, PyData.eqvAll, ih, (h v List.mem_cons_self).eqv (g u List.mem_cons_self)]
    simp
/-- a tuple of such -/
def dTup (r : List V) : PyData := .tuple (r.map dOf)
theorem dTup_dp {K : PySem.W.Frag} {H : Hp} {a : Addr} {r : List V} (h : SqT K H a r) (s : Scs r) : Dp K H (.ref a) (dTup r) := .tup h s.dp
theorem dTup_lay {r : List V} (s : Scs r) : PyData.canLay0 (dTup r) = true ∧ PyData.depth (dTup r) = 1 := by
  obtain ⟨a, b⟩ := s.lay
  exact ⟨by simp only [dTup, PyData.canLay0]; exact a, by simp only [dTup, PyData.depth, b]⟩
theorem dTup_shaped {r : List V} (s : Scs r) : SeqAt.shaped (dTup r) = true := by
  obtain ⟨a, b⟩ := dTup_lay s
  unfold SeqAt.shaped
  rw [a, b]
  rfl
theorem dTup_eqv {r q : List V} (s : Scs r) (t : Scs q) : PyData.eqv (dTup r) (dTup q) = decide (r = q) := by
  show PyData.eqv (.tuple _) (.tuple _) = _
  simp only [PyData.eqv]
  exact s.eqv t
/-- a list of such tuples -/
def dRows (rs : List (List V)) : PyData := .list (rs.map dTup)
def TupAt (H : Hp) (v : V) (r : List V) : Prop := ∃ t, v = .ref t ∧ H t = some (.tup r)
def Rws (rs : List (List V)) : Prop := ∀ r, r ∈ rs → Scs r
theorem dRows_all {K : PySem.W.Frag} {H : Hp} : ∀ {xs : List V} {rs : List (List V)}, Paired (TupAt H) xs rs → Rws rs → DpAll K H xs (rs.map dTup)
  | _, _, .nil, _ => .nil
  | _, _, .cons ⟨t, e, h⟩ r, s => by
    subst e
    exact .cons (dTup_dp (SqT.of h) (s _ List.mem_cons_self)) (dRows_all r fun q hq => s q (List.mem_cons_of_mem _ hq))
theorem dRows_dp {K : PySem.W.Frag} {H : Hp} {a : Addr} {xs : List V} {rs : List (List V)} (h : SqL K H a xs) (p : Paired (TupAt H) xs rs) (s : Rws rs) : Dp K H (.ref a) (dRows rs) := .lst h (dRows_all p s)
theorem dRows_lay0 : ∀ {rs : List (List V)}, Rws rs → PyData.canLayAll0 (rs.map dTup) = true ∧ PyData.depthAll (rs.map dTup) ≤ 1
  | [], _ => ⟨by simp only [List.map_nil, PyData.canLayAll0], by simp only [List.map_nil, PyData.depthAll]; omega⟩
  | r :: rs, h => by
    obtain ⟨a, b⟩ := dTup_lay (h r List.mem_cons_self)
    obtain ⟨c, d⟩ := dRows_lay0 (rs := rs) fun u hu => h u (List.mem_cons_of_mem _ hu)
    refine ⟨?_, ?_⟩
    · simp only [List.map_cons, PyData.canLayAll0, a, c, Bool.and_self]
    · simp only [List.map_cons, PyData.depthAll, b]; omega
theorem dRows_lay {rs : List (List V)} (s : Rws rs) : PyData.canLay0 (dRows rs) = true ∧ PyData.depth (dRows rs) ≤ 2 := by
  obtain ⟨a, b⟩ := dRows_lay0 s
  exact ⟨by simp only [dRows, PyData.canLay0]; exact a, by simp only [dRows, PyData.depth]; omega⟩
theorem dRows_shaped {rs : List (List V)} (s : Rws rs) : SeqAt.shaped (dRows rs) = true := by
  obtain ⟨a, b⟩ := dRows_lay s
  unfold SeqAt.shaped
  rw [a, decide_eq_true (by omega)]
  rfl
theorem dRows_eqv0 : ∀ {rs qs : List (List V)}, Rws rs → Rws qs → PyData.eqvAll (rs.map dTup) (qs.map dTup) = decide (rs = qs)
  | [], [], _, _ => by simp [PyData.eqvAll]
  | [], u :: us, _, _ => by simp [PyData.eqvAll]
  | v :: vs, [], _, _ => by simp [PyData.eqvAll]
  | v :: vs, u :: us, h, g => by
    have ih := dRows_eqv0 (rs := vs) (qs := us) (fun u hu => h u (List.mem_cons_of_mem _ hu)) fun u hu => g u (List.mem_cons_of_mem _ hu)
    simp only [List.map_cons, PyData.eqvAll, ih, dTup_eqv (h v List.mem_cons_self) (g u List.mem_cons_self)]
    simp
theorem dRows_eqv {rs qs : List (List V)} (s : Rws rs) (t : Rws qs) : PyData.eqv (dRows rs) (dRows qs) = decide (rs = qs) := by
  show PyData.eqv (.list _) (.list _) = _
  simp only [PyData.eqv]
  exact dRows_eqv0 s t
section
variable {H : Hp} {Q : VK} {K : PySem.W.Frag}
theorem r_neTT {a b : Addr} {r q : List V} (h : SqT K H a r) (g : SqT K H b q) (s : Scs r) (t : Scs q) (k : Q (.bl (!decide (r = q))) H) : rNeD K (.ref a) (.ref b) H Q :=
  ⟨_, _, dTup_dp h s, dTup_dp g t, dTup_shaped s, dTup_shaped t, by rw [dTup_eqv s t]; exact k⟩
theorem r_eqTT {a b : Addr} {r q : List V} (h : SqT K H a r) (g : SqT K H b q) (s : Scs r) (t : Scs q) (k : Q (.bl (decide (r = q))) H) : rEqD K (.ref a) (.ref b) H Q :=
  ⟨_, _, dTup_dp h s, dTup_dp g t, dTup_shaped s, dTup_shaped t, by rw [dTup_eqv s t]; exact k⟩
theorem r_neRR {a b : Addr} {xs ys : List V} {r q : List (List V)} (h : SqL K H a xs) (g : SqL K H b ys) (ph : Paired (TupAt H) xs r) (pg : Paired (TupAt H) ys q) (s : Rws r) (t : Rws q) (k : Q (.bl (!decide (r = q))) H) : rNeD K (.ref a) (.ref b) H Q :=
  ⟨_, _, dRows_dp h ph s, dRows_dp g pg t, dRows_shaped s, dRows_shaped t, by rw [dRows_eqv s t]; exact k⟩
theorem r_eqRR {a b : Addr} {xs ys : List V} {r q : List (List V)} (h : SqL K H a xs) (g : SqL K H b ys) (ph : Paired (TupAt H) xs r) (pg : Paired (TupAt H) ys q) (s : Rws r) (t : Rws q) (k : Q (.bl (decide (r = q))) H) : rEqD K (.ref a) (.ref b) H Q :=
  ⟨_, _, dRows_dp h ph s, dRows_dp g pg t, dRows_shaped s, dRows_shaped t, by rw [dRows_eqv s t]; exact k⟩
theorem sc_shaped {v : V} (s : Sc v) : SeqAt.shaped (dOf v) = true := by
  obtain ⟨a, b⟩ := s.lay
  unfold SeqAt.shaped
  rw [a, b]
  rfl
theorem r_neSS {x y : V} (s : Sc x) (t : Sc y) (k : Q (.bl (!decide (x = y))) H) : rNeD K x y H Q := ⟨_, _, s.dp, t.dp, sc_shaped s, sc_shaped t, by rw [s.eqv t]; exact k⟩
theorem r_eqSS {x y : V} (s : Sc x) (t : Sc y) (k : Q (.bl (decide (x = y))) H) : rEqD K x y H Q := ⟨_, _, s.dp, t.dp, sc_shaped s, sc_shaped t, by rw [s.eqv t]; exact k⟩
theorem r_neRS {a : Addr} {xs : List V} {r : List (List V)} {y : V} (h : SqL K H a xs) (ph : Paired (TupAt H) xs r) (s : Rws r) (t : Sc y) (k : Q (.bl true) H) : rNeD K (.ref a) y H Q :=
  ⟨_, _, dRows_dp h ph s, t.dp, dRows_shaped s, sc_shaped t, by
    have e : PyData.eqv (dRows r) (dOf y) = false := by
      rcases t with ⟨i, rfl⟩ | ⟨z, rfl, _⟩ <;> simp [dRows, dOf, PyData.eqv]
    rw [e]; exact k⟩
end

abbrev N_IsItem : List Str := ["item", "letter"]
abbrev P_IsItem : List Str := ["item"]
theorem sc_IsItem : FnScope N_IsItem P_IsItem (defScope sIsItem) := ⟨rfl, rfl, rfl, by decide +kernel, rfl, by decide +kernel, by decide +kernel⟩
abbrev N_Shown : List Str := ["deed", "line", "number"]
abbrev P_Shown : List Str := ["deed"]
theorem sc_Shown : FnScope N_Shown P_Shown (defScope sShown) := ⟨rfl, rfl, rfl, by decide +kernel, rfl, by decide +kernel, by decide +kernel⟩
abbrev N_LineShown : List Str := ["line", "number"]
abbrev P_LineShown : List Str := ["line"]
theorem sc_LineShown : FnScope N_LineShown P_LineShown (defScope sLineShown) := ⟨rfl, rfl, rfl, by decide +kernel, rfl, by decide +kernel, by decide +kernel⟩
abbrev N_NumberIn : List Str := ["figures", "sign"]
abbrev P_NumberIn : List Str := ["figures"]
theorem sc_NumberIn : FnScope N_NumberIn P_NumberIn (defScope sNumberIn) := ⟨rfl, rfl, rfl, by decide +kernel, rfl, by decide +kernel, by decide +kernel⟩
abbrev N_LineIn : List Str := ["text", "parts"]
abbrev P_LineIn : List Str := ["text"]
theorem sc_LineIn : FnScope N_LineIn P_LineIn (defScope sLineIn) := ⟨rfl, rfl, rfl, by decide +kernel, rfl, by decide +kernel, by decide +kernel⟩
abbrev N_Read : List Str := ["text", "line", "parts", "part", "numbers"]
abbrev P_Read : List Str := ["text"]
theorem sc_Read : FnScope N_Read P_Read (defScope sRead) := ⟨rfl, rfl, rfl, by decide +kernel, rfl, by decide +kernel, by decide +kernel⟩
abbrev N_LCellAt : List Str := ["_law_script", "_law_k"]
abbrev P_LCellAt : List Str := ["_law_script", "_law_k"]
theorem sc_LCellAt : FnScope N_LCellAt P_LCellAt (defScope sLCellAt) := ⟨rfl, rfl, rfl, by decide +kernel, rfl, by decide +kernel, by decide +kernel⟩
abbrev N_LWhole : List Str := ["_law_found"]
abbrev P_LWhole : List Str := ["_law_found"]
theorem sc_LWhole : FnScope N_LWhole P_LWhole (defScope sLWhole) := ⟨rfl, rfl, rfl, by decide +kernel, rfl, by decide +kernel, by decide +kernel⟩
abbrev N_LNumberBy : List Str := ["_law_cell", "_law_way"]
abbrev P_LNumberBy : List Str := ["_law_cell", "_law_way"]
theorem sc_LNumberBy : FnScope N_LNumberBy P_LNumberBy (defScope sLNumberBy) := ⟨rfl, rfl, rfl, by decide +kernel, rfl, by decide +kernel, by decide +kernel⟩
abbrev N_LItemBy : List Str := ["_law_cell", "_law_some", "_law_k"]
abbrev P_LItemBy : List Str := ["_law_cell"]
theorem sc_LItemBy : FnScope N_LItemBy P_LItemBy (defScope sLItemBy) := ⟨rfl, rfl, rfl, by decide +kernel, rfl, by decide +kernel, by decide +kernel⟩
abbrev N_LAnyDeed : List Str := ["_law_script", "_law_word", "_law_way", "_law_lines", "_law_k", "_law_cell", "_law_n", "_law_numbers"]
abbrev P_LAnyDeed : List Str := ["_law_script"]
theorem sc_LAnyDeed : FnScope N_LAnyDeed P_LAnyDeed (defScope sLAnyDeed) := ⟨rfl, rfl, rfl, by decide +kernel, rfl, by decide +kernel, by decide +kernel⟩
abbrev N_LTextOf : List Str := ["_law_deed", "_law_parts", "_law_line", "_law_number", "_law_numbers"]
abbrev P_LTextOf : List Str := ["_law_deed"]
theorem sc_LTextOf : FnScope N_LTextOf P_LTextOf (defScope sLTextOf) := ⟨rfl, rfl, rfl, by decide +kernel, rfl, by decide +kernel, by decide +kernel⟩
abbrev N_LPartsAlike : List Str := ["_law_found", "_law_due", "_law_part"]
abbrev P_LPartsAlike : List Str := ["_law_found", "_law_due"]
theorem sc_LPartsAlike : FnScope N_LPartsAlike P_LPartsAlike (defScope sLPartsAlike) := ⟨rfl, rfl, rfl, by decide +kernel, rfl, by decide +kernel, by decide +kernel⟩
abbrev N_LDeedAlike : List Str := ["_law_found", "_law_due", "_law_k"]
abbrev P_LDeedAlike : List Str := ["_law_found", "_law_due"]
theorem sc_LDeedAlike : FnScope N_LDeedAlike P_LDeedAlike (defScope sLDeedAlike) := ⟨rfl, rfl, rfl, by decide +kernel, rfl, by decide +kernel, by decide +kernel⟩
abbrev N_LRead : List Str := ["_law_text"]
abbrev P_LRead : List Str := ["_law_text"]
theorem sc_LRead : FnScope N_LRead P_LRead (defScope sLRead) := ⟨rfl, rfl, rfl, by decide +kernel, rfl, by decide +kernel, by decide +kernel⟩
abbrev N_Law : List Str := ["_law_script", "_law_deed", "_law_handed", "_law_found", "_law_back"]
abbrev P_Law : List Str := ["_law_script"]
theorem sc_Law : FnScope N_Law P_Law (defScope sLaw) := ⟨rfl, rfl, rfl, by decide +kernel, rfl, by decide +kernel, by decide +kernel⟩
theorem Tx.b_IsItem {w : World} {K : PySem.W.Frag} {mg : Str → Option Value} (T : Tx w K mg) : Binds K (fdO K dIsItem.at_) P_IsItem [] := T.f_IsItem.bindsN fun _ _ _ _ _ _ us hl => match us, hl with | [_], _ => rfl
theorem Tx.b_Shown {w : World} {K : PySem.W.Frag} {mg : Str → Option Value} (T : Tx w K mg) : Binds K (fdO K dShown.at_) P_Shown [] := T.f_Shown.bindsN fun _ _ _ _ _ _ us hl => match us, hl with | [_], _ => rfl
theorem Tx.b_LineShown {w : World} {K : PySem.W.Frag} {mg : Str → Option Value} (T : Tx w K mg) : Binds K (fdO K dLineShown.at_) P_LineShown [] := T.f_LineShown.bindsN fun _ _ _ _ _ _ us hl => match us, hl with | [_], _ => rfl
theorem Tx.b_NumberIn {w : World} {K : PySem.W.Frag} {mg : Str → Option Value} (T : Tx w K mg) : Binds K (fdO K dNumberIn.at_) P_NumberIn [] := T.f_NumberIn.bindsN fun _ _ _ _ _ _ us hl => match us, hl with | [_], _ => rfl
theorem Tx.b_LineIn {w : World} {K : PySem.W.Frag} {mg : Str → Option Value} (T : Tx w K mg) : Binds K (fdO K dLineIn.at_) P_LineIn [] := T.f_LineIn.bindsN fun _ _ _ _ _ _ us hl => match us, hl with | [_], _ => rfl
theorem Tx.b_Read {w : World} {K : PySem.W.Frag} {mg : Str → Option Value} (T : Tx w K mg) : Binds K (fdO K dRead.at_) P_Read [] := T.f_Read.bindsN fun _ _ _ _ _ _ us hl => match us, hl with | [_], _ => rfl
theorem Tx.b_LCellAt {w : World} {K : PySem.W.Frag} {mg : Str → Option Value} (T : Tx w K mg) : Binds K (fdO K dLCellAt.at_) P_LCellAt [] := T.f_LCellAt.bindsN fun _ _ _ _ _ _ us hl => match us, hl with | [_, _], _ => rfl
theorem Tx.b_LWhole {w : World} {K : PySem.W.Frag} {mg : Str → Option Value} (T : Tx w K mg) : Binds K (fdO K dLWhole.at_) P_LWhole [] := T.f_LWhole.bindsN fun _ _ _ _ _ _ us hl => match us, hl with | [_], _ => rfl
theorem Tx.b_LNumberBy {w : World} {K : PySem.W.Frag} {mg : Str → Option Value} (T : Tx w K mg) : Binds K (fdO K dLNumberBy.at_) P_LNumberBy [] := T.f_LNumberBy.bindsN fun _ _ _ _ _ _ us hl => match us, hl with | [_, _], _ => rfl
theorem Tx.b_LItemBy {w : World} {K : PySem.W.Frag} {mg : Str → Option Value} (T : Tx w K mg) : Binds K (fdO K dLItemBy.at_) P_LItemBy [] := T.f_LItemBy.bindsN fun _ _ _ _ _ _ us hl => match us, hl with | [_], _ => rfl
theorem Tx.b_LAnyDeed {w : World} {K : PySem.W.Frag} {mg : Str → Option Value} (T : Tx w K mg) : Binds K (fdO K dLAnyDeed.at_) P_LAnyDeed [] := T.f_LAnyDeed.bindsN fun _ _ _ _ _ _ us hl => match us, hl with | [_], _ => rfl
theorem Tx.b_LTextOf {w : World} {K : PySem.W.Frag} {mg : Str → Option Value} (T : Tx w K mg) : Binds K (fdO K dLTextOf.at_) P_LTextOf [] := T.f_LTextOf.bindsN fun _ _ _ _ _ _ us hl => match us, hl with | [_], _ => rfl
theorem Tx.b_LPartsAlike {w : World} {K : PySem.W.Frag} {mg : Str → Option Value} (T : Tx w K mg) : Binds K (fdO K dLPartsAlike.at_) P_LPartsAlike [] := T.f_LPartsAlike.bindsN fun _ _ _ _ _ _ us hl => match us, hl with | [_, _], _ => rfl
theorem Tx.b_LDeedAlike {w : World} {K : PySem.W.Frag} {mg : Str → Option Value} (T : Tx w K mg) : Binds K (fdO K dLDeedAlike.at_) P_LDeedAlike [] := T.f_LDeedAlike.bindsN fun _ _ _ _ _ _ us hl => match us, hl with | [_, _], _ => rfl
theorem Tx.b_LRead {w : World} {K : PySem.W.Frag} {mg : Str → Option Value} (T : Tx w K mg) : Binds K (fdO K dLRead.at_) P_LRead [] := T.f_LRead.bindsN fun _ _ _ _ _ _ us hl => match us, hl with | [_], _ => rfl
theorem Tx.b_Law {w : World} {K : PySem.W.Frag} {mg : Str → Option Value} (T : Tx w K mg) : Binds K (fdO K dLaw.at_) P_Law [] := T.f_Law.bindsN fun _ _ _ _ _ _ us hl => match us, hl with | [_], _ => rfl
theorem runF (w : World) : HandSHeadRun.RunEq R qv hk ob 20000 names (w.withFollow "special-get-raises" false) := by
  intro os
  kernel_rfl
theorem runT (w : World) : HandSHeadRun.RunEq R qv hk ob 20000 names (w.withFollow "special-get-raises" true) := by
  intro os
  kernel_rfl
theorem run (w : World) : HandSHeadRun.RunEq R qv hk ob 20000 names w := PySem.W.byRow2 "special-get-raises" (P := fun w => HandSHeadRun.RunEq R qv hk ob 20000 names w) runF runT w
local macro_rules | `(tactic| walk_at "rd1") => `(tactic| with_reducible first
  | refine r_gn ?_ | refine r_seq ?_ | refine r_asg ?_ | refine r_ret ?_ | refine r_retN ?_ | refine r_drop ?_ | refine r_ifs ?_ | refine r_next ?_ | refine r_var rfl ?_ | refine r_c ?_ | refine r_op ?_ | refine r_un ?_
  | refine r_U ?_ | refine r_I0 ?_ | refine r_eqI ?_ | refine r_neI ?_ | refine r_eqS ?_ | refine r_neS ?_ | refine r_test ?_ | refine r_tB ?_ | refine r_exb ?_ | refine r_and ?_ | refine r_or ?_ | refine r_not ?_
  | refine r_andV ?_ | refine r_orV ?_ | refine r_notV ?_ | refine r_ifE ?_ | refine r_nil ?_ | refine r_cons ?_ | refine r_cb ?_ | refine r_tup ?_ | refine r_lst ?_ | refine r_call ?_ | refine r_callS ?_ | refine r_meth ?_ | refine r_fld ?_ | refine r_sfld ?_
  | refine r_lcl ?_ | refine r_lct ?_ | refine r_lcr ?_ | refine r_forl ?_ | refine r_fort ?_ | refine r_fors ?_ | refine r_forr ?_ | refine r_forr2 ?_
  | refine r_mx ?_ | refine r_sl ?_ | refine r_part ?_ | refine r_nopart ?_ | refine r_exi ?_ | refine r_asgS ?_ | refine r_is_int_int ?_ | refine r_is_int_bool ?_ | refine r_is_int_str ?_ | refine r_is_str_str ?_ | refine r_is_str_int ?_ | refine r_is_str_list ?_
  | refine r_make ?_ | refine r_bm ?_ | refine r_chain ?_ | refine r_itT ?_ | refine r_itF ?_ | refine r_itnT ?_ | refine r_itnF ?_)
local macro_rules | `(tactic| walk_at "rs1") => `(tactic| with_reducible first
  | refine r_gn ?_ | refine r_asg ?_ | refine r_ret ?_ | refine r_retN ?_ | refine r_drop ?_ | refine r_ifs ?_ | refine r_next ?_ | refine r_var rfl ?_ | refine r_c ?_ | refine r_op ?_ | refine r_un ?_
  | refine r_U ?_ | refine r_I0 ?_ | refine r_eqI ?_ | refine r_neI ?_ | refine r_eqS ?_ | refine r_neS ?_ | refine r_test ?_ | refine r_tB ?_ | refine r_exb ?_ | refine r_and ?_ | refine r_or ?_ | refine r_not ?_
  | refine r_andV ?_ | refine r_orV ?_ | refine r_notV ?_ | refine r_ifE ?_ | refine r_nil ?_ | refine r_cons ?_ | refine r_cb ?_ | refine r_tup ?_ | refine r_lst ?_ | refine r_call ?_ | refine r_callS ?_ | refine r_meth ?_ | refine r_fld ?_ | refine r_sfld ?_
  | refine r_lcl ?_ | refine r_lct ?_ | refine r_lcr ?_ | refine r_forl ?_ | refine r_fort ?_ | refine r_fors ?_ | refine r_forr ?_ | refine r_forr2 ?_
  | refine r_mx ?_ | refine r_sl ?_ | refine r_part ?_ | refine r_nopart ?_ | refine r_exi ?_ | refine r_asgS ?_ | refine r_is_int_int ?_ | refine r_is_int_bool ?_ | refine r_is_int_str ?_ | refine r_is_str_str ?_ | refine r_is_str_int ?_ | refine r_is_str_list ?_
  | refine r_make ?_ | refine r_bm ?_ | refine r_chain ?_ | refine r_itT ?_ | refine r_itF ?_ | refine r_itnT ?_ | refine r_itnF ?_)
local macro_rules | `(tactic| walk_at "rs") => `(tactic| repeat walk_at "rs1")
local macro_rules | `(tactic| walk_at "rd") => `(tactic| repeat walk_at "rd1")
local macro_rules | `(tactic| walk_at "pf") => `(tactic| repeat first | exact pf_nil | exact pf_hit | (apply pf_m; decide +kernel))
local macro_rules | `(tactic| walk_at "pos") => `(tactic| (first | (show (0 : Int) < _; decide) | exact ⟨by decide, by decide⟩ | omega))
local macro_rules | `(tactic| walk_at "md") => `(tactic| refine r_I (by walk_at "pos") ?_)
local macro_rules | `(tactic| walk_at "cell") => `(tactic| refine ⟨_, _, rfl, by assumption, by decide, fun _ => ?_⟩)
local macro_rules | `(tactic| walk_at "ml") => `(tactic| first | refine r_I (.inr ⟨by decide, by decide⟩) ?_ | refine r_I (.inl ⟨by decide, by decide⟩) ?_)
/-! ### items, lines as they are told -/
abbrev letters : Str := "abcdefghijklmnopqrstuvwxyz"
def isItem (z : Str) : Bool := decide (∀ c ∈ z.cps.toList, c ∈ letters.cps.toList) && decide (1 ≤ z.length ∧ z.length ≤ 12)
def spIsItem (_ : PySem.W.Frag) : Sp := fun vs H Q _ => ∃ z : Str, vs = [.str z] ∧ z.length ≤ 100000 ∧ Q (.bl (isItem z)) H
theorem len_IsItem {K : PySem.W.Frag} {vs : List V} {H : Hp} {Q : VK} {E : XK} (h : spIsItem K vs H Q E) : vs.length = 1 := by
  obtain ⟨_, rfl, _⟩ := h; rfl
theorem isItem_no {z : Str} {i : Nat} {c : Nat} (h : z.cps[i]? = some c) (n : ¬ c ∈ letters.cps.toList) : isItem z = false := by
  have hm : c ∈ z.cps.toList := by
    have h2 : z.cps.toList[i]? = some c := by simpa using h
    exact List.mem_of_getElem? h2
  unfold isItem
  rw [decide_eq_false (fun q => n (q c hm))]
  rfl
theorem isItem_yes {z : Str} (h : ∀ j c, j < z.cps.size → z.cps[j]? = some c → c ∈ letters.cps.toList) : isItem z = decide (1 ≤ z.length ∧ z.length ≤ 12) := by
  unfold isItem
  rw [decide_eq_true (fun c hc => ?_)]
  · rfl
  · obtain ⟨j, hj⟩ := List.getElem?_of_mem hc
    have h2 : z.cps[j]? = some c := by simpa using hj
    exact h j c (Array.getElem?_eq_some_iff.mp h2).1 h2
theorem ok_IsItem {P : Program} {w : World} {K : PySem.W.Frag} {mg : Str → Option Value} {base : Heap} (T : Tx w K mg) : FnOk P w K mg base CX0 1 (He.fAd K dIsItem.at_) (fdO K dIsItem.at_) P_IsItem (spIsItem K) := by
  refine T.f_IsItem.ok sc_IsItem (fun vs H Q E h => len_IsItem h) (fun cdv A outer s H vs Q E hr h => ⟨_, PSs.nox ((pss_cons (ps_for PassesOwn.never rfl (pi_str (pv 0)) (pg_name (i := 1) sc_IsItem.nd rfl (Or.inl rfl)) (pss_one (ps_if (pt_cmpR op_notIn_sign (pv 1) (pe_gc rfl T.c_LETTERS) (by rfl)) (pss_one (ps_ret pe_bl)) pss_nil)))
      (pss_one (ps_ret (pe_chain op_le op_le pe_int (pe_callB call_len_str (by rfl) T.b_len (by decide +kernel) (pa_cons (pv 0) pa_nil)) (pe_gc rfl T.c_MOST_LETTERS)))))), ?_⟩)
  obtain ⟨z, rfl, hz, q⟩ := h
  walk_at "rd"
  refine ⟨z, rfl, for_it walk_str (fun i σ H' => ∃ v, σ = [some (.str z), v] ∧ H' = H ∧ ∀ j c, j < i → z.cps[j]? = some c → c ∈ letters.cps.toList) ⟨none, rfl, rfl, fun j c hj => absurd hj (Nat.not_lt_zero _)⟩ (fun _ _ _ _ _ => trivial) ?_ ?_⟩
  · rintro i x σ H1 H2 hi ⟨v, rfl, rfl, hp⟩ ⟨rfl, c, hc, rfl⟩
    walk_at "rd"
    refine ⟨c, _, rfl, rfl, ?_⟩
    walk_at "rd"
    refine r_itn (fun hn => ?_) (fun hy => ?_)
    · walk_at "rd"
      rw [isItem_no hc hn] at q
      exact q
    · walk_at "rd"
      refine ⟨_, rfl, rfl, fun j c' hj e => ?_⟩
      by_cases h : j = i
      · subst h
        rw [hc] at e
        rw [← Option.some.inj e]
        exact hy
      · exact hp j c' (by omega) e
  · rintro σ H1 ⟨v, rfl, rfl, hp⟩
    walk_at "rd"
    refine ⟨z, rfl, sz5 hz, ?_⟩
    rw [isItem_yes hp] at q
    walk_at "rd"
    refine r_itd (fun h1 => ?_) (fun h1 => ?_)
    · walk_at "rd"
      have e : decide (1 ≤ z.length ∧ z.length ≤ 12) = decide ((z.length : Int) ≤ 12) := by
        by_cases h2 : z.length ≤ 12
        · rw [decide_eq_true (by omega), decide_eq_true (by omega)]
        · rw [decide_eq_false (by omega), decide_eq_false (by omega)]
      rw [e] at q
      exact q
    · rw [decide_eq_false (by omega)] at q
      exact q

/-! ### numbers and lines as texts -/
abbrev numS (n : Nat) : Str := Str.ofString (toString ((n : Nat) : Int))
theorem tl_numS {n : Nat} : TL.tl (numS n) = TL.numL n := TL.tl_num n
theorem numS_len {n : Nat} (h : n < 10 ^ 30) : 1 ≤ (numS n).length ∧ (numS n).length ≤ 30 := by
  rw [TL.len_tl, tl_numS]
  refine ⟨?_, TL.numL_len (by decide) h⟩
  have := TL.numL_ne n
  cases e : TL.numL n with
  | nil => exact absurd e this
  | cons a r => simp
theorem numL_zero : ∀ (k n : Nat), n ≤ k → (∃ r, TL.numL n = 48 :: r) → n = 0
  | 0, n, h, _ => by omega
  | k + 1, n, h, ⟨r, e⟩ => by
    by_cases c : n < 10
    · rw [TL.numL_lt c] at e
      injection e with e1 e2
      omega
    · have e1 := TL.numL_step (n := n) (by omega)
      rw [e1] at e
      cases q : TL.numL (n / 10) with
      | nil => exact absurd q (TL.numL_ne _)
      | cons a s =>
        rw [q] at e
        injection e with e2 e3
        have := numL_zero k (n / 10) (by omega) ⟨s, by rw [q, e2]⟩
        omega
theorem join_cons {y x z : Str} {r : List Str} : Txt.join y (x :: z :: r) = x ++ y ++ Txt.join y (z :: r) := by
  rw [TL.join_eq, TL.join_eq]; rfl
theorem joinL_len {S : List Nat} {k : Nat} : ∀ ps : List (List Nat), (∀ p, p ∈ ps → p.length ≤ k) → (TL.joinL S ps).length ≤ ps.length * (k + S.length)
  | [], _ => Nat.zero_le _
  | [p], h => by
    have := h p List.mem_cons_self
    show p.length ≤ 1 * (k + S.length)
    omega
  | p :: q :: r, h => by
    have h1 := h p List.mem_cons_self
    have h2 := joinL_len (S := S) (q :: r) fun x hx => h x (List.mem_cons_of_mem _ hx)
    show (p ++ (S ++ TL.joinL S (q :: r))).length ≤ _
    rw [List.length_append, List.length_append, List.length_cons (as := q :: r), Nat.succ_mul]
    omega
theorem join_len {y : Str} {k : Nat} {ps : List Str} (h : ∀ p, p ∈ ps → p.length ≤ k) : (Txt.join y ps).length ≤ ps.length * (k + y.length) := by
  rw [TL.join_eq, TL.len_tl, TL.tl_join, TL.len_tl y]
  have := joinL_len (S := TL.tl y) (k := k) (ps.map TL.tl) fun p hp => by
    obtain ⟨z, hz, rfl⟩ := List.mem_map.mp hp
    rw [← TL.len_tl]; exact h z hz
  rw [List.length_map] at this
  exact this
theorem sum_len {k : Nat} : ∀ {ps : List Str}, (∀ p, p ∈ ps → p.length ≤ k) → (ps.map (·.length)).sum ≤ ps.length * k
  | [], _ => Nat.zero_le _
  | p :: r, h => by
    have h1 := h p List.mem_cons_self
    have h2 := sum_len (ps := r) fun x hx => h x (List.mem_cons_of_mem _ hx)
    rw [List.map_cons, List.sum_cons, List.length_cons, Nat.succ_mul]
    omega
structure Tl where
  z : Str
  a : Nat
  b : Nat
  c : Nat
structure Tl.ok (t : Tl) : Prop where
  z : isItem t.z = true
  a : t.a < 10 ^ 30
  b : t.b < 10 ^ 30
  c : t.c < 10 ^ 30
def Tl.row (t : Tl) : List V := [.str t.z, .int (t.a : Int), .int (t.b : Int), .int (t.c : Int)]
def Tl.str (t : Tl) : Str := Txt.join " " [t.z, numS t.a, numS t.b, numS t.c]
theorem item_len {z : Str} (h : isItem z = true) : 1 ≤ z.length ∧ z.length ≤ 12 := by
  unfold isItem at h
  exact of_decide_eq_true (Bool.and_eq_true_iff.mp h).2
theorem item_free {z : Str} (h : isItem z = true) {s : Nat} (hs : s < 97) : s ∉ TL.tl z := fun m => by
  unfold isItem at h
  have q := of_decide_eq_true (Bool.and_eq_true_iff.mp h).1 s m
  have all : ∀ x, x ∈ letters.cps.toList → 97 ≤ x := by decide +kernel
  have := all s q
  omega
theorem Tl.ok.part_len {t : Tl} (h : t.ok) : ∀ p, p ∈ [t.z, numS t.a, numS t.b, numS t.c] → p.length ≤ 30 := fun p hp => by
  rcases List.mem_cons.mp hp with rfl | hp
  · have := item_len h.z; omega
  rcases List.mem_cons.mp hp with rfl | hp
  · exact (numS_len h.a).2
  rcases List.mem_cons.mp hp with rfl | hp
  · exact (numS_len h.b).2
  rcases List.mem_cons.mp hp with rfl | hp
  · exact (numS_len h.c).2
  cases hp
theorem Tl.len {t : Tl} (h : t.ok) : t.str.length ≤ 200 := by
  have := join_len (y := " ") (k := 30) h.part_len
  have e : (" " : Str).length = 1 := by decide +kernel
  rw [e] at this
  show (Txt.join " " _).length ≤ 200
  simp only [List.length_cons, List.length_nil] at this
  omega
theorem Tl.ok.part_free {t : Tl} (h : t.ok) {s : Nat} (hs : s < 48) : ∀ p, p ∈ [t.z, numS t.a, numS t.b, numS t.c] → s ∉ TL.tl p := fun p hp => by
  have n : ∀ m, s ∉ TL.tl (numS m) := fun m => by rw [tl_numS]; exact TL.numL_free (.inl hs)
  rcases List.mem_cons.mp hp with rfl | hp
  · exact item_free h.z (by omega)
  rcases List.mem_cons.mp hp with rfl | hp
  · exact n _
  rcases List.mem_cons.mp hp with rfl | hp
  · exact n _
  rcases List.mem_cons.mp hp with rfl | hp
  · exact n _
  cases hp
theorem Tl.split {t : Tl} (h : t.ok) : Txt.split t.str " " = [t.z, numS t.a, numS t.b, numS t.c] :=
  TL.split_join (s := 32) (S := []) (by decide +kernel) (by decide +kernel) (by simp) (h.part_free (by decide))
theorem mem_joinL {S : List Nat} {s : Nat} : ∀ {ps : List (List Nat)}, s ∈ TL.joinL S ps → s ∈ S ∨ ∃ p, p ∈ ps ∧ s ∈ p
  | [], h => by cases h
  | [p], h => .inr ⟨p, List.mem_cons_self, h⟩
  | p :: q :: r, h => by
    have h' : s ∈ p ++ (S ++ TL.joinL S (q :: r)) := h
    rcases List.mem_append.mp h' with z | z
    · exact .inr ⟨p, List.mem_cons_self, z⟩
    rcases List.mem_append.mp z with z | z
    · exact .inl z
    rcases mem_joinL z with y | ⟨x, hx, y⟩
    · exact .inl y
    · exact .inr ⟨x, List.mem_cons_of_mem _ hx, y⟩
theorem Tl.free {t : Tl} (h : t.ok) : 44 ∉ TL.tl t.str := fun m => by
  unfold Tl.str at m
  rw [TL.join_eq, TL.tl_join] at m
  rcases mem_joinL m with z | ⟨p, hp, z⟩
  · exact absurd z (by decide +kernel)
  · obtain ⟨q, hq, rfl⟩ := List.mem_map.mp hp
    exact h.part_free (by decide) q hq z
theorem lcp_tup {K : PySem.W.Frag} {te : TE} {j : Nat} {σ : L2.St} {H1 : Hp} {Q : VK} {a : Addr} {xs ys : List V} (hs : H1 a = some (.tup xs)) (hl : ys.length = xs.length) (hz : xs.length ≤ 100000)
    (he : ∀ (i : Nat) (x y : V) (H' : Hp) (R : VK), xs[i]? = some x → ys[i]? = some y → Same H1 H' → (∀ H'', Same H' H'' → R y H'') → te ((wipe σ [j]).set j (some x)) H' R)
    (k : ∀ (D : Addr) (H' : Hp), H1 D = none → Same H1 H' → H' D = some (.lst ys) → Q (.ref D) H') : ∃ a', V.ref a = V.ref a' ∧ (∃ xs, SqT K H1 a' xs) ∧ Lcs (Itt K a') (gName j) tYes te [j] σ H1 Q := by
  refine ⟨a, rfl, ⟨xs, SqT.of hs⟩, fun D hD => ?_⟩
  refine lc_tup (K := K) (a := a) (xs := xs) (fun i H' => Same H1 H' ∧ H' D = some (.lst (ys.take i))) ⟨same_upd hD, upd_same⟩ (fun i H' _ p => SqT.of (p.1 _ _ hs)) ?_ ?_
  · rintro i x H' hi ⟨s, e⟩
    have hi2 : i < ys.length := by rw [hl]; exact (List.getElem?_eq_some_iff.mp hi).1
    have ey : ys[i]? = some ys[i] := List.getElem?_eq_getElem hi2
    refine ⟨wipe1, r_yes (r_itT ?_)⟩
    refine he i x _ H' _ hi ey s fun H'' s2 => ⟨_, s2 _ _ e, ?_, ?_, ?_⟩
    · refine sz5l ?_
      have := List.length_take_le i ys
      omega
    · exact fun b o q => by
        rw [upd_ne (ne_of_none q hD)]
        exact s2 _ _ (s _ _ q)
    · rw [upd_same, take_snoc ey]
  · rintro H' ⟨s, e⟩
    rw [← hl, List.take_length] at e
    exact k D H' hD s e
/-! ### the program: texts of numbers, of lines -/
def spNumberIn (_ : PySem.W.Frag) : Sp := fun vs H Q _ => ∃ n : Nat, vs = [.str (numS n)] ∧ n < 10 ^ 30 ∧ Q (.int (n : Int)) H
theorem len_NumberIn {K : PySem.W.Frag} {vs : List V} {H : Hp} {Q : VK} {E : XK} (h : spNumberIn K vs H Q E) : vs.length = 1 := by
  obtain ⟨_, rfl, _⟩ := h; rfl
theorem ok_NumberIn {P : Program} {w : World} {K : PySem.W.Frag} {mg : Str → Option Value} {base : Heap} (T : Tx w K mg) : FnOk P w K mg base CX0 1 (He.fAd K dNumberIn.at_) (fdO K dNumberIn.at_) P_NumberIn (spNumberIn K) := by
  refine T.f_NumberIn.ok sc_NumberIn (fun vs H Q E h => len_NumberIn h) (fun cdv A outer s H vs Q E hr h => ⟨_, PSs.nox ((pss_cons (ps_for PassesOwn.never rfl (pi_str (pv 0)) (pg_name (i := 1) sc_NumberIn.nd rfl (Or.inl rfl)) (pss_one (ps_if (pt_cmpR op_notIn_sign (pv 1) (pe_gc rfl T.c_FIGURES) (by rfl)) (pss_one ps_never) pss_nil)))
      (pss_cons (ps_if (PW.pt (pw_or (pt_not (pt_chain op_le op_le pe_int (pe_callB call_len_str (by rfl) T.b_len (by decide +kernel) (pa_cons (pv 0) pa_nil)) (pe_gc rfl T.c_MOST_FIGURES))) (pw_or1 (PW.pt (pw_and (pt_cmpR op_eq (pe_ix ix_str (pv 0) pe_int (fun _ _ => rfl)) pe_str (nomark _)) (pw_and1 (pt_cmpR op_gt (pe_callB call_len_str (by rfl) T.b_len (by decide +kernel) (pa_cons (pv 0) pa_nil)) pe_int (nomark _)))))))) (pss_one ps_never) pss_nil)
      (pss_one (ps_ret (pe_callTy call_int_str (by rfl) T.b_int (by decide +kernel) (pa_cons (pv 0) pa_nil))))))), ?_⟩)
  obtain ⟨n, rfl, hn, k⟩ := h
  obtain ⟨l1, l2⟩ := numS_len hn
  walk_at "rd"
  refine ⟨numS n, rfl, for_it walk_str (fun i σ H' => ∃ v, σ = [some (.str (numS n)), v] ∧ H' = H) ⟨none, rfl, rfl⟩ (fun _ _ _ _ _ => trivial) ?_ ?_⟩
  · rintro i x σ H1 H2 hi ⟨v, rfl, rfl⟩ ⟨rfl, c, hc, rfl⟩
    walk_at "rd"
    refine ⟨c, _, rfl, rfl, ?_⟩
    walk_at "rd"
    refine r_itn (fun hn => absurd ?_ hn) (fun hy => ?_)
    · have hm : c ∈ TL.tl (numS n) := by
        have h2 : (numS n).cps.toList[i]? = some c := by simpa using hc
        exact List.mem_of_getElem? h2
      rw [tl_numS] at hm
      have q := TL.numL_digits n c hm
      have all : ∀ x, 48 ≤ x → x ≤ 57 → x ∈ ("0123456789" : Str).cps.toList := by
        intro x h1 h2
        have : x = 48 ∨ x = 49 ∨ x = 50 ∨ x = 51 ∨ x = 52 ∨ x = 53 ∨ x = 54 ∨ x = 55 ∨ x = 56 ∨ x = 57 := by omega
        rcases this with rfl | rfl | rfl | rfl | rfl | rfl | rfl | rfl | rfl | rfl <;> decide +kernel
      exact all c q.1 q.2
    · walk_at "rd"
      exact ⟨_, rfl, rfl⟩
  · rintro σ H1 ⟨v, rfl, rfl⟩
    walk_at "rd"
    refine ⟨_, rfl, sz5 (by omega), ?_⟩
    walk_at "rd"
    refine r_itd (fun _ => ?_) (fun c => absurd (by omega) c)
    walk_at "rd"
    refine r_itn (fun c => absurd (by omega) c) (fun _ => ?_)
    walk_at "rd"
    obtain ⟨c, r, ec⟩ : ∃ c r, TL.numL n = c :: r := by
      cases e : TL.numL n with
      | nil => exact absurd e (TL.numL_ne n)
      | cons a r => exact ⟨a, r, rfl⟩
    have fin : ∃ a n', [V.str (numS n)] = [V.str a] ∧ PySem.intText? a = some n' ∧ a.length ≤ 640 ∧ Q (.int n') H1 := ⟨numS n, n, rfl, TL.int_num (by rw [← tl_numS, ← TL.len_tl]; omega), by omega, k⟩
    refine ⟨_, _, c, rfl, rfl, sz5 (by omega), ?_, ?_⟩
    · show atI (TL.tl (numS n)) 0 = some c
      rw [tl_numS, ec]; exact atI_get (j := 0) rfl rfl
    walk_at "rd"
    refine r_itd (fun c1 => ?_) (fun c1 => ?_)
    · walk_at "rd"
      refine ⟨_, rfl, sz5 (by omega), ?_⟩
      have c48 : c = 48 := by
        have := congrArg (fun z : Str => z.cps.toList) c1
        have h2 : [c] = [48] := this
        injection h2
      have n0 : n = 0 := numL_zero n n (Nat.le_refl _) ⟨r, by rw [ec, c48]⟩
      have l3 : (numS n).length = 1 := by
        rw [TL.len_tl, tl_numS, n0]
        rw [TL.numL_lt (by decide)]; rfl
      walk_at "rd"
      refine r_itz (by rw [l3]; decide) ?_
      walk_at "rd"
      exact fin
    · walk_at "rd"
      exact fin
theorem log_num {n : Nat} (h : n < 10 ^ 30) : ((n : Nat) : Int).natAbs.log2 < 1920 := by
  have : n < 2 ^ 1920 := Nat.lt_of_lt_of_le h (by decide +kernel)
  show n.log2 < 1920
  by_cases c : n = 0
  · rw [c]; decide
  · exact (Nat.log2_lt c).mpr this
def numsOf (ns : List Nat) : List V := ns.map fun n : Nat => V.int (n : Int)
def spLineShown (_ : PySem.W.Frag) : Sp := fun vs H Q _ => ∃ (u : Addr) (t : Tl), vs = [.ref u] ∧ H u = some (.tup t.row) ∧ t.ok ∧ ∀ H', Same H H' → Q (.str t.str) H'
theorem len_LineShown {K : PySem.W.Frag} {vs : List V} {H : Hp} {Q : VK} {E : XK} (h : spLineShown K vs H Q E) : vs.length = 1 := by
  obtain ⟨_, _, rfl, _⟩ := h; rfl
theorem ok_LineShown {P : Program} {w : World} {K : PySem.W.Frag} {mg : Str → Option Value} {base : Heap} (T : Tx w K mg) : FnOk P w K mg base CX0 1 (He.fAd K dLineShown.at_) (fdO K dLineShown.at_) P_LineShown (spLineShown K) := by
  refine T.f_LineShown.ok sc_LineShown (fun vs H Q E h => len_LineShown h) (fun cdv A outer s H vs Q E hr h => ⟨_, PSs.nox ((pss_one (ps_ret (pe_op op_add_str (pe_op op_add_str (pe_ix ix_tup (pv 0) pe_int (fun _ _ => rfl)) pe_str) (pe_bm PySem.F.plainAttrs_str PySem.F.slot_str_join PySem.F.type_str_join mt_join pe_str (pa_cons (pe_lc (own := [("number", 1)]) (g := gName 1) (tt := tYes) rfl sc_LineShown.nd (pi_tup (pe_slice sl_tup (pv 0) (po_some pe_int) po_none)) (blkOk_by (N := N_LineShown) (sc := defScope sLineShown) (by decide +kernel)) (fun _ _ _ _ _ => pg_name (i := 1) sc_LineShown.nd rfl (Or.inl rfl)) (fun _ _ _ _ _ => pts_nil) (fun _ _ _ _ _ => (pe_callTy call_str_int (by rfl) T.b_str (by decide +kernel) (pa_cons (pv 1) pa_nil)))) pa_nil)))))), ?_⟩)
  obtain ⟨u, t, rfl, hu, ok, k⟩ := h
  walk_at "rd"
  refine r_ixT (SqT.of hu) (atI_get (j := 0) rfl rfl) ?_
  walk_at "rd"
  have e1 : (" " : Str).length = 1 := by decide +kernel
  have zl := item_len ok.z
  refine ⟨_, _, rfl, rfl, sz5 (by rw [e1]; omega), ?_⟩
  walk_at "rd"
  refine ⟨rfl, ?_⟩
  walk_at "rd"
  refine ⟨u, _, rfl, SqT.of hu, (by rintro ⟨z, _⟩; revert z; show ¬ (min 1 4 = 0); decide), fun p hp => ?_⟩
  have s1 := same_upd (o := .tup (numsOf [t.a, t.b, t.c])) hp
  have cut : cutV t.row (some 1) none = numsOf [t.a, t.b, t.c] := cut_from (k := 1)
  rw [cut]
  have l3 : ∀ q, q ∈ [numS t.a, numS t.b, numS t.c] → q.length ≤ 30 := fun q hq => ok.part_len q (List.mem_cons_of_mem _ hq)
  refine lcp_tup (ys := [numS t.a, numS t.b, numS t.c].map V.str) upd_same rfl (by show 3 ≤ 100000; decide) ?_ ?_
  · intro i x y H' R ex ey s q
    have hi : i < 3 := (List.getElem?_eq_some_iff.mp ex).1
    obtain ⟨n, hn, rfl, rfl⟩ : ∃ n, n < 10 ^ 30 ∧ x = .int (n : Nat) ∧ y = .str (numS n) := by
      have : i = 0 ∨ i = 1 ∨ i = 2 := by omega
      rcases this with rfl | rfl | rfl <;> (cases ex; cases ey)
      · exact ⟨t.a, ok.a, rfl, rfl⟩
      · exact ⟨t.b, ok.b, rfl, rfl⟩
      · exact ⟨t.c, ok.c, rfl, rfl⟩
    walk_at "rd"
    exact ⟨_, rfl, log_num hn, q _ (Same.refl _)⟩
  · intro D H' hD s e
    walk_at "rd"
    refine ⟨" ", D, [numS t.a, numS t.b, numS t.c], rfl, rfl, .inl (SqL.of e), ?_, ?_⟩
    · have := sum_len l3
      rw [e1]
      simp only [List.length_cons, List.length_nil] at this ⊢
      omega
    have jl := join_len (y := " ") l3
    rw [e1] at jl
    simp only [List.length_cons, List.length_nil] at jl
    walk_at "rd"
    refine ⟨_, _, rfl, rfl, sz5 ?_, ?_⟩
    · show (t.z ++ (" " : Str)).length + _ ≤ 100000
      rw [TL.len_tl (t.z ++ _), TL.tl_append, List.length_append, ← TL.len_tl, ← TL.len_tl, e1]
      omega
    · have e : t.z ++ (" " : Str) ++ Txt.join " " [numS t.a, numS t.b, numS t.c] = t.str := join_cons.symm
      rw [e]
      exact k _ (s1.trans s)

def spLineIn (_ : PySem.W.Frag) : Sp := fun vs H Q _ => ∃ t : Tl, vs = [.str t.str] ∧ t.ok ∧ ∀ v H', Same H H' → TupAt H' v t.row → Q v H'
theorem len_LineIn {K : PySem.W.Frag} {vs : List V} {H : Hp} {Q : VK} {E : XK} (h : spLineIn K vs H Q E) : vs.length = 1 := by
  obtain ⟨_, rfl, _⟩ := h; rfl
theorem ok_LineIn {P : Program} {w : World} {K : PySem.W.Frag} {mg : Str → Option Value} {base : Heap} (T : Tx w K mg) : FnOk P w K mg base CX0 2 (He.fAd K dLineIn.at_) (fdO K dLineIn.at_) P_LineIn (spLineIn K) := by
  refine T.f_LineIn.ok sc_LineIn (fun vs H Q E h => len_LineIn h) (fun cdv A outer s H vs Q E hr h => ⟨_, PSs.nox ((pss_cons (ps_set (i := 1) sc_LineIn.nd rfl (Or.inl rfl) (pe_bm PySem.F.plainAttrs_str PySem.F.slot_str_split PySem.F.type_str_split mt_split (pv 0) (pa_cons pe_str pa_nil)))
      (pss_cons (ps_if (PW.pt (pw_or (pt_cmpR op_ne (pe_callB call_len_seq (by rfl) T.b_len (by decide +kernel) (pa_cons (pv 1) pa_nil)) pe_int (nomark _)) (pw_or1 (pt_not (pt_val (pe_call (ok_IsItem T) (hr.mono (by decide)) rfl T.g_IsItem T.f_IsItem.kp T.b_IsItem .nil pass0 (pa_cons (pe_ix ix_list (pv 1) pe_int (fun _ _ => rfl)) pa_nil))))))) (pss_one ps_never) pss_nil)
      (pss_one (ps_ret (pe_tup (pa_cons (pe_ix ix_list (pv 1) pe_int (fun _ _ => rfl)) (pa_cons (pe_call (ok_NumberIn T) (hr.mono (by decide)) rfl T.g_NumberIn T.f_NumberIn.kp T.b_NumberIn .nil pass0 (pa_cons (pe_ix ix_list (pv 1) pe_int (fun _ _ => rfl)) pa_nil)) (pa_cons (pe_call (ok_NumberIn T) (hr.mono (by decide)) rfl T.g_NumberIn T.f_NumberIn.kp T.b_NumberIn .nil pass0 (pa_cons (pe_ix ix_list (pv 1) pe_int (fun _ _ => rfl)) pa_nil)) (pa_cons (pe_call (ok_NumberIn T) (hr.mono (by decide)) rfl T.g_NumberIn T.f_NumberIn.kp T.b_NumberIn .nil pass0 (pa_cons (pe_ix ix_list (pv 1) pe_int (fun _ _ => rfl)) pa_nil)) pa_nil)))))))))), ?_⟩)
  obtain ⟨t, rfl, ok, k⟩ := h
  have tl := Tl.len ok
  have zl := item_len ok.z
  walk_at "rd"
  refine ⟨rfl, ?_⟩
  walk_at "rd"
  refine ⟨_, _, rfl, rfl, by decide +kernel, sz5 (by omega), fun p hp => ?_⟩
  rw [Tl.split ok]
  have s1 := same_upd (o := .lst ([t.z, numS t.a, numS t.b, numS t.c].map V.str)) hp
  have ep : upd H p (.lst ([t.z, numS t.a, numS t.b, numS t.c].map V.str)) p = some (.lst ([t.z, numS t.a, numS t.b, numS t.c].map V.str)) := upd_same
  revert s1 ep
  generalize upd H p (.lst ([t.z, numS t.a, numS t.b, numS t.c].map V.str)) = H1
  intro s1 ep
  walk_at "rd"
  refine ⟨p, _, rfl, .inl (SqL.of ep), ?_⟩
  walk_at "rd"
  refine r_itn (fun c => absurd rfl c) (fun _ => ?_)
  walk_at "rd"
  refine r_ixL (SqL.of ep) (atI_get (j := 0) rfl rfl) ?_
  walk_at "rd"
  refine ⟨t.z, rfl, by omega, ?_⟩
  rw [ok.z]
  walk_at "rd"
  refine r_ixL (SqL.of ep) (atI_get (j := 0) rfl rfl) ?_
  walk_at "rd"
  refine r_ixL (SqL.of ep) (atI_get (j := 1) rfl rfl) ?_
  walk_at "rd"
  refine ⟨t.a, rfl, ok.a, ?_⟩
  walk_at "rd"
  refine r_ixL (SqL.of ep) (atI_get (j := 2) rfl rfl) ?_
  walk_at "rd"
  refine ⟨t.b, rfl, ok.b, ?_⟩
  walk_at "rd"
  refine r_ixL (SqL.of ep) (atI_get (j := 3) rfl rfl) ?_
  walk_at "rd"
  refine ⟨t.c, rfl, ok.c, ?_⟩
  walk_at "rd"
  exact r_mk (by simp) fun u hu => k _ _ (s1.trans (same_upd hu)) ⟨u, rfl, upd_same⟩

theorem pr_ex {α β : Type} {F : α → β → Prop} : ∀ {l₁ : List α} {l₂ : List β} {i : Nat} {a : α}, Paired F l₁ l₂ → l₁[i]? = some a → ∃ b, l₂[i]? = some b ∧ F a b
  | _, _, _, _, .nil, h => by simp at h
  | _, _, 0, _, .cons r _, h => by
    cases h
    exact ⟨_, rfl, r⟩
  | _, _, i + 1, _, .cons _ t, h => pr_ex (i := i) t h
theorem tup_keep {S : Addr → Prop} {H H' : Hp} (b : But S H H') {xs : List V} {rs : List (List V)} (h : Paired (TupAt H) xs rs) : Paired (TupAt H') xs rs := Paired.mapP h fun _ _ ⟨t, e, q⟩ => ⟨t, e, b.tup _ _ q⟩
/-! ### deeds as texts -/
inductive Td where
  | ord (ls : List Tl)
  | nums (w : Str) (ns : List Nat)
def Td.ok : Td → Prop
  | .ord ls => (1 ≤ ls.length ∧ ls.length ≤ 25) ∧ ∀ t, t ∈ ls → t.ok
  | .nums w ns => (∀ n, n ∈ ns → n < 10 ^ 30) ∧ ((ns.length = 2 ∧ (w = "pay" ∨ w = "refund")) ∨ (ns.length = 3 ∧ (w = "deliver" ∨ w = "back" ∨ w = "swap" ∨ w = "credit" ∨ w = "move")))
def Td.str : Td → Str
  | .ord ls => ("order " : Str) ++ Txt.join ", " (ls.map Tl.str)
  | .nums w ns => w ++ (" " : Str) ++ Txt.join " " (ns.map numS)
def TdA (H : Hp) (v : V) : Td → Prop
  | .ord ls => ∃ t l xs, v = .ref t ∧ H t = some (.tup [.str "order", .ref l]) ∧ H l = some (.lst xs) ∧ Paired (TupAt H) xs (ls.map Tl.row)
  | .nums w ns => ∃ t, v = .ref t ∧ H t = some (.tup (.str w :: numsOf ns))
theorem TdA.keep {H H' : Hp} {v : V} {d : Td} (h : TdA H v d) (s : Same H H') : TdA H' v d := by
  cases d with
  | ord ls =>
    obtain ⟨t, l, xs, e, h1, h2, p⟩ := h
    exact ⟨t, l, xs, e, s _ _ h1, s _ _ h2, tup_keep (But.of (S := fun _ => False) s) p⟩
  | nums w ns =>
    obtain ⟨t, e, h1⟩ := h
    exact ⟨t, e, s _ _ h1⟩
structure WOk (w : Str) (k : Nat) : Prop where
  no : ¬ w = "order"
  len : w.length ≤ 7
  free : 32 ∉ TL.tl w
  first : ∃ c, (TL.tl w).head? = some c ∧ c ≠ 111
  pt : parts.lookup w = some ((k : Int) + 1)
  str : PyData.strOk w = true
theorem word_ok {w : Str} {ns : List Nat} (h : (Td.nums w ns).ok) : WOk w ns.length ∧ (ns.length = 2 ∨ ns.length = 3) := by
  rcases h.2 with ⟨l, h⟩ | ⟨l, h⟩
  · refine ⟨?_, .inl l⟩
    rw [l]
    rcases h with rfl | rfl
    · exact ⟨by decide +kernel, by decide +kernel, by decide +kernel, ⟨112, by decide +kernel, by decide⟩, by decide +kernel, by decide +kernel⟩
    · exact ⟨by decide +kernel, by decide +kernel, by decide +kernel, ⟨114, by decide +kernel, by decide⟩, by decide +kernel, by decide +kernel⟩
  · refine ⟨?_, .inr l⟩
    rw [l]
    rcases h with rfl | rfl | rfl | rfl | rfl
    · exact ⟨by decide +kernel, by decide +kernel, by decide +kernel, ⟨100, by decide +kernel, by decide⟩, by decide +kernel, by decide +kernel⟩
    · exact ⟨by decide +kernel, by decide +kernel, by decide +kernel, ⟨98, by decide +kernel, by decide⟩, by decide +kernel, by decide +kernel⟩
    · exact ⟨by decide +kernel, by decide +kernel, by decide +kernel, ⟨115, by decide +kernel, by decide⟩, by decide +kernel, by decide +kernel⟩
    · exact ⟨by decide +kernel, by decide +kernel, by decide +kernel, ⟨99, by decide +kernel, by decide⟩, by decide +kernel, by decide +kernel⟩
    · exact ⟨by decide +kernel, by decide +kernel, by decide +kernel, ⟨109, by decide +kernel, by decide⟩, by decide +kernel, by decide +kernel⟩
theorem nums_parts {ns : List Nat} (h : ∀ n, n ∈ ns → n < 10 ^ 30) : ∀ p, p ∈ ns.map numS → p.length ≤ 30 := fun p hp => by
  obtain ⟨n, hn, rfl⟩ := List.mem_map.mp hp
  exact (numS_len (h n hn)).2
theorem cat_len {x y : Str} : (x ++ y).length = x.length + y.length := by
  rw [TL.len_tl, TL.tl_append, List.length_append, ← TL.len_tl, ← TL.len_tl]
theorem ord_parts {ls : List Tl} (h : ∀ t, t ∈ ls → t.ok) : ∀ p, p ∈ ls.map Tl.str → p.length ≤ 200 := fun p hp => by
  obtain ⟨t, ht, rfl⟩ := List.mem_map.mp hp
  exact Tl.len (h t ht)
theorem Td.len {d : Td} (h : d.ok) : d.str.length ≤ 90000 := by
  cases d with
  | ord ls =>
    have a := join_len (y := ", ") (ord_parts h.2)
    have e1 : (", " : Str).length = 2 := by decide +kernel
    have e2 : ("order " : Str).length = 6 := by decide +kernel
    have l := h.1.2
    show (("order " : Str) ++ _).length ≤ 90000
    rw [cat_len, e2]
    rw [e1, List.length_map] at a
    have : ls.length * (200 + 2) ≤ 25 * 202 := Nat.mul_le_mul_right _ l
    omega
  | nums w ns =>
    have a := join_len (y := " ") (nums_parts h.1)
    have e1 : (" " : Str).length = 1 := by decide +kernel
    obtain ⟨W, l⟩ := word_ok h
    have wl := W.len
    show (w ++ (" " : Str) ++ _).length ≤ 90000
    rw [cat_len, cat_len, e1]
    rw [e1, List.length_map] at a
    rcases l with l | l <;> rw [l] at a <;> omega
def spShown (_ : PySem.W.Frag) : Sp := fun vs H Q _ => ∃ (v : V) (d : Td), vs = [v] ∧ TdA H v d ∧ d.ok ∧ ∀ H', Same H H' → Q (.str d.str) H'
theorem len_Shown {K : PySem.W.Frag} {vs : List V} {H : Hp} {Q : VK} {E : XK} (h : spShown K vs H Q E) : vs.length = 1 := by
  obtain ⟨_, _, rfl, _⟩ := h; rfl
theorem ok_Shown {P : Program} {w : World} {K : PySem.W.Frag} {mg : Str → Option Value} {base : Heap} (T : Tx w K mg) : FnOk P w K mg base CX0 2 (He.fAd K dShown.at_) (fdO K dShown.at_) P_Shown (spShown K) := by
  refine T.f_Shown.ok sc_Shown (fun vs H Q E h => len_Shown h) (fun cdv A outer s H vs Q E hr h => ⟨_, PSs.nox ((pss_cons (ps_if (pt_cmpR op_eq (pe_ix ix_tup (pv 0) pe_int (fun _ _ => rfl)) pe_str (nomark _)) (pss_one (ps_ret (pe_op op_add_str pe_str (pe_bm PySem.F.plainAttrs_str PySem.F.slot_str_join PySem.F.type_str_join mt_join pe_str (pa_cons (pe_lc (own := [("line", 1)]) (g := gName 1) (tt := tYes) rfl sc_Shown.nd (pi_list (pe_ix ix_tup (pv 0) pe_int (fun _ _ => rfl))) (blkOk_by (N := N_Shown) (sc := defScope sShown) (by decide +kernel)) (fun _ _ _ _ _ => pg_name (i := 1) sc_Shown.nd rfl (Or.inl rfl)) (fun _ _ _ _ _ => pts_nil) (fun _ _ _ _ _ => (pe_call (ok_LineShown T) (hr.mono (by decide)) rfl T.g_LineShown T.f_LineShown.kp T.b_LineShown .nil pass0 (pa_cons (pv 1) pa_nil)))) pa_nil))))) pss_nil)
      (pss_one (ps_ret (pe_op op_add_str (pe_op op_add_str (pe_ix ix_tup (pv 0) pe_int (fun _ _ => rfl)) pe_str) (pe_bm PySem.F.plainAttrs_str PySem.F.slot_str_join PySem.F.type_str_join mt_join pe_str (pa_cons (pe_lc (own := [("number", 2)]) (g := gName 2) (tt := tYes) rfl sc_Shown.nd (pi_tup (pe_slice sl_tup (pv 0) (po_some pe_int) po_none)) (blkOk_by (N := N_Shown) (sc := defScope sShown) (by decide +kernel)) (fun _ _ _ _ _ => pg_name (i := 2) sc_Shown.nd rfl (Or.inl rfl)) (fun _ _ _ _ _ => pts_nil) (fun _ _ _ _ _ => (pe_callTy call_str_int (by rfl) T.b_str (by decide +kernel) (pa_cons (pv 2) pa_nil)))) pa_nil))))))), ?_⟩)
  obtain ⟨v, d, rfl, hd, ok, k⟩ := h
  have dl := Td.len ok
  cases d with
  | ord ls =>
    obtain ⟨t, l, xs, rfl, ht, hl, pt⟩ := hd
    have e1 : (", " : Str).length = 2 := by decide +kernel
    have ll := ok.1.2
    have pl : xs.length = ls.length := by rw [pt.length, List.length_map]
    walk_at "rd"
    refine r_ixT (SqT.of ht) (atI_get (j := 0) rfl rfl) ?_
    walk_at "rd"
    refine r_ity rfl ?_
    walk_at "rd"
    refine ⟨rfl, ?_⟩
    walk_at "rd"
    refine r_ixT (SqT.of ht) (atI_get (j := 1) rfl rfl) ?_
    refine lcp_list (ys := (ls.map Tl.str).map V.str) (SqL.of hl) (by simp [pl]) (by omega) ?_ ?_
    · intro i x y H' R ex ey s q
      obtain ⟨row, er, u, rfl, hu⟩ := pr_ex pt ex
      rw [List.getElem?_map] at er ey
      rw [List.getElem?_map] at ey
      cases em : ls[i]? with
      | none => rw [em] at er; cases er
      | some m =>
        rw [em] at er ey
        cases er
        cases ey
        walk_at "rd"
        exact ⟨u, m, rfl, s _ _ hu, ok.2 m (List.mem_of_getElem? em), fun H2 s2 => q _ s2⟩
    · intro D H' hD s e
      walk_at "rd"
      refine ⟨", ", D, ls.map Tl.str, rfl, rfl, .inl (SqL.of e), ?_, ?_⟩
      · have := sum_len (ord_parts ok.2)
        rw [e1, List.length_map]
        rw [List.length_map] at this
        omega
      walk_at "rd"
      refine ⟨_, _, rfl, rfl, sz5 ?_, k _ s⟩
      have : (("order " : Str) ++ Txt.join ", " (ls.map Tl.str)).length ≤ 90000 := dl
      rw [cat_len] at this
      omega
  | nums w ns =>
    obtain ⟨t, rfl, ht⟩ := hd
    obtain ⟨W, ln⟩ := word_ok ok
    have e1 : (" " : Str).length = 1 := by decide +kernel
    have wl := W.len
    walk_at "rd"
    refine r_ixT (SqT.of ht) (atI_get (j := 0) rfl rfl) ?_
    walk_at "rd"
    refine r_itz W.no ?_
    walk_at "rd"
    refine r_ixT (SqT.of ht) (atI_get (j := 0) rfl rfl) ?_
    walk_at "rd"
    refine ⟨_, _, rfl, rfl, sz5 (by rw [e1]; omega), ?_⟩
    walk_at "rd"
    refine ⟨rfl, ?_⟩
    walk_at "rd"
    refine ⟨t, _, rfl, SqT.of ht, ?_, fun p hp => ?_⟩
    · rintro ⟨z, _⟩
      revert z
      have : HT.sIx ((V.str w :: numsOf ns).length) 0 (some (1 : Int)) = min 1 ((V.str w :: numsOf ns).length) := HT.sIx_nat _ _ 1
      rw [this, List.length_cons]
      omega
    have cut : cutV (V.str w :: numsOf ns) (some 1) none = numsOf ns := cut_from (k := 1)
    rw [cut]
    have s1 := same_upd (o := .tup (numsOf ns)) hp
    refine lcp_tup (ys := (ns.map numS).map V.str) upd_same (by unfold numsOf; simp) (by unfold numsOf; rw [List.length_map]; omega) ?_ ?_
    · intro i x y H' R ex ey s q
      unfold numsOf at ex
      rw [List.getElem?_map] at ex ey
      rw [List.getElem?_map] at ey
      cases em : ns[i]? with
      | none => rw [em] at ex; cases ex
      | some n =>
        rw [em] at ex ey
        cases ex
        cases ey
        walk_at "rd"
        exact ⟨_, rfl, log_num (ok.1 n (List.mem_of_getElem? em)), q _ (Same.refl _)⟩
    · intro D H' hD s e
      walk_at "rd"
      have sl := sum_len (nums_parts ok.1)
      have jl : (w ++ (" " : Str) ++ Txt.join " " (ns.map numS)).length ≤ 90000 := dl
      refine ⟨" ", D, ns.map numS, rfl, rfl, .inl (SqL.of e), ?_, ?_⟩
      · rw [e1, List.length_map]
        rw [List.length_map] at sl
        omega
      walk_at "rd"
      refine ⟨_, _, rfl, rfl, sz5 ?_, k _ (s1.trans s)⟩
      rw [cat_len] at jl
      omega

/-! ### the words of deeds -/
theorem key_at {es : List DictEntry} {w : World} {ks : List Str} (h : es.map He.keyOf = He.keysIn w.params ks) : ∀ e, e ∈ es → ∃ k t, k ∈ ks ∧ e.key = .str k t := by
  intro e he
  have hm : He.keyOf e ∈ He.keysIn w.params ks := by
    rw [← h]
    exact List.mem_map_of_mem he
  unfold He.keysIn at hm
  obtain ⟨k, hk, e1⟩ := List.mem_map.mp hm
  unfold He.keyOf at e1
  split at e1
  · rename_i x t q
    have e2 := congrArg Prod.fst (Option.some.inj e1)
    have e3 : k = x := e2
    subst e3
    exact ⟨k, t, hk, q⟩
  · cases e1
theorem lookup_mem {ks : List (Str × Int)} {z : Str} {n : Int} (h : ks.lookup z = some n) : (z, n) ∈ ks := by
  induction ks with
  | nil => cases h
  | cons a r ih =>
    obtain ⟨k, m⟩ := a
    rw [List.lookup_cons] at h
    by_cases c : z = k
    · subst c
      rw [beq_self_eq_true] at h
      cases h
      exact List.mem_cons_self
    · have q : (z == k) = false := by simpa using c
      rw [q] at h
      exact List.mem_cons_of_mem _ (ih h)
theorem lookup_no {ks : List (Str × Int)} {z : Str} (h : ks.lookup z = none) : ¬ z ∈ ks.map (·.1) := by
  induction ks with
  | nil => simp
  | cons a r ih =>
    obtain ⟨k, m⟩ := a
    rw [List.lookup_cons] at h
    by_cases c : z = k
    · subst c
      rw [beq_self_eq_true] at h
      cases h
    · have q : (z == k) = false := by simpa using c
      rw [q] at h
      intro hm
      rcases List.mem_cons.mp hm with e | e
      · exact c e
      · exact ih h e
theorem Tx.pt {w : World} {K : PySem.W.Frag} {mg : Str → Option Value} (T : Tx w K mg) (z : Str) :
    (∃ n, parts.lookup z = some n ∧ ∃ u, PySem.W.nsIn K (He.ga K "PARTS") z = some (some u) ∧ RelV (.int n) u) ∨ (parts.lookup z = none ∧ PySem.W.nsIn K (He.ga K "PARTS") z = some none) := by
  cases e : parts.lookup z with
  | some n =>
    refine .inl ⟨n, rfl, ?_⟩
    have hm : (z, He.Dv.int n) ∈ parts.map fun p => (p.1, He.Dv.int p.2) := List.mem_map.mpr ⟨(z, n), lookup_mem e, rfl⟩
    exact He.valsB_ok T.kv hm
  | none =>
    refine .inr ⟨rfl, ?_⟩
    obtain ⟨es, m, lk, lit, ky, low⟩ := T.kd
    have hk := key_at ky
    have no := lookup_no e
    unfold PySem.W.nsIn
    rw [lk]
    have f : es.toList.find? (fun e => e.key.isStr z) = none := by
      rw [List.find?_eq_none]
      intro d hd
      obtain ⟨k, t, hm, q⟩ := hk d hd
      rw [q]
      show ¬ (k == z) = true
      intro y
      have y2 : k = z := by simpa using y
      rw [← y2] at no
      exact no hm
    have g : es.toList.any (fun e => e.refKey) = false := by
      rw [List.any_eq_false]
      intro d hd
      obtain ⟨k, t, hm, q⟩ := hk d hd
      simp [DictEntry.refKey, q]
    dsimp only
    rw [f]
    dsimp only
    rw [g]
    rfl
section
variable {X : Cx} {d : Addr} {ks : List Str}
theorem op_notIn_pt (D : ∃ es n, X.K.lookup d = some ⟨.type "dict", none, .dict es n, #[]⟩ ∧ PySem.W.KeysLit X.w.params es.toList ∧ es.toList.map He.keyOf = He.keysIn X.w.params ks ∧ (d == sysModules) = false) :
    OpR X (compareOp .NotIn) (fun x y H Q => ∃ (z : Str) (r : Option Value), x = .str z ∧ y = .ref d ∧ PySem.W.nsIn X.K d z = some r ∧ Q (.bl (!r.isSome)) H) := by
  obtain ⟨es, n, h1, h2, _, h4⟩ := D
  exact op_notIn_kd ⟨h1, h2, h4⟩
end

/-! ### texts read -/
theorem cut_to6 {z : Str} : TL.tl (cutS z none (some 6)) = (TL.tl z).take 6 := by
  show ((z.cps.toList.drop (HT.sIx z.length 0 none)).take (HT.sIx z.length z.length (some ((6 : Nat) : Int)) - HT.sIx z.length 0 none)) = z.cps.toList.take 6
  rw [HT.sIx_none, HT.sIx_nat, List.drop_zero, Nat.sub_zero]
  by_cases h : 6 ≤ z.length
  · rw [Nat.min_eq_left h]
  · have hl : z.cps.toList.length = z.length := Array.length_toList
    rw [Nat.min_eq_right (by omega), List.take_of_length_le (by omega), List.take_of_length_le (by omega)]
theorem cut_from6 {z : Str} : TL.tl (cutS z (some 6) none) = (TL.tl z).drop 6 := by
  show ((z.cps.toList.drop (HT.sIx z.length 0 (some ((6 : Nat) : Int)))).take (HT.sIx z.length z.length none - HT.sIx z.length 0 (some ((6 : Nat) : Int)))) = z.cps.toList.drop 6
  rw [HT.sIx_none, HT.sIx_nat]
  have hl : z.cps.toList.length = z.length := Array.length_toList
  by_cases h : 6 ≤ z.length
  · rw [Nat.min_eq_left h, List.take_of_length_le (by rw [List.length_drop]; omega)]
  · rw [Nat.min_eq_right (by omega), List.drop_of_length_le (by omega), List.drop_of_length_le (by omega)]
    simp
theorem six : TL.tl ("order " : Str) = [111, 114, 100, 101, 114, 32] := by decide +kernel
theorem ord_head {ls : List Tl} : cutS (Td.ord ls).str none (some 6) = "order " := by
  refine TL.ext_tl ?_
  rw [cut_to6]
  show (TL.tl (("order " : Str) ++ _)).take 6 = _
  rw [TL.tl_append, six]
  rfl
theorem ord_tail {ls : List Tl} : cutS (Td.ord ls).str (some 6) none = Txt.join ", " (ls.map Tl.str) := by
  refine TL.ext_tl ?_
  rw [cut_from6]
  show (TL.tl (("order " : Str) ++ _)).drop 6 = _
  rw [TL.tl_append, six]
  rfl
theorem ord_split {ls : List Tl} (ok : (Td.ord ls).ok) : Txt.split (Txt.join ", " (ls.map Tl.str)) ", " = ls.map Tl.str :=
  TL.split_join (s := 44) (S := [32]) (by decide +kernel) (by decide +kernel) (by
    have := ok.1.1
    cases ls with
    | nil => simp at this
    | cons a r => simp) fun p hp => by
    obtain ⟨t, ht, rfl⟩ := List.mem_map.mp hp
    exact Tl.free (ok.2 t ht)
theorem nums_head {w : Str} {ns : List Nat} (ok : (Td.nums w ns).ok) : ¬ cutS (Td.nums w ns).str none (some 6) = "order " := fun e => by
  obtain ⟨W, _⟩ := word_ok ok
  obtain ⟨c, h, n⟩ := W.first
  have q := congrArg (fun z => (TL.tl z).head?) e
  have q' : (TL.tl (cutS (Td.nums w ns).str none (some 6))).head? = (TL.tl ("order " : Str)).head? := q
  rw [cut_to6, six] at q'
  have e2 : TL.tl (Td.nums w ns).str = TL.tl w ++ (TL.tl (" " : Str) ++ TL.tl (Txt.join " " (ns.map numS))) := by
    show TL.tl (w ++ (" " : Str) ++ Txt.join " " (ns.map numS)) = _
    rw [TL.tl_append, TL.tl_append, List.append_assoc]
  rw [e2] at q'
  cases ew : TL.tl w with
  | nil => rw [ew] at h; cases h
  | cons a r =>
    rw [ew] at h q'
    have h' : a = c := by simpa using h
    have q2 : a = 111 := by simpa using q'
    exact n (by rw [← h', q2])
theorem nums_split {w : Str} {ns : List Nat} (ok : (Td.nums w ns).ok) : Txt.split (Td.nums w ns).str " " = w :: ns.map numS := by
  obtain ⟨W, l⟩ := word_ok ok
  have e : (Td.nums w ns).str = Txt.join " " (w :: ns.map numS) := by
    cases ns with
    | nil => simp at l
    | cons a r =>
      show w ++ (" " : Str) ++ Txt.join " " (numS a :: r.map numS) = _
      exact join_cons.symm
  rw [e]
  refine TL.split_join (s := 32) (S := []) (by decide +kernel) (by decide +kernel) (by simp) fun p hp => ?_
  rcases List.mem_cons.mp hp with rfl | hp
  · exact W.free
  · obtain ⟨n, _, rfl⟩ := List.mem_map.mp hp
    rw [tl_numS]
    exact TL.numL_free (.inl (by decide))
def spRead (_ : PySem.W.Frag) : Sp := fun vs H Q _ => ∃ d : Td, vs = [.str d.str] ∧ d.ok ∧ ∀ v H', Same H H' → TdA H' v d → Q v H'
theorem len_Read {K : PySem.W.Frag} {vs : List V} {H : Hp} {Q : VK} {E : XK} (h : spRead K vs H Q E) : vs.length = 1 := by
  obtain ⟨_, rfl, _⟩ := h; rfl
theorem ok_Read {P : Program} {w : World} {K : PySem.W.Frag} {mg : Str → Option Value} {base : Heap} (T : Tx w K mg) : FnOk P w K mg base CX0 3 (He.fAd K dRead.at_) (fdO K dRead.at_) P_Read (spRead K) := by
  refine T.f_Read.ok sc_Read (fun vs H Q E h => len_Read h) (fun cdv A outer s H vs Q E hr h => ⟨_, PSs.nox ((pss_cons (ps_if (pt_cmpR op_eq (pe_slice sl_str (pv 0) po_none (po_some pe_int)) pe_str (nomark _)) (pss_one (ps_ret (pe_tup (pa_cons pe_str (pa_cons (pe_lc (own := [("line", 1)]) (g := gName 1) (tt := tYes) rfl sc_Read.nd (pi_list (pe_bm PySem.F.plainAttrs_str PySem.F.slot_str_split PySem.F.type_str_split mt_split (pe_slice sl_str (pv 0) (po_some pe_int) po_none) (pa_cons pe_str pa_nil))) (blkOk_by (N := N_Read) (sc := defScope sRead) (by decide +kernel)) (fun _ _ _ _ _ => pg_name (i := 1) sc_Read.nd rfl (Or.inl rfl)) (fun _ _ _ _ _ => pts_nil) (fun _ _ _ _ _ => (pe_call (ok_LineIn T) (hr.mono (by decide)) rfl T.g_LineIn T.f_LineIn.kp T.b_LineIn .nil pass0 (pa_cons (pv 1) pa_nil)))) pa_nil))))) pss_nil)
      (pss_cons (ps_set (i := 2) sc_Read.nd rfl (Or.inl rfl) (pe_bm PySem.F.plainAttrs_str PySem.F.slot_str_split PySem.F.type_str_split mt_split (pv 0) (pa_cons pe_str pa_nil)))
      (pss_cons (ps_if (PW.pt (pw_or (pt_cmpR op_eq (pe_ix ix_list (pv 2) pe_int (fun _ _ => rfl)) pe_str (nomark _)) (pw_or (pt_cmpR (op_notIn_pt T.kd) (pe_ix ix_list (pv 2) pe_int (fun _ _ => rfl)) (pe_glob rfl T.c_PARTS (v := .ref (He.ga K "PARTS")) rfl) (by rfl)) (pw_or1 (pt_cmpR op_ne (pe_callB call_len_seq (by rfl) T.b_len (by decide +kernel) (pa_cons (pv 2) pa_nil)) (pe_ix ix_kdict (pe_glob rfl T.c_PARTS (v := .ref (He.ga K "PARTS")) rfl) (pe_ix ix_list (pv 2) pe_int (fun _ _ => rfl)) (fun _ _ => rfl)) (nomark _)))))) (pss_one ps_never) pss_nil)
      (pss_cons (ps_setLc (i := 4) (own := [("part", 3)]) (g := gName 3) (tt := tYes) rfl sc_Read.nd rfl rfl (sw_true rfl rfl rfl (by decide +kernel)) (pi_list (pe_slice sl_list (pv 2) (po_some pe_int) po_none)) (blkOk_by (N := N_Read) (sc := defScope sRead) (by decide +kernel)) (fun _ _ _ _ _ => pg_name (i := 3) sc_Read.nd rfl (Or.inl rfl)) (fun _ _ _ _ _ => pts_nil) (fun _ _ _ _ _ => (pe_call (ok_NumberIn T) (hr.mono (by decide)) rfl T.g_NumberIn T.f_NumberIn.kp T.b_NumberIn .nil pass0 (pa_cons (pv 3) pa_nil))))
      (pss_cons (ps_if (pt_cmpR op_eq (pe_callB call_len_seq (by rfl) T.b_len (by decide +kernel) (pa_cons (pv 4) pa_nil)) pe_int (nomark _)) (pss_one (ps_ret (pe_tup (pa_cons (pe_ix ix_list (pv 2) pe_int (fun _ _ => rfl)) (pa_cons (pe_ix ix_list (pv 4) pe_int (fun _ _ => rfl)) (pa_cons (pe_ix ix_list (pv 4) pe_int (fun _ _ => rfl)) pa_nil)))))) pss_nil)
      (pss_one (ps_ret (pe_tup (pa_cons (pe_ix ix_list (pv 2) pe_int (fun _ _ => rfl)) (pa_cons (pe_ix ix_list (pv 4) pe_int (fun _ _ => rfl)) (pa_cons (pe_ix ix_list (pv 4) pe_int (fun _ _ => rfl)) (pa_cons (pe_ix ix_list (pv 4) pe_int (fun _ _ => rfl)) pa_nil))))))))))))), ?_⟩)
  obtain ⟨d, rfl, ok, k⟩ := h
  have dl := Td.len ok
  walk_at "rd"
  refine ⟨_, rfl, sz5 (by omega), ?_⟩
  walk_at "rd"
  cases d with
  | ord ls =>
    rw [ord_head]
    refine r_ity rfl ?_
    walk_at "rd"
    refine ⟨_, rfl, sz5 (by omega), ?_⟩
    rw [ord_tail]
    have tl : (Txt.join ", " (ls.map Tl.str)).length ≤ 90000 := by
      have : (("order " : Str) ++ Txt.join ", " (ls.map Tl.str)).length ≤ 90000 := dl
      rw [cat_len] at this
      omega
    refine ⟨rfl, ?_⟩
    walk_at "rd"
    refine ⟨_, _, rfl, rfl, by decide +kernel, sz5 (by omega), fun p hp => ?_⟩
    rw [ord_split ok]
    have s1 := same_upd (o := .lst ((ls.map Tl.str).map V.str)) hp
    have l25 := ok.1.2
    refine lcp_rel (R := TupAt) (zs := ls.map Tl.row) (SqL.of upd_same) (by simp) (by simp; omega) (fun H H' v z ⟨t, e, q⟩ st => ⟨t, e, st _ _ q⟩) ?_ ?_
    · intro i x z H' W ex ez s q
      rw [List.getElem?_map] at ex ez
      rw [List.getElem?_map] at ex
      cases em : ls[i]? with
      | none => rw [em] at ez; cases ez
      | some m =>
        rw [em] at ex ez
        cases ex
        cases ez
        walk_at "rd"
        exact ⟨m, rfl, ok.2 m (List.mem_of_getElem? em), fun v H2 s2 hv => q v H2 s2 hv⟩
    · intro D H' acc hD s e pr
      walk_at "rd"
      refine r_mk (by simp) fun t ht => ?_
      have s2 := same_upd (o := .tup [.str "order", .ref D]) ht
      exact k _ _ ((s1.trans s).trans s2) ⟨t, D, acc, rfl, upd_same, s2 _ _ e, tup_keep (But.of (S := fun _ => False) s2) pr⟩
  | nums w' ns =>
    obtain ⟨W, ln⟩ := word_ok ok
    refine r_itz (nums_head ok) ?_
    walk_at "rd"
    refine ⟨rfl, ?_⟩
    walk_at "rd"
    refine ⟨_, _, rfl, rfl, by decide +kernel, sz5 (by omega), fun p hp => ?_⟩
    rw [nums_split ok]
    have s1 := same_upd (o := .lst ((w' :: ns.map numS).map V.str)) hp
    have ep : upd H p (.lst ((w' :: ns.map numS).map V.str)) p = some (.lst ((w' :: ns.map numS).map V.str)) := upd_same
    revert s1 ep
    generalize upd H p (.lst ((w' :: ns.map numS).map V.str)) = H1
    intro s1 ep
    walk_at "rd"
    refine r_ixL (SqL.of ep) (atI_get (j := 0) rfl rfl) ?_
    walk_at "rd"
    refine r_itz W.no ?_
    walk_at "rd"
    refine r_ixL (SqL.of ep) (atI_get (j := 0) rfl rfl) ?_
    walk_at "rd"
    rcases T.pt w' with ⟨n, e1, u, e2, ru⟩ | ⟨e1, e2⟩
    rotate_left
    · rw [W.pt] at e1; cases e1
    have en : n = (ns.length : Int) + 1 := by
      rw [W.pt] at e1
      exact (Option.some.inj e1).symm
    refine ⟨w', _, rfl, rfl, e2, ?_⟩
    walk_at "rd"
    refine r_itnT ?_
    walk_at "rd"
    refine ⟨_, _, rfl, .inl (SqL.of ep), ?_⟩
    walk_at "rd"
    refine r_ixL (SqL.of ep) (atI_get (j := 0) rfl rfl) ?_
    obtain ⟨es, m, lk, lit, ky, low⟩ := T.kd
    refine ⟨_, w', .int n, rfl, rfl, ⟨es, m, u, lk, lit, e2, ru⟩, ?_⟩
    walk_at "rd"
    refine r_itn (fun c => absurd (by rw [en]; simp) c) (fun _ => ?_)
    walk_at "rd"
    refine r_sll (SqL.of ep) fun p2 hp2 => ?_
    have cut : cutV ((w' :: ns.map numS).map V.str) (some 1) none = (ns.map numS).map V.str := cut_from (k := 1)
    rw [cut]
    have s2 := same_upd (o := .lst ((ns.map numS).map V.str)) hp2
    refine lcp_list (ys := numsOf ns) (SqL.of upd_same) (by unfold numsOf; simp) (by simp; omega) ?_ ?_
    · intro i x y H' R ex ey s q
      unfold numsOf at ey
      rw [List.getElem?_map] at ex ey
      rw [List.getElem?_map] at ex
      cases em : ns[i]? with
      | none => rw [em] at ex; cases ex
      | some n =>
        rw [em] at ex ey
        cases ex
        cases ey
        walk_at "rd"
        exact ⟨n, rfl, ok.1 n (List.mem_of_getElem? em), q _ (Same.refl _)⟩
    · intro D H2 hD s3 eD
      have ep2 := s3 _ _ (s2 _ _ ep)
      have s := (s1.trans s2).trans s3
      walk_at "rd"
      refine ⟨D, _, rfl, .inl (SqL.of eD), ?_⟩
      walk_at "rd"
      have ll : (numsOf ns).length = ns.length := by unfold numsOf; simp
      rw [ll]
      rcases ln with ln | ln
      · refine r_ity (by rw [ln]; rfl) ?_
        match ns, ln with
        | [a, b], _ =>
        walk_at "rd"
        refine r_ixL (SqL.of ep2) (atI_get (j := 0) rfl rfl) ?_
        walk_at "rd"
        refine r_ixL (SqL.of eD) (atI_get (j := 0) rfl rfl) ?_
        walk_at "rd"
        refine r_ixL (SqL.of eD) (atI_get (j := 1) rfl rfl) ?_
        walk_at "rd"
        exact r_mk (by simp) fun t ht => k _ _ (s.trans (same_upd ht)) ⟨t, rfl, upd_same⟩
      · refine r_itz (by rw [ln]; decide) ?_
        match ns, ln with
        | [a, b, c], _ =>
        walk_at "rd"
        refine r_ixL (SqL.of ep2) (atI_get (j := 0) rfl rfl) ?_
        walk_at "rd"
        refine r_ixL (SqL.of eD) (atI_get (j := 0) rfl rfl) ?_
        walk_at "rd"
        refine r_ixL (SqL.of eD) (atI_get (j := 1) rfl rfl) ?_
        walk_at "rd"
        refine r_ixL (SqL.of eD) (atI_get (j := 2) rfl rfl) ?_
        walk_at "rd"
        exact r_mk (by simp) fun t ht => k _ _ (s.trans (same_upd ht)) ⟨t, rfl, upd_same⟩

/-! ### the law's helpers -/
def Script (K : PySem.W.Frag) (H : Hp) (a : Addr) : Prop := ∃ ns : List Int, SqL K H a (ns.map V.int) ∧ ns.length ≤ 63
theorem SqL.keep {K : PySem.W.Frag} {H H' : Hp} {a : Addr} {xs : List V} (h : SqL K H a xs) (k : ∀ o, H a = some o → H' a = some o) : SqL K H' a xs := by
  rcases h with (h | ⟨o, h⟩) | h
  · exact .inl (.inl (k _ h))
  · exact .inl (.inr ⟨o, k _ h⟩)
  · exact .inr h
theorem Script.keep {K : PySem.W.Frag} {H H' : Hp} {a : Addr} (S : Script K H a) (k : ∀ o, H a = some o → H' a = some o) : Script K H' a := by
  obtain ⟨ns, h, l⟩ := S
  exact ⟨ns, SqL.keep h k, l⟩
theorem Script.same {K : PySem.W.Frag} {H H' : Hp} {a : Addr} (S : Script K H a) (s : Same H H') : Script K H' a := S.keep fun o e => s _ _ e
theorem int_at {ns : List Int} {i : Nat} (h : i < ns.length) : (ns.map V.int)[i]? = some (V.int ns[i]) := by
  rw [List.getElem?_map, List.getElem?_eq_getElem h]; rfl
def spLCellAt (K : PySem.W.Frag) : Sp := fun vs H Q _ => ∃ (a : Addr) (k : Int), vs = [.ref a, .int k] ∧ Script K H a ∧ 0 ≤ k ∧ ∀ n : Int, Q (.int n) H
theorem len_LCellAt {K : PySem.W.Frag} {vs : List V} {H : Hp} {Q : VK} {E : XK} (h : spLCellAt K vs H Q E) : vs.length = 2 := by
  obtain ⟨_, _, rfl, _⟩ := h; rfl
theorem ok_LCellAt {P : Program} {w : World} {K : PySem.W.Frag} {mg : Str → Option Value} {base : Heap} (T : Tx w K mg) : FnOk P w K mg base CX0 1 (He.fAd K dLCellAt.at_) (fdO K dLCellAt.at_) P_LCellAt (spLCellAt K) := by
  refine T.f_LCellAt.ok sc_LCellAt (fun vs H Q E h => len_LCellAt h) (fun cdv A outer s H vs Q E hr h => ⟨_, PSs.nox ((pss_cons (ps_if (pt_cmpR op_lt (pv 1) (pe_callB call_len_seq (by rfl) T.b_len (by decide +kernel) (pa_cons (pv 0) pa_nil)) (nomark _)) (pss_one (ps_ret (pe_ix ix_list (pv 0) (pv 1) (fun _ _ => rfl)))) pss_nil)
      (pss_one (ps_ret pe_int)))), ?_⟩)
  obtain ⟨a, i, rfl, ⟨ns, hs, _⟩, hi, k⟩ := h
  walk_at "rd"
  refine ⟨a, _, rfl, .inl hs, ?_⟩
  rw [List.length_map]
  walk_at "rd"
  refine r_itd (fun c => ?_) (fun c => ?_)
  · walk_at "rd"
    exact r_ixL hs (atI_get (j := i.toNat) (by omega) (int_at (by omega))) (k _)
  · walk_at "rd"
    exact k 0
def spLWhole (_ : PySem.W.Frag) : Sp := fun vs H Q _ => ∃ i : Int, vs = [.int i] ∧ Q (.bl true) H
theorem len_LWhole {K : PySem.W.Frag} {vs : List V} {H : Hp} {Q : VK} {E : XK} (h : spLWhole K vs H Q E) : vs.length = 1 := by
  obtain ⟨_, rfl, _⟩ := h; rfl
theorem ok_LWhole {P : Program} {w : World} {K : PySem.W.Frag} {mg : Str → Option Value} {base : Heap} (T : Tx w K mg) : FnOk P w K mg base CX0 1 (He.fAd K dLWhole.at_) (fdO K dLWhole.at_) P_LWhole (spLWhole K) := by
  refine T.f_LWhole.ok sc_LWhole (fun vs H Q E h => len_LWhole h) (fun cdv A outer s H vs Q E hr h => ⟨_, PSs.nox ((pss_one (ps_ret (pe_and (pe_callB call_isi (by rfl) T.b_isinstance (by decide +kernel) (pa_cons (pv 0) (pa_cons (pe_bltn (v := .ty "int") (by rfl) T.b_int (by decide +kernel) rfl) pa_nil))) (pe_one (pe_not (pe_callB call_isi (by rfl) T.b_isinstance (by decide +kernel) (pa_cons (pv 0) (pa_cons (pe_bltn (v := .ty "bool") (by rfl) T.b_bool (by decide +kernel) rfl) pa_nil))))))))), ?_⟩)
  obtain ⟨i, rfl, k⟩ := h
  walk_at "rd"
  exact k
theorem emb {i j : Int} (h : 0 < j) : 0 ≤ i % j ∧ i % j < j := ⟨Int.emod_nonneg _ (by omega), Int.emod_lt_of_pos _ h⟩

theorem letter_at {n : Int} : ∃ c : Nat, c ∈ letters.cps.toList ∧ atI letters.cps.toList (n % 26) = some c := by
  have h0 : 0 ≤ n % 26 := Int.emod_nonneg _ (by decide)
  have h1 : n % 26 < 26 := Int.emod_lt_of_pos _ (by decide)
  have hl : letters.cps.toList.length = 26 := by decide +kernel
  have hj : (n % 26).toNat < letters.cps.toList.length := by omega
  refine ⟨letters.cps.toList[(n % 26).toNat], List.getElem_mem hj, ?_⟩
  unfold atI ixN
  rw [if_pos h0, if_pos (by omega)]
  exact List.getElem?_eq_getElem hj
theorem joinL_nil : ∀ ps : List (List Nat), TL.joinL [] ps = ps.flatten
  | [] => rfl
  | [p] => by simp [TL.joinL]
  | p :: q :: r => by
    have ih := joinL_nil (q :: r)
    show p ++ ([] ++ TL.joinL [] (q :: r)) = _
    rw [List.nil_append, ih]
    rfl
theorem sum_ones {cs : List Nat} : ((cs.map fun c => (⟨#[c]⟩ : Str)).map (·.length)).sum = cs.length := by
  induction cs with
  | nil => rfl
  | cons a r ih =>
    rw [List.map_cons, List.map_cons, List.sum_cons, ih]
    show 1 + r.length = _
    rw [List.length_cons]
    omega
/-- an item, joined of letters -/
theorem item_join {cs : List Nat} (h : ∀ c, c ∈ cs → c ∈ letters.cps.toList) (l : 1 ≤ cs.length ∧ cs.length ≤ 12) : isItem (Txt.join "" (cs.map fun c => (⟨#[c]⟩ : Str))) = true := by
  have e : (Txt.join "" (cs.map fun c => (⟨#[c]⟩ : Str))).cps.toList = cs := by
    rw [TL.join_eq]
    have q := TL.tl_join "" (cs.map fun c => (⟨#[c]⟩ : Str))
    have q1 : TL.tl (Str.join "" (cs.map fun c => (⟨#[c]⟩ : Str))) = cs := by
      rw [q, show TL.tl ("" : Str) = [] by decide +kernel, joinL_nil, List.map_map]
      clear q h l
      induction cs with
      | nil => rfl
      | cons a r ih =>
        rw [List.map_cons, List.flatten_cons, ih]
        rfl
    exact q1
  unfold isItem
  have len : (Txt.join "" (cs.map fun c => (⟨#[c]⟩ : Str))).length = cs.length := by
    show Array.size _ = _
    rw [← Array.length_toList, e]
  rw [e, len, decide_eq_true h, decide_eq_true l]
  rfl
/-- a value for each place -/
theorem each_of {n : Nat} {P : Nat → Nat → Prop} (h : ∀ i, i < n → ∃ c, P i c) : ∃ cs : List Nat, cs.length = n ∧ ∀ (i : Nat) c, cs[i]? = some c → P i c := by
  induction n with
  | zero => exact ⟨[], rfl, fun i c e => by simp at e⟩
  | succ n ih =>
    obtain ⟨cs, hl, hc⟩ := ih fun i hi => h i (by omega)
    obtain ⟨c, hp⟩ := h n (by omega)
    refine ⟨cs ++ [c], by simp [hl], fun i d e => ?_⟩
    by_cases hi : i < cs.length
    · rw [List.getElem?_append_left hi] at e
      exact hc i d e
    · have : i = n := by
        have := (List.getElem?_eq_some_iff.mp e).1
        simp at this
        omega
      subst this
      rw [List.getElem?_append_right (by omega), hl, Nat.sub_self] at e
      cases e
      exact hp

/-! ### a deed that is made -/
def spLNumberBy (_ : PySem.W.Frag) : Sp := fun vs H Q _ => ∃ c w : Int, vs = [.int c, .int w] ∧ ∀ (n : Nat) H', n < 10 ^ 30 → Same H H' → Q (.int (n : Int)) H'
theorem len_LNumberBy {K : PySem.W.Frag} {vs : List V} {H : Hp} {Q : VK} {E : XK} (h : spLNumberBy K vs H Q E) : vs.length = 2 := by
  obtain ⟨_, _, rfl, _⟩ := h; rfl
theorem p30 : (0 : Int) < 10 ^ (30 : Int).toNat := by decide
theorem nat_of {z : Int} {m : Nat} (h0 : 0 ≤ z) (h1 : z < (m : Int)) : ∃ n : Nat, z = (n : Int) ∧ n < m := ⟨z.toNat, by omega, by omega⟩
theorem ok_LNumberBy {P : Program} {w : World} {K : PySem.W.Frag} {mg : Str → Option Value} {base : Heap} (T : Tx w K mg) : FnOk P w K mg base CX0 1 (He.fAd K dLNumberBy.at_) (fdO K dLNumberBy.at_) P_LNumberBy (spLNumberBy K) := by
  refine T.f_LNumberBy.ok sc_LNumberBy (fun vs H Q E h => len_LNumberBy h) (fun cdv A outer s H vs Q E hr h => ⟨_, PSs.nox ((pss_cons (ps_if (pt_cmpR op_eq (pe_op op_mod (pv 1) pe_int) pe_int (nomark _)) (pss_one (ps_ret (pe_op op_mod (pv 0) (pe_op op_pow pe_int pe_int)))) pss_nil)
      (pss_cons (ps_if (pt_cmpR op_eq (pe_op op_mod (pv 1) pe_int) pe_int (nomark _)) (pss_one (ps_ret (pe_ix ix_list (pe_lst (pa_cons pe_int (pa_cons (pe_op op_sub (pe_op op_pow pe_int pe_int) pe_int) (pa_cons pe_int (pa_cons pe_int (pa_cons (pe_op op_pow pe_int pe_int) pa_nil)))))) (pe_op op_mod (pv 0) pe_int) (fun _ _ => rfl)))) pss_nil)
      (pss_one (ps_ret (pe_op op_mod (pv 0) pe_int)))))), ?_⟩)
  obtain ⟨c, w', rfl, k⟩ := h
  walk_at "rd"
  walk_at "md"
  walk_at "rd"
  refine r_itd (fun _ => ?_) (fun _ => ?_)
  · walk_at "rd"
    refine r_I (C := CPow) ⟨by decide, by decide, by decide⟩ ?_
    refine r_I p30 ?_
    obtain ⟨n, e, hn⟩ := nat_of (z := c % 10 ^ (30 : Int).toNat) (m := 10 ^ 30) (Int.emod_nonneg _ (by decide)) (Int.emod_lt_of_pos _ p30)
    rw [e]
    exact k n _ hn (Same.refl _)
  · walk_at "rd"
    walk_at "md"
    walk_at "rd"
    refine r_itd (fun _ => ?_) (fun _ => ?_)
    · walk_at "rd"
      refine r_I (C := CPow) ⟨by decide, by decide, by decide⟩ ?_
      walk_at "rd"
      refine r_I (C := CPow) ⟨by decide, by decide, by decide⟩ ?_
      walk_at "rd"
      refine r_mk (by simp) fun l hl => ?_
      walk_at "rd"
      walk_at "md"
      walk_at "rd"
      have b : c % 5 = ((0 : Nat) : Int) ∨ c % 5 = ((1 : Nat) : Int) ∨ c % 5 = ((2 : Nat) : Int) ∨ c % 5 = ((3 : Nat) : Int) ∨ c % 5 = ((4 : Nat) : Int) := by omega
      have fin : ∀ n : Nat, n < 10 ^ 30 → Q (.int (n : Int)) (upd H l (.lst [.int 0, .int (10 ^ (30 : Int).toNat - 1), .int 9, .int 10, .int (10 ^ (29 : Int).toNat)])) := fun n hn => k n _ hn (same_upd hl)
      rcases b with b | b | b | b | b
      · exact r_ixL (SqL.of upd_same) (atI_get b rfl) (fin 0 (by decide))
      · exact r_ixL (SqL.of upd_same) (atI_get b rfl) (fin (10 ^ 30 - 1) (by decide))
      · exact r_ixL (SqL.of upd_same) (atI_get b rfl) (fin 9 (by decide))
      · exact r_ixL (SqL.of upd_same) (atI_get b rfl) (fin 10 (by decide))
      · exact r_ixL (SqL.of upd_same) (atI_get b rfl) (fin (10 ^ 29) (by decide))
    · walk_at "rd"
      walk_at "md"
      obtain ⟨n, e, hn⟩ := nat_of (z := c % 1000) (m := 1000) (by omega) (by omega)
      rw [e]
      exact k n _ (Nat.lt_of_lt_of_le hn (by decide)) (Same.refl _)
def spLItemBy (_ : PySem.W.Frag) : Sp := fun vs H Q _ => ∃ c : Int, vs = [.int c] ∧ ∀ z H', isItem z = true → Same H H' → Q (.str z) H'
theorem len_LItemBy {K : PySem.W.Frag} {vs : List V} {H : Hp} {Q : VK} {E : XK} (h : spLItemBy K vs H Q E) : vs.length = 1 := by
  obtain ⟨_, rfl, _⟩ := h; rfl
theorem ok_LItemBy {P : Program} {w : World} {K : PySem.W.Frag} {mg : Str → Option Value} {base : Heap} (T : Tx w K mg) : FnOk P w K mg base CX0 1 (He.fAd K dLItemBy.at_) (fdO K dLItemBy.at_) P_LItemBy (spLItemBy K) := by
  refine T.f_LItemBy.ok sc_LItemBy (fun vs H Q E h => len_LItemBy h) (fun cdv A outer s H vs Q E hr h => ⟨_, PSs.nox ((pss_cons (ps_set (i := 1) sc_LItemBy.nd rfl (Or.inr rfl) pe_str)
      (pss_one (ps_ret (pe_bm PySem.F.plainAttrs_str PySem.F.slot_str_join PySem.F.type_str_join mt_join pe_str (pa_cons (pe_lc (own := [("_law_k", 2)]) (g := gName 2) (tt := tYes) rfl sc_LItemBy.nd (pi_range1 (by rfl) T.b_range (pa_cons (pe_op op_add pe_int (pe_op op_mod (pv 0) pe_int)) pa_nil)) (blkOk_by (N := N_LItemBy) (sc := defScope sLItemBy) (by decide +kernel)) (fun _ _ _ _ _ => pg_name (i := 2) sc_LItemBy.nd rfl (Or.inl rfl)) (fun _ _ _ _ _ => pts_nil) (fun _ _ _ _ _ => (pe_ix ix_str (pv 1) (pe_op op_mod (pe_op op_add (pe_op op_add (pe_op op_fdiv (pv 0) pe_int) (pe_op op_mul (pe_op op_fdiv (pe_op op_fdiv (pv 0) pe_int) pe_int) (pv 2))) (pe_op op_mul pe_int (pv 2))) pe_int) (fun _ _ => rfl)))) pa_nil)))))), ?_⟩)
  obtain ⟨c, rfl, k⟩ := h
  walk_at "rd"
  refine ⟨rfl, ?_⟩
  walk_at "rd"
  walk_at "md"
  walk_at "rd"
  have b1 : 0 ≤ c % 12 ∧ c % 12 < 12 := by omega
  revert b1
  generalize c % 12 = m
  intro b1
  obtain ⟨cs, hl, hc⟩ := each_of (n := (1 + m).toNat) (P := fun i x => x ∈ letters.cps.toList ∧ atI letters.cps.toList ((c / 12 + c / 12 / 26 * (i : Int) + 5 * (i : Int)) % 26) = some x) fun i _ => letter_at
  refine lcp_range (ys := cs.map fun x => V.str ⟨#[x]⟩) (by simp [hl]) (by omega) (by omega) ?_ ?_
  · intro i y H' R ey s q
    rw [List.getElem?_map] at ey
    cases ec : cs[i]? with
    | none => rw [ec] at ey; cases ey
    | some x =>
      rw [ec] at ey
      cases ey
      have hi : i < 100 := by
        have := (List.getElem?_eq_some_iff.mp ec).1
        omega
      walk_at "rd"
      walk_at "md"
      walk_at "rd"
      walk_at "md"
      walk_at "rd"
      walk_at "md"
      walk_at "rd"
      refine r_I (.inr ⟨by omega, by omega⟩) ?_
      walk_at "rd"
      walk_at "ml"
      walk_at "rd"
      walk_at "md"
      refine ⟨letters, _, x, rfl, rfl, sz5 (by decide +kernel), (hc i x ec).2, q _ (Same.refl _)⟩
  · intro D H' hD s e
    walk_at "rd"
    refine ⟨"", D, cs.map fun x => (⟨#[x]⟩ : Str), rfl, rfl, .inl (SqL.of (by rw [e, List.map_map]; rfl)), ?_, ?_⟩
    · rw [sum_ones]
      show cs.length + (cs.map _).length * 0 ≤ _
      omega
    · refine k _ _ (item_join (fun x hx => ?_) (by omega)) s
      obtain ⟨i, hi⟩ := List.getElem?_of_mem hx
      exact (hc i x hi).1
theorem lcp_ints {te : TE} {j : Nat} {σ : L2.St} {H1 : Hp} {Q : VK} {n : Nat} (P : Nat → Prop) (hz : n ≤ 1000)
    (he : ∀ (i : Nat) (H' : Hp) (W : VK), i < n → Same H1 H' → (∀ (m : Nat) H'', P m → Same H' H'' → W (.int (m : Int)) H'') → te ((wipe σ [j]).set j (some (.int (i : Int)))) H' W)
    (k : ∀ (D : Addr) (H' : Hp) (ms : List Nat), H1 D = none → Same H1 H' → ms.length = n → (∀ m, m ∈ ms → P m) → H' D = some (.lst (numsOf ms)) → Q (.ref D) H') :
    ∃ m : Int, [V.int (n : Int)] = [V.int m] ∧ -(2 ^ 62) ≤ m ∧ m < 2 ^ 62 ∧ Lcs (Itr 0 m.toNat) (gName j) tYes te [j] σ H1 Q := by
  refine ⟨n, rfl, by omega, by omega, fun D hD => ?_⟩
  refine lc_range (lo := 0) (n := n) (fun i H' => Same H1 H' ∧ ∃ ms : List Nat, ms.length = i ∧ (∀ m, m ∈ ms → P m) ∧ H' D = some (.lst (numsOf ms))) ⟨same_upd hD, [], rfl, (fun m h => by cases h), upd_same⟩ ?_ ?_
  · rintro i H' hi ⟨s, ms, l, hp, e⟩
    refine ⟨wipe1, r_yes (r_itT ?_)⟩
    rw [Int.zero_add]
    refine he i _ _ hi s fun m H'' pm s2 => ⟨_, s2 _ _ e, ?_, ?_, ms ++ [m], by simp [l], fun x hx => ?_, ?_⟩
    · refine sz5l ?_
      unfold numsOf
      rw [List.length_map]
      omega
    · exact fun b o q => by
        rw [upd_ne (ne_of_none q hD)]
        exact s2 _ _ (s _ _ q)
    · rcases List.mem_append.mp hx with z | z
      · exact hp x z
      · rw [List.mem_singleton.mp z]; exact pm
    · rw [upd_same]
      unfold numsOf
      rw [List.map_append]; rfl
  · rintro H' ⟨s, ms, l, hp, e⟩
    exact k D H' ms hD s l hp e
def Wd (w : Str) : Prop := w = "order" ∨ (w = "pay" ∨ w = "refund") ∨ (w = "deliver" ∨ w = "back" ∨ w = "swap" ∨ w = "credit" ∨ w = "move")
theorem word8 (z : Int) : ∃ w : Str, Wd w ∧ atI [V.str "deliver", .str "back", .str "swap", .str "credit", .str "move", .str "pay", .str "refund", .str "order"] (z % 8) = some (.str w) := by
  have h : z % 8 = ((0 : Nat) : Int) ∨ z % 8 = ((1 : Nat) : Int) ∨ z % 8 = ((2 : Nat) : Int) ∨ z % 8 = ((3 : Nat) : Int) ∨ z % 8 = ((4 : Nat) : Int) ∨ z % 8 = ((5 : Nat) : Int) ∨ z % 8 = ((6 : Nat) : Int) ∨ z % 8 = ((7 : Nat) : Int) := by omega
  rcases h with h | h | h | h | h | h | h | h
  · exact ⟨"deliver", .inr (.inr (.inl rfl)), atI_get h rfl⟩
  · exact ⟨"back", .inr (.inr (.inr (.inl rfl))), atI_get h rfl⟩
  · exact ⟨"swap", .inr (.inr (.inr (.inr (.inl rfl)))), atI_get h rfl⟩
  · exact ⟨"credit", .inr (.inr (.inr (.inr (.inr (.inl rfl))))), atI_get h rfl⟩
  · exact ⟨"move", .inr (.inr (.inr (.inr (.inr (.inr rfl))))), atI_get h rfl⟩
  · exact ⟨"pay", .inr (.inl (.inl rfl)), atI_get h rfl⟩
  · exact ⟨"refund", .inr (.inl (.inr rfl)), atI_get h rfl⟩
  · exact ⟨"order", .inl rfl, atI_get h rfl⟩
def spLAnyDeed (K : PySem.W.Frag) : Sp := fun vs H Q _ => ∃ s : Addr, vs = [.ref s] ∧ Script K H s ∧ ∀ v d H', Same H H' → TdA H' v d → d.ok → Q v H'
theorem len_LAnyDeed {K : PySem.W.Frag} {vs : List V} {H : Hp} {Q : VK} {E : XK} (h : spLAnyDeed K vs H Q E) : vs.length = 1 := by
  obtain ⟨_, rfl, _⟩ := h; rfl
theorem ok_LAnyDeed {P : Program} {w : World} {K : PySem.W.Frag} {mg : Str → Option Value} {base : Heap} (T : Tx w K mg) : FnOk P w K mg base CX0 2 (He.fAd K dLAnyDeed.at_) (fdO K dLAnyDeed.at_) P_LAnyDeed (spLAnyDeed K) := by
  refine T.f_LAnyDeed.ok sc_LAnyDeed (fun vs H Q E h => len_LAnyDeed h) (fun cdv A outer s H vs Q E hr h => ⟨_, PSs.nox ((pss_cons (ps_set (i := 1) sc_LAnyDeed.nd rfl (Or.inl rfl) (pe_ix ix_list (pe_lst (pa_cons pe_str (pa_cons pe_str (pa_cons pe_str (pa_cons pe_str (pa_cons pe_str (pa_cons pe_str (pa_cons pe_str (pa_cons pe_str pa_nil))))))))) (pe_op op_mod (pe_call (ok_LCellAt T) (hr.mono (by decide)) rfl T.g_LCellAt T.f_LCellAt.kp T.b_LCellAt .nil pass0 (pa_cons (pv 0) (pa_cons pe_int pa_nil))) pe_int) (fun _ _ => rfl)))
      (pss_cons (ps_set (i := 2) sc_LAnyDeed.nd rfl (Or.inr rfl) (pe_call (ok_LCellAt T) (hr.mono (by decide)) rfl T.g_LCellAt T.f_LCellAt.kp T.b_LCellAt .nil pass0 (pa_cons (pv 0) (pa_cons pe_int pa_nil))))
      (pss_cons (ps_if (pt_cmpR op_eq (pv 1) pe_str (nomark _)) (pss_cons (ps_set (i := 3) sc_LAnyDeed.nd rfl (Or.inl rfl) (pe_lst pa_nil))
      (pss_cons (ps_for PassesOwn.never rfl (pi_range1 (by rfl) T.b_range (pa_cons (pe_op op_add pe_int (pe_op op_mod (pe_call (ok_LCellAt T) (hr.mono (by decide)) rfl T.g_LCellAt T.f_LCellAt.kp T.b_LCellAt .nil pass0 (pa_cons (pv 0) (pa_cons pe_int pa_nil))) pe_int)) pa_nil)) (pg_name (i := 4) sc_LAnyDeed.nd rfl (Or.inl rfl)) (pss_cons (ps_set (i := 5) sc_LAnyDeed.nd rfl (Or.inr rfl) (pe_op op_add (pe_op op_mul (pe_call (ok_LCellAt T) (hr.mono (by decide)) rfl T.g_LCellAt T.f_LCellAt.kp T.b_LCellAt .nil pass0 (pa_cons (pv 0) (pa_cons (pe_op op_add pe_int (pe_op op_mod (pv 4) pe_int)) pa_nil))) (pe_op op_add (pv 4) pe_int)) (pv 4)))
      (pss_cons (ps_setLc (i := 7) (own := [("_law_n", 6)]) (g := gName 6) (tt := tYes) rfl sc_LAnyDeed.nd rfl rfl (sw_true rfl rfl rfl (by decide +kernel)) (pi_range1 (by rfl) T.b_range (pa_cons pe_int pa_nil)) (blkOk_by (N := N_LAnyDeed) (sc := defScope sLAnyDeed) (by decide +kernel)) (fun _ _ _ _ _ => pg_name (i := 6) sc_LAnyDeed.nd rfl (Or.inl rfl)) (fun _ _ _ _ _ => pts_nil) (fun _ _ _ _ _ => (pe_call (ok_LNumberBy T) (hr.mono (by decide)) rfl T.g_LNumberBy T.f_LNumberBy.kp T.b_LNumberBy .nil pass0 (pa_cons (pe_op op_fdiv (pv 5) (pe_op op_add (pv 6) pe_int)) (pa_cons (pe_op op_fdiv (pv 2) (pe_op op_add (pv 6) pe_int)) pa_nil)))))
      (pss_one (ps_expr (pe_bm PySem.F.plainAttrs_list PySem.F.slot_list_append PySem.F.type_list_append mt_append (pv 3) (pa_cons (pe_tup (pa_cons (pe_call (ok_LItemBy T) (hr.mono (by decide)) rfl T.g_LItemBy T.f_LItemBy.kp T.b_LItemBy .nil pass0 (pa_cons (pv 5) pa_nil)) (pa_cons (pe_ix ix_list (pv 7) pe_int (fun _ _ => rfl)) (pa_cons (pe_ix ix_list (pv 7) pe_int (fun _ _ => rfl)) (pa_cons (pe_ix ix_list (pv 7) pe_int (fun _ _ => rfl)) pa_nil))))) pa_nil)))))))
      (pss_one (ps_ret (pe_tup (pa_cons pe_str (pa_cons (pv 3) pa_nil))))))) pss_nil)
      (pss_cons (ps_setLc (i := 7) (own := [("_law_n", 6)]) (g := gName 6) (tt := tYes) rfl sc_LAnyDeed.nd rfl rfl (sw_true rfl rfl rfl (by decide +kernel)) (pi_range1 (by rfl) T.b_range (pa_cons pe_int pa_nil)) (blkOk_by (N := N_LAnyDeed) (sc := defScope sLAnyDeed) (by decide +kernel)) (fun _ _ _ _ _ => pg_name (i := 6) sc_LAnyDeed.nd rfl (Or.inl rfl)) (fun _ _ _ _ _ => pts_nil) (fun _ _ _ _ _ => (pe_call (ok_LNumberBy T) (hr.mono (by decide)) rfl T.g_LNumberBy T.f_LNumberBy.kp T.b_LNumberBy .nil pass0 (pa_cons (pe_call (ok_LCellAt T) (hr.mono (by decide)) rfl T.g_LCellAt T.f_LCellAt.kp T.b_LCellAt .nil pass0 (pa_cons (pv 0) (pa_cons (pe_op op_add pe_int (pv 6)) pa_nil))) (pa_cons (pe_op op_fdiv (pv 2) (pe_op op_add (pv 6) pe_int)) pa_nil)))))
      (pss_cons (ps_if (PW.pt (pw_or (pt_cmpR op_eq (pv 1) pe_str (nomark _)) (pw_or1 (pt_cmpR op_eq (pv 1) pe_str (nomark _))))) (pss_one (ps_ret (pe_tup (pa_cons (pv 1) (pa_cons (pe_ix ix_list (pv 7) pe_int (fun _ _ => rfl)) (pa_cons (pe_ix ix_list (pv 7) pe_int (fun _ _ => rfl)) pa_nil)))))) pss_nil)
      (pss_one (ps_ret (pe_tup (pa_cons (pv 1) (pa_cons (pe_ix ix_list (pv 7) pe_int (fun _ _ => rfl)) (pa_cons (pe_ix ix_list (pv 7) pe_int (fun _ _ => rfl)) (pa_cons (pe_ix ix_list (pv 7) pe_int (fun _ _ => rfl)) pa_nil))))))))))))), ?_⟩)
  obtain ⟨s, rfl, scr, k⟩ := h
  walk_at "rd"
  refine r_mk (by simp) fun w1 hw1 => ?_
  have s1 := same_upd (o := .lst [.str "deliver", .str "back", .str "swap", .str "credit", .str "move", .str "pay", .str "refund", .str "order"]) hw1
  walk_at "rd"
  refine ⟨s, _, rfl, scr.same s1, by decide, fun c0 => ?_⟩
  walk_at "rd"
  walk_at "md"
  walk_at "rd"
  obtain ⟨w', hw, ew⟩ := word8 c0
  refine r_ixL (SqL.of upd_same) ew ?_
  revert s1
  generalize upd H w1 _ = H1
  intro s1
  have scr1 := scr.same s1
  walk_at "rd"
  refine ⟨s, _, rfl, scr1, by decide, fun c1 => ?_⟩
  walk_at "rd"
  refine r_itd (fun cw => ?_) (fun cw => ?_)
  · walk_at "rd"
    refine r_mk (by simp) fun l hl => ?_
    have s2 := same_upd (o := .lst []) hl
    have e2 : upd H1 l (.lst []) l = some (.lst []) := upd_same
    revert s2 e2
    generalize upd H1 l (.lst []) = H2
    intro s2 e2
    walk_at "rd"
    refine ⟨s, _, rfl, scr1.same s2, by decide, fun c2 => ?_⟩
    walk_at "rd"
    walk_at "md"
    walk_at "rd"
    have b2 : 0 ≤ c2 % 25 ∧ c2 % 25 < 25 := by omega
    refine ⟨_, rfl, by omega, by omega, for_range (lo := 0) (n := (1 + c2 % 25).toNat) (fun i σ H' => ∃ (v4 v5 v7 : Option V) (ls : List Tl) (xs : List V), σ = [some (.ref s), some (.str w'), some (.int c1), some (.ref l), v4, v5, none, v7] ∧ ls.length = i ∧ (∀ t, t ∈ ls → t.ok) ∧ H' l = some (.lst xs) ∧ Paired (TupAt H') xs (ls.map Tl.row) ∧ But (· = l) H2 H')
      ⟨none, none, none, [], [], rfl, rfl, (fun t h => by cases h), e2, .nil, But.refl⟩ ?_ ?_⟩
    · rintro i σ H3 hi ⟨v4, v5, v7, ls, xs, rfl, ll, okl, e3, p3, b3⟩
      rw [Int.zero_add]
      have sH : Same H H3 := fun x o e => b3.keep _ _ (s2 _ _ (s1 _ _ e)) (ne_of_none (s1 _ _ e) hl)
      have scr3 := scr.same sH
      have lx : xs.length = i := by rw [p3.length, List.length_map, ll]
      walk_at "rd"
      walk_at "md"
      walk_at "rd"
      refine ⟨s, _, rfl, scr3, by omega, fun c3 => ?_⟩
      walk_at "rd"
      refine r_I (.inr ⟨by omega, by omega⟩) ?_
      walk_at "rd"
      refine lcp_ints (n := 3) (fun m => m < 10 ^ 30) (by decide) ?_ ?_
      · intro n H' W hn s' q
        walk_at "rd"
        refine r_I ⟨by omega, by omega⟩ ?_
        walk_at "rd"
        refine r_I ⟨by omega, by omega⟩ ?_
        walk_at "rd"
        exact ⟨_, _, rfl, fun m H'' hm s'' => q m _ hm s''⟩
      · intro D H4 ms hD s4 lm hms eD
        match ms, lm with
        | [a, b, c], _ =>
        walk_at "rd"
        refine r_tyL (SqL.of (s4 _ _ e3)) ?_
        walk_at "rd"
        refine ⟨_, rfl, fun z H5 hz s5 => ?_⟩
        walk_at "rd"
        refine r_ixL (SqL.of (s5 _ _ eD)) (atI_get (j := 0) rfl rfl) ?_
        walk_at "rd"
        refine r_ixL (SqL.of (s5 _ _ eD)) (atI_get (j := 1) rfl rfl) ?_
        walk_at "rd"
        refine r_ixL (SqL.of (s5 _ _ eD)) (atI_get (j := 2) rfl rfl) ?_
        walk_at "rd"
        refine r_mk (by simp) fun t ht => ?_
        have s6 := same_upd (o := .tup [.str z, .int (a : Int), .int (b : Int), .int (c : Int)]) ht
        have s36 := (s4.trans s5).trans s6
        walk_at "rd"
        refine r_app (s36 _ _ e3) (by rw [lx]; exact sz5l (by omega)) ?_
        have b6 := (But.of (S := (· = l)) s36).trans (But.lst (o := .lst (xs ++ [.ref t])) (s36 _ _ e3) rfl)
        walk_at "rd"
        refine ⟨_, _, _, ls ++ [⟨z, a, b, c⟩], _, rfl, by simp [ll], fun u hu => ?_, upd_same, ?_, b3.trans b6⟩
        · rcases List.mem_append.mp hu with y | y
          · exact okl u y
          · rw [List.mem_singleton.mp y]
            exact ⟨hz, hms a (by simp), hms b (by simp), hms c (by simp)⟩
        · rw [List.map_append]
          refine Paired.snoc (tup_keep b6 p3) ⟨t, rfl, ?_⟩
          rw [upd_ne (fun y => by rw [y, s5 _ _ (s4 _ _ e3)] at ht; cases ht)]
          exact upd_same
    · rintro σ H3 ⟨v4, v5, v7, ls, xs, rfl, ll, okl, e3, p3, b3⟩
      have sH : Same H H3 := fun x o e => b3.keep _ _ (s2 _ _ (s1 _ _ e)) (ne_of_none (s1 _ _ e) hl)
      walk_at "rd"
      refine r_mk (by simp) fun t ht => ?_
      have s4 := same_upd (o := .tup [.str "order", .ref l]) ht
      exact k _ (.ord ls) _ (sH.trans s4) ⟨t, l, xs, rfl, upd_same, s4 _ _ e3, tup_keep (But.of (S := fun _ => False) s4) p3⟩ ⟨⟨by omega, by omega⟩, okl⟩
  · walk_at "rd"
    refine lcp_ints (n := 3) (fun m => m < 10 ^ 30) (by decide) ?_ ?_
    · intro n H' W hn s' q
      walk_at "rd"
      refine ⟨s, _, rfl, scr1.same s', by omega, fun c3 => ?_⟩
      walk_at "rd"
      refine r_I ⟨by omega, by omega⟩ ?_
      walk_at "rd"
      exact ⟨_, _, rfl, fun m H'' hm s'' => q m _ hm s''⟩
    · intro D H4 ms hD s4 lm hms eD
      have s04 := s1.trans s4
      have hw' : (w' = "pay" ∨ w' = "refund") ∨ (w' = "deliver" ∨ w' = "back" ∨ w' = "swap" ∨ w' = "credit" ∨ w' = "move") := hw.resolve_left cw
      match ms, lm with
      | [a, b, c], _ =>
      have fin2 : (w' = "pay" ∨ w' = "refund") → ∀ t, H4 t = none → Q (.ref t) (upd H4 t (.tup [.str w', .int (a : Int), .int (b : Int)])) := fun hp t ht =>
        k _ (.nums w' [a, b]) _ (s04.trans (same_upd ht)) ⟨t, rfl, upd_same⟩ ⟨fun n hn => hms n (by simp at hn ⊢; omega), .inl ⟨rfl, hp⟩⟩
      walk_at "rd"
      refine r_itd (fun c1 => ?_) (fun c1 => ?_)
      · walk_at "rd"
        refine r_ixL (SqL.of eD) (atI_get (j := 0) rfl rfl) ?_
        walk_at "rd"
        refine r_ixL (SqL.of eD) (atI_get (j := 1) rfl rfl) ?_
        walk_at "rd"
        exact r_mk (by simp) fun t ht => fin2 (.inl c1) t ht
      walk_at "rd"
      refine r_itd (fun c2 => ?_) (fun c2 => ?_)
      · walk_at "rd"
        refine r_ixL (SqL.of eD) (atI_get (j := 0) rfl rfl) ?_
        walk_at "rd"
        refine r_ixL (SqL.of eD) (atI_get (j := 1) rfl rfl) ?_
        walk_at "rd"
        exact r_mk (by simp) fun t ht => fin2 (.inr c2) t ht
      walk_at "rd"
      refine r_ixL (SqL.of eD) (atI_get (j := 0) rfl rfl) ?_
      walk_at "rd"
      refine r_ixL (SqL.of eD) (atI_get (j := 1) rfl rfl) ?_
      walk_at "rd"
      refine r_ixL (SqL.of eD) (atI_get (j := 2) rfl rfl) ?_
      walk_at "rd"
      exact r_mk (by simp) fun t ht => k _ (.nums w' [a, b, c]) _ (s04.trans (same_upd ht)) ⟨t, rfl, upd_same⟩ ⟨fun n hn => hms n hn, .inr ⟨rfl, hw'.resolve_left fun z => z.elim c1 c2⟩⟩

/-! ### the text of it, by the law -/
def spLTextOf (_ : PySem.W.Frag) : Sp := fun vs H Q _ => ∃ (v : V) (d : Td), vs = [v] ∧ TdA H v d ∧ d.ok ∧ ∀ H', Same H H' → Q (.str d.str) H'
theorem len_LTextOf {K : PySem.W.Frag} {vs : List V} {H : Hp} {Q : VK} {E : XK} (h : spLTextOf K vs H Q E) : vs.length = 1 := by
  obtain ⟨_, _, rfl, _⟩ := h; rfl
theorem ok_LTextOf {P : Program} {w : World} {K : PySem.W.Frag} {mg : Str → Option Value} {base : Heap} (T : Tx w K mg) : FnOk P w K mg base CX0 1 (He.fAd K dLTextOf.at_) (fdO K dLTextOf.at_) P_LTextOf (spLTextOf K) := by
  refine T.f_LTextOf.ok sc_LTextOf (fun vs H Q E h => len_LTextOf h) (fun cdv A outer s H vs Q E hr h => ⟨_, PSs.nox ((pss_cons (ps_if (pt_cmpR op_eq (pe_ix ix_tup (pv 0) pe_int (fun _ _ => rfl)) pe_str (nomark _)) (pss_cons (ps_set (i := 1) sc_LTextOf.nd rfl (Or.inl rfl) (pe_lst pa_nil))
      (pss_cons (ps_for PassesOwn.never rfl (pi_list (pe_ix ix_tup (pv 0) pe_int (fun _ _ => rfl))) (pg_name (i := 2) sc_LTextOf.nd rfl (Or.inl rfl)) (pss_cons (ps_setLc (i := 4) (own := [("_law_number", 3)]) (g := gName 3) (tt := tYes) rfl sc_LTextOf.nd rfl rfl (sw_true rfl rfl rfl (by decide +kernel)) (pi_tup (pe_slice sl_tup (pv 2) (po_some pe_int) po_none)) (blkOk_by (N := N_LTextOf) (sc := defScope sLTextOf) (by decide +kernel)) (fun _ _ _ _ _ => pg_name (i := 3) sc_LTextOf.nd rfl (Or.inl rfl)) (fun _ _ _ _ _ => pts_nil) (fun _ _ _ _ _ => (pe_callTy call_str_int (by rfl) T.b_str (by decide +kernel) (pa_cons (pv 3) pa_nil))))
      (pss_one (ps_expr (pe_bm PySem.F.plainAttrs_list PySem.F.slot_list_append PySem.F.type_list_append mt_append (pv 1) (pa_cons (pe_op op_add_str (pe_op op_add_str (pe_ix ix_tup (pv 2) pe_int (fun _ _ => rfl)) pe_str) (pe_bm PySem.F.plainAttrs_str PySem.F.slot_str_join PySem.F.type_str_join mt_join pe_str (pa_cons (pv 4) pa_nil))) pa_nil))))))
      (pss_one (ps_ret (pe_op op_add_str pe_str (pe_bm PySem.F.plainAttrs_str PySem.F.slot_str_join PySem.F.type_str_join mt_join pe_str (pa_cons (pv 1) pa_nil))))))) pss_nil)
      (pss_one (ps_ret (pe_op op_add_str (pe_op op_add_str (pe_ix ix_tup (pv 0) pe_int (fun _ _ => rfl)) pe_str) (pe_bm PySem.F.plainAttrs_str PySem.F.slot_str_join PySem.F.type_str_join mt_join pe_str (pa_cons (pe_lc (own := [("_law_number", 3)]) (g := gName 3) (tt := tYes) rfl sc_LTextOf.nd (pi_tup (pe_slice sl_tup (pv 0) (po_some pe_int) po_none)) (blkOk_by (N := N_LTextOf) (sc := defScope sLTextOf) (by decide +kernel)) (fun _ _ _ _ _ => pg_name (i := 3) sc_LTextOf.nd rfl (Or.inl rfl)) (fun _ _ _ _ _ => pts_nil) (fun _ _ _ _ _ => (pe_callTy call_str_int (by rfl) T.b_str (by decide +kernel) (pa_cons (pv 3) pa_nil)))) pa_nil))))))), ?_⟩)
  obtain ⟨v, d, rfl, hd, ok, k⟩ := h
  have dl := Td.len ok
  cases d with
  | ord ls =>
    obtain ⟨t, l, xs, rfl, ht, hl, pt⟩ := hd
    have e1 : (", " : Str).length = 2 := by decide +kernel
    have e2 : (" " : Str).length = 1 := by decide +kernel
    have ll := ok.1.2
    have pl : xs.length = ls.length := by rw [pt.length, List.length_map]
    walk_at "rd"
    refine r_ixT (SqT.of ht) (atI_get (j := 0) rfl rfl) ?_
    walk_at "rd"
    refine r_ity rfl ?_
    walk_at "rd"
    refine r_mk (by simp) fun q hq => ?_
    have s1 := same_upd (o := .lst []) hq
    have eq : upd H q (.lst []) q = some (.lst []) := upd_same
    revert s1 eq
    generalize upd H q (.lst []) = H1
    intro s1 eq
    walk_at "rd"
    refine r_ixT (SqT.of (s1 _ _ ht)) (atI_get (j := 1) rfl rfl) ?_
    walk_at "rd"
    have lq : l ≠ q := ne_of_none hl hq
    refine ⟨l, rfl, ⟨xs, SqL.of (s1 _ _ hl)⟩, for_list (K := K) (a := l) (xs := xs) (fun i σ H' => ∃ v2 v4, σ = [some (.ref t), some (.ref q), v2, none, v4] ∧ H' q = some (.lst (((ls.take i).map Tl.str).map V.str)) ∧ But (· = q) H1 H')
      ⟨none, none, rfl, eq, But.refl⟩ (fun i σ H' _ ⟨_, _, _, _, b⟩ => SqL.of (b.keep _ _ (s1 _ _ hl) lq)) ?_ ?_⟩
    · rintro i x σ H2 hi ⟨v2, v4, rfl, eq2, b2⟩
      obtain ⟨row, er, u, rfl, hu⟩ := pr_ex pt hi
      rw [List.getElem?_map] at er
      cases em : ls[i]? with
      | none => rw [em] at er; cases er
      | some m =>
        rw [em] at er
        cases er
        have hu2 := b2.tup _ _ (s1 _ _ hu)
        have okm := ok.2 m (List.mem_of_getElem? em)
        have zl := item_len okm.z
        have l3 : ∀ q, q ∈ [numS m.a, numS m.b, numS m.c] → q.length ≤ 30 := fun q hq => okm.part_len q (List.mem_cons_of_mem _ hq)
        have il : i < 25 := by
          have := (List.getElem?_eq_some_iff.mp em).1
          omega
        walk_at "rd"
        refine ⟨u, _, rfl, SqT.of hu2, (by rintro ⟨z, _⟩; revert z; show ¬ (min 1 4 = 0); decide), fun p hp => ?_⟩
        have s3 := same_upd (o := .tup (numsOf [m.a, m.b, m.c])) hp
        have cut : cutV m.row (some 1) none = numsOf [m.a, m.b, m.c] := cut_from (k := 1)
        rw [cut]
        refine lcp_tup (ys := [numS m.a, numS m.b, numS m.c].map V.str) upd_same rfl (by show 3 ≤ 100000; decide) ?_ ?_
        · intro i x y H' R ex ey s q
          have hi : i < 3 := (List.getElem?_eq_some_iff.mp ex).1
          obtain ⟨n, hn, rfl, rfl⟩ : ∃ n, n < 10 ^ 30 ∧ x = .int (n : Nat) ∧ y = .str (numS n) := by
            have : i = 0 ∨ i = 1 ∨ i = 2 := by omega
            rcases this with rfl | rfl | rfl <;> (cases ex; cases ey)
            · exact ⟨m.a, okm.a, rfl, rfl⟩
            · exact ⟨m.b, okm.b, rfl, rfl⟩
            · exact ⟨m.c, okm.c, rfl, rfl⟩
          walk_at "rd"
          exact ⟨_, rfl, log_num hn, q _ (Same.refl _)⟩
        · intro D H3 hD s4 eD
          have s34 := s3.trans s4
          walk_at "rd"
          refine r_tyL (SqL.of (s34 _ _ eq2)) ?_
          walk_at "rd"
          refine r_ixT (SqT.of (s34 _ _ hu2)) (atI_get (j := 0) rfl rfl) ?_
          walk_at "rd"
          refine ⟨_, _, rfl, rfl, sz5 (by rw [e2]; omega), ?_⟩
          walk_at "rd"
          refine ⟨rfl, ?_⟩
          walk_at "rd"
          have jl := join_len (y := " ") l3
          rw [e2] at jl
          simp only [List.length_cons, List.length_nil] at jl
          refine ⟨" ", D, [numS m.a, numS m.b, numS m.c], rfl, rfl, .inl (SqL.of eD), ?_, ?_⟩
          · have := sum_len l3
            rw [e2]
            simp only [List.length_cons, List.length_nil] at this ⊢
            omega
          walk_at "rd"
          refine ⟨_, _, rfl, rfl, sz5 (by rw [cat_len, e2]; omega), ?_⟩
          have ej : m.z ++ (" " : Str) ++ Txt.join " " [numS m.a, numS m.b, numS m.c] = m.str := join_cons.symm
          rw [ej]
          walk_at "rd"
          refine r_app (s34 _ _ eq2) (by simp; exact sz5l (by omega)) ?_
          walk_at "rd"
          refine ⟨_, _, rfl, ?_, (b2.trans (But.of s34)).trans (But.lst (s34 _ _ eq2) rfl)⟩
          rw [upd_same, take_snoc em, List.map_append, List.map_append]
          rfl
    · rintro σ H2 ⟨v2, v4, rfl, eq2, b2⟩
      rw [pl, List.take_length] at eq2
      have sH : Same H H2 := fun x o e => b2.keep _ _ (s1 _ _ e) (ne_of_none e hq)
      walk_at "rd"
      refine ⟨rfl, ?_⟩
      walk_at "rd"
      refine ⟨", ", q, ls.map Tl.str, rfl, rfl, .inl (SqL.of eq2), ?_, ?_⟩
      · have := sum_len (ord_parts ok.2)
        rw [e1, List.length_map]
        rw [List.length_map] at this
        omega
      walk_at "rd"
      refine ⟨_, _, rfl, rfl, sz5 ?_, k _ sH⟩
      have : (("order " : Str) ++ Txt.join ", " (ls.map Tl.str)).length ≤ 90000 := dl
      rw [cat_len] at this
      omega
  | nums w' ns =>
    obtain ⟨t, rfl, ht⟩ := hd
    obtain ⟨W, ln⟩ := word_ok ok
    have e1 : (" " : Str).length = 1 := by decide +kernel
    have wl := W.len
    walk_at "rd"
    refine r_ixT (SqT.of ht) (atI_get (j := 0) rfl rfl) ?_
    walk_at "rd"
    refine r_itz W.no ?_
    walk_at "rd"
    refine r_ixT (SqT.of ht) (atI_get (j := 0) rfl rfl) ?_
    walk_at "rd"
    refine ⟨_, _, rfl, rfl, sz5 (by rw [e1]; omega), ?_⟩
    walk_at "rd"
    refine ⟨rfl, ?_⟩
    walk_at "rd"
    refine ⟨t, _, rfl, SqT.of ht, ?_, fun p hp => ?_⟩
    · rintro ⟨z, _⟩
      revert z
      have : HT.sIx ((V.str w' :: numsOf ns).length) 0 (some (1 : Int)) = min 1 ((V.str w' :: numsOf ns).length) := HT.sIx_nat _ _ 1
      rw [this, List.length_cons]
      omega
    have cut : cutV (V.str w' :: numsOf ns) (some 1) none = numsOf ns := cut_from (k := 1)
    rw [cut]
    have s1 := same_upd (o := .tup (numsOf ns)) hp
    refine lcp_tup (ys := (ns.map numS).map V.str) upd_same (by unfold numsOf; simp) (by unfold numsOf; rw [List.length_map]; omega) ?_ ?_
    · intro i x y H' R ex ey s q
      unfold numsOf at ex
      rw [List.getElem?_map] at ex ey
      rw [List.getElem?_map] at ey
      cases em : ns[i]? with
      | none => rw [em] at ex; cases ex
      | some n =>
        rw [em] at ex ey
        cases ex
        cases ey
        walk_at "rd"
        exact ⟨_, rfl, log_num (ok.1 n (List.mem_of_getElem? em)), q _ (Same.refl _)⟩
    · intro D H' hD s e
      walk_at "rd"
      have sl := sum_len (nums_parts ok.1)
      have jl : (w' ++ (" " : Str) ++ Txt.join " " (ns.map numS)).length ≤ 90000 := dl
      refine ⟨" ", D, ns.map numS, rfl, rfl, .inl (SqL.of e), ?_, ?_⟩
      · rw [e1, List.length_map]
        rw [List.length_map] at sl
        omega
      walk_at "rd"
      refine ⟨_, _, rfl, rfl, sz5 ?_, k _ (s1.trans s)⟩
      rw [cat_len] at jl
      omega

theorem letters_small : ∀ c, c ∈ letters.cps.toList → c < 0x110000 := by decide +kernel
theorem item_str {z : Str} (h : isItem z = true) : PyData.strOk z = true := by
  unfold isItem at h
  have q := of_decide_eq_true (Bool.and_eq_true_iff.mp h).1
  unfold PyData.strOk
  rw [← Array.all_toList, List.all_eq_true]
  intro c hc
  exact decide_eq_true (letters_small c (q c hc))
/-! ### alike -/
theorem Tl.ok.scs {t : Tl} (h : t.ok) : Scs t.row := .cons (.inr ⟨_, rfl, item_str h.z⟩) (.cons .int (.cons .int (.cons .int .nil)))
theorem nums_scs {w : Str} {ns : List Nat} (h : PyData.strOk w = true) : Scs (.str w :: numsOf ns) := .cons (.inr ⟨_, rfl, h⟩) fun v hv => by
  obtain ⟨n, _, rfl⟩ := List.mem_map.mp hv
  exact .int
def spLPartsAlike (_ : PySem.W.Frag) : Sp := fun vs H Q _ => ∃ (t u : Addr) (r : List V), vs = [.ref t, .ref u] ∧ H t = some (.tup r) ∧ H u = some (.tup r) ∧ Scs r ∧ Q (.bl true) H
theorem len_LPartsAlike {K : PySem.W.Frag} {vs : List V} {H : Hp} {Q : VK} {E : XK} (h : spLPartsAlike K vs H Q E) : vs.length = 2 := by
  obtain ⟨_, _, _, rfl, _⟩ := h; rfl
theorem ok_LPartsAlike {P : Program} {w : World} {K : PySem.W.Frag} {mg : Str → Option Value} {base : Heap} (T : Tx w K mg) : FnOk P w K mg base CX0 2 (He.fAd K dLPartsAlike.at_) (fdO K dLPartsAlike.at_) P_LPartsAlike (spLPartsAlike K) := by
  refine T.f_LPartsAlike.ok sc_LPartsAlike (fun vs H Q E h => len_LPartsAlike h) (fun cdv A outer s H vs Q E hr h => ⟨_, PSs.nox ((pss_cons (ps_if (PW.pt (pw_or (pt_not (pt_val (pe_callB call_isi (by rfl) T.b_isinstance (by decide +kernel) (pa_cons (pv 0) (pa_cons (pe_bltn (v := .ty "tuple") (by rfl) T.b_tuple (by decide +kernel) rfl) pa_nil))))) (pw_or1 (pt_cmpR (op_neD hr.units) (pv 0) (pv 1) (nomark _))))) (pss_one (ps_ret pe_bl)) pss_nil)
      (pss_cons (ps_for PassesOwn.never rfl (pi_tup (pv 0)) (pg_name (i := 2) sc_LPartsAlike.nd rfl (Or.inl rfl)) (pss_one (ps_if (PW.pt (pw_and (pt_not (pt_val (pe_callB call_isi (by rfl) T.b_isinstance (by decide +kernel) (pa_cons (pv 2) (pa_cons (pe_bltn (v := .ty "str") (by rfl) T.b_str (by decide +kernel) rfl) pa_nil))))) (pw_and1 (pt_not (pt_val (pe_call (ok_LWhole T) (hr.mono (by decide)) rfl T.g_LWhole T.f_LWhole.kp T.b_LWhole .nil pass0 (pa_cons (pv 2) pa_nil))))))) (pss_one (ps_ret pe_bl)) pss_nil)))
      (pss_one (ps_ret pe_bl))))), ?_⟩)
  obtain ⟨t, u, r, rfl, ht, hu, sc, k⟩ := h
  walk_at "rd"
  refine r_is_tup_tuple ht ?_
  walk_at "rd"
  refine r_neTT (SqT.of ht) (SqT.of hu) sc sc ?_
  walk_at "rd"
  refine r_itn (fun c => absurd rfl c) (fun _ => ?_)
  walk_at "rd"
  refine ⟨t, rfl, ⟨_, SqT.of ht⟩, for_tup (K := K) (a := t) (xs := r) (fun i σ H' => ∃ v, σ = [some (.ref t), some (.ref u), v] ∧ H' = H) ⟨none, rfl, rfl⟩ (fun i σ H' _ ⟨_, _, e⟩ => by rw [e]; exact SqT.of ht) ?_ ?_⟩
  · rintro i x σ H' hi ⟨v, rfl, rfl⟩
    rcases sc x (List.mem_of_getElem? hi) with ⟨n, rfl⟩ | ⟨z, rfl, _⟩
    · walk_at "rd"
      refine ⟨n, rfl, ?_⟩
      walk_at "rd"
      exact ⟨_, rfl, rfl⟩
    · walk_at "rd"
      exact ⟨_, rfl, rfl⟩
  · rintro σ H' ⟨v, rfl, rfl⟩
    walk_at "rd"
    exact k
def spLDeedAlike (_ : PySem.W.Frag) : Sp := fun vs H Q _ => ∃ (v u : V) (d : Td), vs = [v, u] ∧ TdA H v d ∧ TdA H u d ∧ d.ok ∧ Q (.bl true) H
theorem len_LDeedAlike {K : PySem.W.Frag} {vs : List V} {H : Hp} {Q : VK} {E : XK} (h : spLDeedAlike K vs H Q E) : vs.length = 2 := by
  obtain ⟨_, _, _, rfl, _⟩ := h; rfl
theorem ok_LDeedAlike {P : Program} {w : World} {K : PySem.W.Frag} {mg : Str → Option Value} {base : Heap} (T : Tx w K mg) : FnOk P w K mg base CX0 3 (He.fAd K dLDeedAlike.at_) (fdO K dLDeedAlike.at_) P_LDeedAlike (spLDeedAlike K) := by
  refine T.f_LDeedAlike.ok sc_LDeedAlike (fun vs H Q E h => len_LDeedAlike h) (fun cdv A outer s H vs Q E hr h => ⟨_, PSs.nox ((pss_cons (ps_if (pt_cmpR op_ne (pe_ix ix_tup (pv 1) pe_int (fun _ _ => rfl)) pe_str (nomark _)) (pss_one (ps_ret (pe_call (ok_LPartsAlike T) (hr.mono (by decide)) rfl T.g_LPartsAlike T.f_LPartsAlike.kp T.b_LPartsAlike .nil pass0 (pa_cons (pv 0) (pa_cons (pv 1) pa_nil))))) pss_nil)
      (pss_cons (ps_if (PW.pt (pw_or (pt_not (pt_val (pe_callB call_isi (by rfl) T.b_isinstance (by decide +kernel) (pa_cons (pv 0) (pa_cons (pe_bltn (v := .ty "tuple") (by rfl) T.b_tuple (by decide +kernel) rfl) pa_nil))))) (pw_or (pt_cmpR op_ne (pe_callB call_len_seq (by rfl) T.b_len (by decide +kernel) (pa_cons (pv 0) pa_nil)) pe_int (nomark _)) (pw_or1 (pt_cmpR (op_neD hr.units) (pe_ix ix_tup (pv 0) pe_int (fun _ _ => rfl)) pe_str (nomark _)))))) (pss_one (ps_ret pe_bl)) pss_nil)
      (pss_cons (ps_if (PW.pt (pw_or (pt_not (pt_val (pe_callB call_isi (by rfl) T.b_isinstance (by decide +kernel) (pa_cons (pe_ix ix_tup (pv 0) pe_int (fun _ _ => rfl)) (pa_cons (pe_bltn (v := .ty "list") (by rfl) T.b_list (by decide +kernel) rfl) pa_nil))))) (pw_or1 (pt_cmpR op_ne (pe_callB call_len_seq (by rfl) T.b_len (by decide +kernel) (pa_cons (pe_ix ix_tup (pv 0) pe_int (fun _ _ => rfl)) pa_nil)) (pe_callB call_len_seq (by rfl) T.b_len (by decide +kernel) (pa_cons (pe_ix ix_tup (pv 1) pe_int (fun _ _ => rfl)) pa_nil)) (nomark _))))) (pss_one (ps_ret pe_bl)) pss_nil)
      (pss_cons (ps_for PassesOwn.never rfl (pi_range1 (by rfl) T.b_range (pa_cons (pe_callB call_len_seq (by rfl) T.b_len (by decide +kernel) (pa_cons (pe_ix ix_tup (pv 1) pe_int (fun _ _ => rfl)) pa_nil)) pa_nil)) (pg_name (i := 2) sc_LDeedAlike.nd rfl (Or.inl rfl)) (pss_one (ps_if (pt_not (pt_val (pe_call (ok_LPartsAlike T) (hr.mono (by decide)) rfl T.g_LPartsAlike T.f_LPartsAlike.kp T.b_LPartsAlike .nil pass0 (pa_cons (pe_ix ix_list (pe_ix ix_tup (pv 0) pe_int (fun _ _ => rfl)) (pv 2) (fun _ _ => rfl)) (pa_cons (pe_ix ix_list (pe_ix ix_tup (pv 1) pe_int (fun _ _ => rfl)) (pv 2) (fun _ _ => rfl)) pa_nil))))) (pss_one (ps_ret pe_bl)) pss_nil)))
      (pss_one (ps_ret pe_bl))))))), ?_⟩)
  obtain ⟨v, u, d, rfl, hv, hu, ok, k⟩ := h
  cases d with
  | nums w' ns =>
    obtain ⟨W, ln⟩ := word_ok ok
    obtain ⟨t, rfl, ht⟩ := hv
    obtain ⟨q, rfl, hq⟩ := hu
    walk_at "rd"
    refine r_ixT (SqT.of hq) (atI_get (j := 0) rfl rfl) ?_
    walk_at "rd"
    refine r_itn (fun _ => ?_) (fun c => absurd c W.no)
    walk_at "rd"
    exact ⟨t, q, _, rfl, ht, hq, nums_scs W.str, k⟩
  | ord ls =>
    obtain ⟨t, l, xs, rfl, ht, hl, pt⟩ := hv
    obtain ⟨q, m, ys, rfl, hq, hm, pq⟩ := hu
    have l25 := ok.1.2
    have lx : xs.length = ls.length := by rw [pt.length, List.length_map]
    have ly : ys.length = ls.length := by rw [pq.length, List.length_map]
    walk_at "rd"
    refine r_ixT (SqT.of hq) (atI_get (j := 0) rfl rfl) ?_
    walk_at "rd"
    refine r_itn (fun c => absurd rfl c) (fun _ => ?_)
    walk_at "rd"
    refine r_is_tup_tuple ht ?_
    walk_at "rd"
    refine ⟨t, _, rfl, .inr (SqT.of ht), ?_⟩
    walk_at "rd"
    refine r_itn (fun c => absurd rfl c) (fun _ => ?_)
    walk_at "rd"
    refine r_ixT (SqT.of ht) (atI_get (j := 0) rfl rfl) ?_
    walk_at "rd"
    refine r_neSS (.inr ⟨_, rfl, by decide +kernel⟩) (.inr ⟨_, rfl, by decide +kernel⟩) ?_
    walk_at "rd"
    refine r_itn (fun c => absurd rfl c) (fun _ => ?_)
    walk_at "rd"
    refine r_ixT (SqT.of ht) (atI_get (j := 1) rfl rfl) ?_
    walk_at "rd"
    refine r_is_lst_list hl ?_
    walk_at "rd"
    refine r_ixT (SqT.of ht) (atI_get (j := 1) rfl rfl) ?_
    walk_at "rd"
    refine ⟨l, _, rfl, .inl (SqL.of hl), ?_⟩
    walk_at "rd"
    refine r_ixT (SqT.of hq) (atI_get (j := 1) rfl rfl) ?_
    walk_at "rd"
    refine ⟨m, _, rfl, .inl (SqL.of hm), ?_⟩
    walk_at "rd"
    refine r_itn (fun c => absurd (by rw [lx, ly]) c) (fun _ => ?_)
    walk_at "rd"
    refine r_ixT (SqT.of hq) (atI_get (j := 1) rfl rfl) ?_
    walk_at "rd"
    refine ⟨m, _, rfl, .inl (SqL.of hm), ?_⟩
    rw [ly]
    walk_at "rd"
    refine ⟨_, rfl, by omega, by omega, for_range (lo := 0) (n := ls.length) (fun i σ H' => ∃ v, σ = [some (.ref t), some (.ref q), v] ∧ H' = H) ⟨none, rfl, rfl⟩ ?_ ?_⟩
    · rintro i σ H' hi ⟨v, rfl, rfl⟩
      rw [Int.zero_add]
      have em : ls[i]? = some ls[i] := List.getElem?_eq_getElem hi
      obtain ⟨x, ex⟩ : ∃ x, xs[i]? = some x := ⟨_, List.getElem?_eq_getElem (by omega)⟩
      obtain ⟨y, ey⟩ : ∃ y, ys[i]? = some y := ⟨_, List.getElem?_eq_getElem (by omega)⟩
      obtain ⟨r1, e1, a, rfl, ha⟩ := pr_ex pt ex
      obtain ⟨r2, e2, b, rfl, hb⟩ := pr_ex pq ey
      rw [List.getElem?_map, em] at e1 e2
      cases e1
      cases e2
      walk_at "rd"
      refine r_ixT (SqT.of ht) (atI_get (j := 1) rfl rfl) ?_
      walk_at "rd"
      refine r_ixL (SqL.of hl) (atI_get (j := i) rfl ex) ?_
      walk_at "rd"
      refine r_ixT (SqT.of hq) (atI_get (j := 1) rfl rfl) ?_
      walk_at "rd"
      refine r_ixL (SqL.of hm) (atI_get (j := i) rfl ey) ?_
      walk_at "rd"
      refine ⟨a, b, _, rfl, ha, hb, (ok.2 _ (List.getElem_mem hi)).scs, ?_⟩
      walk_at "rd"
      exact ⟨_, rfl, rfl⟩
    · rintro σ H' ⟨v, rfl, rfl⟩
      walk_at "rd"
      exact k
def spLRead (_ : PySem.W.Frag) : Sp := fun vs H Q _ => ∃ d : Td, vs = [.str d.str] ∧ d.ok ∧ ∀ v H', Same H H' → TdA H' v d → Q v H'
theorem len_LRead {K : PySem.W.Frag} {vs : List V} {H : Hp} {Q : VK} {E : XK} (h : spLRead K vs H Q E) : vs.length = 1 := by
  obtain ⟨_, rfl, _⟩ := h; rfl
theorem ok_LRead {P : Program} {w : World} {K : PySem.W.Frag} {mg : Str → Option Value} {base : Heap} (T : Tx w K mg) : FnOk P w K mg base CX0 4 (He.fAd K dLRead.at_) (fdO K dLRead.at_) P_LRead (spLRead K) := by
  refine T.f_LRead.ok sc_LRead (fun vs H Q E h => len_LRead h) (fun cdv A outer s H vs Q E hr h => ⟨_, PSs.nox ((pss_one (ps_try_only rfl rfl ⟨rfl, by decide, .inl T.g_NoDeed⟩ takes0 (fun W pn xe tk po => (pss_one (ps_ret (pe_call (ok_Read T) (hr.mono (by decide)) rfl T.g_Read T.f_Read.kp T.b_Read .nil pass0 (pa_cons (pv 0) pa_nil))))) (fun a oe cls d pn hz hf => (pss_one (ps_ret pe_non)))))), ?_⟩)
  obtain ⟨d, rfl, ok, k⟩ := h
  walk_at "rd"
  exact ⟨d, rfl, ok, k⟩
def dTd : Td → PyData
  | .ord ls => .tuple [.str "order", dRows (ls.map Tl.row)]
  | .nums w ns => dTup (.str w :: numsOf ns)
theorem td_dp {K : PySem.W.Frag} {H : Hp} {v : V} {d : Td} (ok : d.ok) (h : TdA H v d) : Dp K H v (dTd d) ∧ SeqAt.shaped (dTd d) = true := by
  cases d with
  | ord ls =>
    obtain ⟨t, l, xs, rfl, ht, hl, p⟩ := h
    have rw_ : Rws (ls.map Tl.row) := fun r hr => by
      obtain ⟨t, ht, rfl⟩ := List.mem_map.mp hr
      exact (ok.2 t ht).scs
    obtain ⟨a, b⟩ := dRows_lay rw_
    refine ⟨.tup (SqT.of ht) (.cons (.str _) (.cons (dRows_dp (SqL.of hl) p rw_) .nil)), ?_⟩
    have c : PyData.canLay0 (dTd (.ord ls)) = true := by
      simp only [dTd, PyData.canLay0, PyData.canLayAll0, a]
      decide +kernel
    have e : PyData.depth (dTd (.ord ls)) ≤ 4 := by
      simp only [dTd, PyData.depth, PyData.depthAll]
      omega
    unfold SeqAt.shaped
    rw [c, decide_eq_true (by omega)]
    rfl
  | nums w ns =>
    obtain ⟨t, rfl, ht⟩ := h
    have s := nums_scs (ns := ns) (word_ok ok).1.str
    exact ⟨dTup_dp (SqT.of ht) s, dTup_shaped s⟩
theorem r_neTd {K : PySem.W.Frag} {H : Hp} {Q : VK} {v u : V} {d : Td} (ok : d.ok) (h : TdA H v d) (h' : TdA H u d) (k : Q (.bl false) H) : rNeD K v u H Q := by
  obtain ⟨a, s⟩ := td_dp (K := K) ok h
  obtain ⟨b, _⟩ := td_dp (K := K) ok h'
  refine ⟨_, _, a, b, s, s, ?_⟩
  rw [SeqAt.eqv_refl _ (SeqAt.canLay_of_shaped s)]
  exact k
/-! ### the law -/
def spLaw (K : PySem.W.Frag) : Sp := fun vs H Q _ => ∃ a, vs = [.ref a] ∧ Script K H a ∧ ∀ H', Q (.bl true) H'
theorem len_Law {K : PySem.W.Frag} {vs : List V} {H : Hp} {Q : VK} {E : XK} (h : spLaw K vs H Q E) : vs.length = 1 := by
  obtain ⟨_, rfl, _⟩ := h; rfl
theorem ok_Law {P : Program} {w : World} {K : PySem.W.Frag} {mg : Str → Option Value} {base : Heap} (T : Tx w K mg) : FnOk P w K mg base CX0 5 (He.fAd K dLaw.at_) (fdO K dLaw.at_) P_Law (spLaw K) := by
  refine T.f_Law.ok sc_Law (fun vs H Q E h => len_Law h) (fun cdv A outer s H vs Q E hr h => ⟨_, PSs.nox ((pss_cons (ps_set (i := 1) sc_Law.nd rfl (Or.inl rfl) (pe_call (ok_LAnyDeed T) (hr.mono (by decide)) rfl T.g_LAnyDeed T.f_LAnyDeed.kp T.b_LAnyDeed .nil pass0 (pa_cons (pv 0) pa_nil)))
      (pss_cons (ps_set (i := 2) sc_Law.nd rfl (Or.inl rfl) (pv 1))
      (pss_cons (ps_if (pt_cmpR op_eq (pe_ix ix_tup (pv 1) pe_int (fun _ _ => rfl)) pe_str (nomark _)) (pss_one (ps_set (i := 2) sc_Law.nd rfl (Or.inl rfl) (pe_tup (pa_cons pe_str (pa_cons (pe_callTy call_list_of (by rfl) T.b_list (by decide +kernel) (pa_cons (pe_ix ix_tup (pv 1) pe_int (fun _ _ => rfl)) pa_nil)) pa_nil))))) pss_nil)
      (pss_cons (ps_set (i := 3) sc_Law.nd rfl (Or.inl rfl) (pe_call (ok_Shown T) (hr.mono (by decide)) rfl T.g_Shown T.f_Shown.kp T.b_Shown .nil pass0 (pa_cons (pv 2) pa_nil)))
      (pss_cons (ps_if (PW.pt (pw_or (pt_not (pt_val (pe_callB call_isi (by rfl) T.b_isinstance (by decide +kernel) (pa_cons (pv 3) (pa_cons (pe_bltn (v := .ty "str") (by rfl) T.b_str (by decide +kernel) rfl) pa_nil))))) (pw_or (pt_cmpR op_ne (pv 3) (pe_call (ok_LTextOf T) (hr.mono (by decide)) rfl T.g_LTextOf T.f_LTextOf.kp T.b_LTextOf .nil pass0 (pa_cons (pv 1) pa_nil)) (nomark _)) (pw_or1 (pt_cmpR (op_neD hr.units) (pv 2) (pv 1) (nomark _)))))) (pss_one (ps_ret pe_bl)) pss_nil)
      (pss_cons (ps_set (i := 4) sc_Law.nd rfl (Or.inl rfl) (pe_call (ok_LRead T) (hr.mono (by decide)) rfl T.g_LRead T.f_LRead.kp T.b_LRead .nil pass0 (pa_cons (pv 3) pa_nil)))
      (pss_one (ps_ret (pe_and (pe_cmpR op_notN (pv 4) pe_non (nomark _)) (pe_one (pe_call (ok_LDeedAlike T) (hr.mono (by decide)) rfl T.g_LDeedAlike T.f_LDeedAlike.kp T.b_LDeedAlike .nil pass0 (pa_cons (pv 4) (pa_cons (pv 1) pa_nil)))))))))))))), ?_⟩)
  obtain ⟨s, rfl, scr, k⟩ := h
  walk_at "rs"
  walk_at "rd1"
  walk_at "rs"
  refine ⟨s, rfl, scr, fun v d H1 s1 hd ok => ?_⟩
  walk_at "rs"
  walk_at "rd1"
  walk_at "rs"
  with_reducible refine r_join (fun σ' H' => ∃ u, TdA H' v d ∧ TdA H' u d ∧ σ' = [some (.ref s), some v, some u, none, none]) ?_ fun N hN => ?_
  rotate_left
  · walk_at "rd"
    cases d with
    | ord ls =>
      obtain ⟨t, l, xs, rfl, ht, hl, pt⟩ := id hd
      refine r_ixT (SqT.of ht) (atI_get (j := 0) rfl rfl) ?_
      walk_at "rd"
      refine r_ity rfl ?_
      walk_at "rd"
      refine r_ixT (SqT.of ht) (atI_get (j := 1) rfl rfl) ?_
      walk_at "rd"
      refine ⟨l, xs, rfl, .inl (SqL.of hl), fun l2 hl2 => ?_⟩
      have s2 := same_upd (o := .lst xs) hl2
      walk_at "rd"
      refine r_mk (by simp) fun t2 ht2 => ?_
      have s3 := same_upd (o := .tup [.str "order", .ref l2]) ht2
      walk_at "rd"
      exact hN _ _ ⟨_, hd.keep (s2.trans s3), ⟨t2, l2, xs, rfl, upd_same, s3 _ _ upd_same, tup_keep (But.of (S := fun _ => False) (s2.trans s3)) pt⟩, rfl⟩
    | nums w' ns =>
      obtain ⟨t, rfl, ht⟩ := id hd
      refine r_ixT (SqT.of ht) (atI_get (j := 0) rfl rfl) ?_
      walk_at "rd"
      refine r_itz (word_ok ok).1.no ?_
      walk_at "rd"
      exact hN _ _ ⟨_, hd, hd, rfl⟩
  rintro σ' H2 ⟨u, hv, hu, rfl⟩
  walk_at "rd"
  refine ⟨u, d, rfl, hu, ok, fun H3 s3 => ?_⟩
  walk_at "rd"
  refine ⟨v, d, rfl, hv.keep s3, ok, fun H4 s4 => ?_⟩
  walk_at "rd"
  refine r_itn (fun c => absurd rfl c) (fun _ => ?_)
  walk_at "rd"
  have s34 := s3.trans s4
  refine r_neTd ok (hu.keep s34) (hv.keep s34) ?_
  walk_at "rd"
  refine ⟨d, rfl, ok, fun r H5 s5 hr => ?_⟩
  walk_at "rd"
  obtain ⟨t, rfl⟩ : ∃ t, r = .ref t := by
    cases d with
    | ord ls => obtain ⟨t, _, _, e, _⟩ := hr; exact ⟨t, e⟩
    | nums w' ns => obtain ⟨t, e, _⟩ := hr; exact ⟨t, e⟩
  refine ⟨rfl, true, by rw [decide_eq_false (fun z => by cases z)]; rfl, r_itT ?_⟩
  walk_at "rd"
  exact ⟨.ref t, v, d, rfl, hr, hv.keep (s34.trans s5), ok, k _⟩

theorem Tx.b_Law_args {w : World} {K : PySem.W.Frag} {mg : Str → Option Value} (T : Tx w K mg) (s : Shared) (v : Value) : BindsTo s (fdO K dLaw.at_) ⟨[v], []⟩ [("_law_script", v)] := by
  have b := FunD.bindsA (ps := ["_law_script"]) T.f_Law fun _ _ _ _ _ _ us hl => match us, hl with | [_], _ => rfl
  exact b s [v] rfl
theorem law_start {K : PySem.W.Frag} {H : Hp} {a : Addr} {ns : List Int} (hs : SqL K H a (ns.map V.int)) (hl : ns.length ≤ 63) : spLaw K [.ref a] H (fun v _ => v = .bl true) fun _ _ _ => False := ⟨a, rfl, ⟨ns, hs, hl⟩, fun _ => rfl⟩
end Of
open PySem PySem.W PySem.Calls PyProof.Rows
set_option maxRecDepth 100000 in
set_option maxHeartbeats 0 in
theorem PySem.Challenge.cw_orderflow_k07_shown_and_read_holds : PySem.Challenge.rw_orderflow_k07_shown_and_read.Holds := by
  w_on; o_law
  refine HandSHeadRun.head_any (r := OpenLaw.row PySem.Challenge.rw_orderflow_k07_shown_and_read) (q := view (OpenLaw.row PySem.Challenge.rw_orderflow_k07_shown_and_read).prog [26]) (H := Of.hk) (ob := Of.ob) (M := 20000) (loose := Of.names) (d := HandSHeadRun.topDef (OpenLaw.row PySem.Challenge.rw_orderflow_k07_shown_and_read).prog 26) (kwd := []) Of.ob_eq
    (by kernel_rfl) (fun s => by kernel_rfl) Of.run (by kernel_rfl) (by kernel_rfl) (by kernel_rfl) (by rfl) (by first | assumption | decide +kernel) (by decide +kernel) ⟨rfl, rfl, rfl, rfl, rfl, by decide +kernel⟩ ?hw ?hc
  case hw => w_witness2
  case hc =>
    refine L2.walk_ofE (l := PySem.Challenge.rw_orderflow_k07_shown_and_read) (n := 63) (k := 5) (x := "_law_script") (CX := L2.CX0) rfl (by decide) (by kernel_rfl) ⟨rfl, by decide, by decide⟩ ?F (fun _ _ _ _ z => z)
    intro w mg fa h Y G hm0
    obtain ⟨K, KX, c⟩ := Y
    have T : Of.Tx w K mg := Of.tx_of KX G c
    have hm : mg ("law" : PySem.Str) = some (.ref fa) := by
      have e : (HandSHeadRun.topDef (OpenLaw.row PySem.Challenge.rw_orderflow_k07_shown_and_read).prog 26).name = ("law" : PySem.Str) := by kernel_rfl
      rw [← e]
      exact hm0
    have ef : fa = He.fAd K Of.dLaw.at_ := by
      have q := hm.symm.trans T.g_Law
      cases q
      rfl
    rw [ef]
    exact ⟨K, Of.fdO K Of.dLaw.at_, Of.spLaw K, KX, fun s v => T.b_Law_args s v, fun H a ns hl _ hS => Of.law_start hS hl, fun base _ _ => Of.ok_Law T⟩
#print axioms PySem.Challenge.cw_orderflow_k07_shown_and_read_holds
