import PyProof.Rows.All
import Wide.All
import OpenK.AllK
import Wide.FinOn
import KE.KStateDown
import Lean
import HandS.ForMost
import HandS.ForExc
import HandS.More
import HandS.TryMany
import HandS.Walk
import HandS.IsInst
import HandS.ExcIs
import HandS.Defaults
import HandS.Head0
import HandS.Head1
import HandS.Head2
import HandS.HeadEnd
import HandS.HeadHook1
import HandS.HeadHook2
import HandS.HeadHook3
import HandS.HeadHook4
import HandS.HotCalls
import KE.GoesRaise
import KE.IntTextText
import PySem.Challenge.RW_orderflow_k08_texts_read
set_option Elab.async false
set_option linter.all false
set_option maxRecDepth 100000
set_option maxHeartbeats 0
namespace Of
open PySem PySem.Spec PyProof.Rows L2
/-! ### a written dict of text keys, whole -/
theorem kd_of {K : PySem.W.Frag} {w : World} {a : Addr} {ks : List Str} (h : He.dicW K a = some (He.keysIn w.params ks)) :
    ∃ es n, K.lookup a = some ⟨.type "dict", none, .dict es n, #[]⟩ ∧ PySem.W.KeysLit w.params es.toList ∧ es.toList.map He.keyOf = He.keysIn w.params ks ∧ (a == sysModules) = false := by
  obtain ⟨es, n, D⟩ := He.dicW_ok h
  refine ⟨es, n, D.at_, D.lit, ?_, D.low⟩
  unfold He.dicW at h
  rw [D.at_] at h
  have e2 : (match decide ((("dict" : String)) = "dict") && ((#[] : Array (Option Value)).isEmpty && !(a == sysModules)) with
    | true => some (es.toList.map He.keyOf)
    | false => none) = some (He.keysIn w.params ks) := h
  have e3 : (decide ((("dict" : String)) = "dict") && ((#[] : Array (Option Value)).isEmpty && !(a == sysModules))) = true := by
    rw [D.low]; rfl
  rw [e3] at e2
  exact Option.some.inj e2

/-! ### what an error's class says, for isinstance -/
def excB (K : PySem.W.Frag) (D : Addr) : Bool := decide (PySem.W.findIn K (.ref D) "__getattribute__" = some (some (.builtin "BaseException.__getattribute__"))) && (decide (PySem.W.findIn K (.ref D) "__getattr__" = some none) &&
  (decide (PySem.W.subIn K (.ref D) (.type "BaseException") = some true) && (PySem.W.hasDictIn K D && (decide (PySem.W.findIn K (.ref D) "__class__" = some (some (.builtin "object.__class__"))) &&
  (decide (PySem.W.specialIn K (.builtin "object.__class__") "__get__" = some (some (.builtin "getset_descriptor.__get__"))) && (decide (PySem.W.takesIn K (.builtin "object.__class__") = some true) && decide (PySem.W.mroIn K D (.type "object") = some true)))))))
theorem excB_ok {K : PySem.W.Frag} {D : Addr} (h : excB K D = true) : ExcC K D := by
  obtain ⟨h1, h⟩ := He.ba h
  obtain ⟨h2, h⟩ := He.ba h
  obtain ⟨h3, h⟩ := He.ba h
  obtain ⟨h4, h⟩ := He.ba h
  obtain ⟨h5, h⟩ := He.ba h
  obtain ⟨h6, h⟩ := He.ba h
  obtain ⟨h7, h8⟩ := He.ba h
  exact ⟨of_decide_eq_true h1, of_decide_eq_true h2, of_decide_eq_true h3, h4, of_decide_eq_true h5, of_decide_eq_true h6, of_decide_eq_true h7, of_decide_eq_true h8⟩
def excAll (K : PySem.W.Frag) (xs : List Str) : Bool := xs.all fun x => excB K (He.ga K x) && (decide (PySem.W.kitOne K (.ref (He.ga K x)) (.type "ValueError") = some true) && xs.all fun y => decide (PySem.W.kitOne K (.ref (He.ga K x)) (.ref (He.ga K y)) = some (decide (x = y))))
theorem excAll_ok {K : PySem.W.Frag} {xs : List Str} (h : excAll K xs = true) {x : Str} (hx : x ∈ xs) : ExcC K (He.ga K x) ∧ PySem.W.kitOne K (.ref (He.ga K x)) (.type "ValueError") = some true ∧
    ∀ y, y ∈ xs → PySem.W.kitOne K (.ref (He.ga K x)) (.ref (He.ga K y)) = some (decide (x = y)) := by
  obtain ⟨h1, h⟩ := He.ba (List.all_eq_true.mp h x hx)
  obtain ⟨h2, h3⟩ := He.ba h
  exact ⟨excB_ok h1, of_decide_eq_true h2, fun y hy => of_decide_eq_true (List.all_eq_true.mp h3 y hy)⟩
/-- isinstance(e, C) in a handler -/
def rIsX (K : PySem.W.Frag) (cls : Value) (d : Option Addr) (a : Addr) : List V → Hp → VK → Prop := fun xs H Q => ∃ (D : Addr) (c : V) (cv : Value) (b : Bool), cls = .ref D ∧ d = none ∧ ExcC K D ∧ xs = [.ref a, c] ∧ ClsV c cv ∧ PySem.W.kitOne K (.ref D) cv = some b ∧ Q (.bl b) H
theorem call_isX {X : Cx} {K : PySem.W.Frag} {a : Addr} {cls : Value} {d : Option Addr} {oe : Obj} {pn : List (Addr × Obj)} (eK : X.K = K) (hz : Zc cls d oe) (hf : ∃ vs, oe.data = .fields vs) : CallR (X.suite a ((a, oe) :: pn)) (.builtin "isinstance") (rIsX K cls d a) := by
  subst eK
  intro pins s σ H xs us Q I r h
  obtain ⟨D, c, cv, b, rfl, rfl, C, rfl, hc, e, q⟩ := h
  exact call_isE C hz hf pins s σ H _ us Q I r ⟨c, cv, b, rfl, fun u ru => hc.eq ru, e, q⟩
/-! ### the text by places -/
def top (i : Nat) : Stmt := PySem.Challenge.pw_orderflow_k08_texts_read.main.body.getD i (.Pass ⟨0, 0, 0, 0⟩)
abbrev sIsItem : Stmt := top 15
abbrev sNumberIn : Stmt := top 20
abbrev sLineIn : Stmt := top 21
abbrev sRead : Stmt := top 22
abbrev sLCellAt : Stmt := top 24
abbrev sLWhole : Stmt := top 25
abbrev sLNumberBy : Stmt := top 26
abbrev sLItemBy : Stmt := top 27
abbrev sLAnyDeed : Stmt := top 28
abbrev sLTextOf : Stmt := top 29
abbrev sLNumberIn : Stmt := top 30
abbrev sLLineIn : Stmt := top 31
abbrev sLDeedIn : Stmt := top 32
abbrev sLPartsAlike : Stmt := top 33
abbrev sLDeedAlike : Stmt := top 34
abbrev sLChangedBy : Stmt := top 35
abbrev sLOddText : Stmt := top 36
abbrev sLOfOneClass : Stmt := top 37
abbrev sLRefusedByAny : Stmt := top 38
abbrev sLaw : Stmt := top 39
def dIsItem : He.DefD := ⟨("is_item", none), "is_item", "is_item", defArgs sIsItem, defBody sIsItem, defScope sIsItem, [], []⟩
def dNumberIn : He.DefD := ⟨("number_in", none), "number_in", "number_in", defArgs sNumberIn, defBody sNumberIn, defScope sNumberIn, [], []⟩
def dLineIn : He.DefD := ⟨("line_in", none), "line_in", "line_in", defArgs sLineIn, defBody sLineIn, defScope sLineIn, [], []⟩
def dRead : He.DefD := ⟨("read", none), "read", "read", defArgs sRead, defBody sRead, defScope sRead, [], []⟩
def dLCellAt : He.DefD := ⟨("_law_cell_at", none), "_law_cell_at", "_law_cell_at", defArgs sLCellAt, defBody sLCellAt, defScope sLCellAt, [], []⟩
def dLWhole : He.DefD := ⟨("_law_whole", none), "_law_whole", "_law_whole", defArgs sLWhole, defBody sLWhole, defScope sLWhole, [], []⟩
def dLNumberBy : He.DefD := ⟨("_law_number_by", none), "_law_number_by", "_law_number_by", defArgs sLNumberBy, defBody sLNumberBy, defScope sLNumberBy, [], []⟩
def dLItemBy : He.DefD := ⟨("_law_item_by", none), "_law_item_by", "_law_item_by", defArgs sLItemBy, defBody sLItemBy, defScope sLItemBy, [], []⟩
def dLAnyDeed : He.DefD := ⟨("_law_any_deed", none), "_law_any_deed", "_law_any_deed", defArgs sLAnyDeed, defBody sLAnyDeed, defScope sLAnyDeed, [], []⟩
def dLTextOf : He.DefD := ⟨("_law_text_of", none), "_law_text_of", "_law_text_of", defArgs sLTextOf, defBody sLTextOf, defScope sLTextOf, [], []⟩
def dLNumberIn : He.DefD := ⟨("_law_number_in", none), "_law_number_in", "_law_number_in", defArgs sLNumberIn, defBody sLNumberIn, defScope sLNumberIn, [], []⟩
def dLLineIn : He.DefD := ⟨("_law_line_in", none), "_law_line_in", "_law_line_in", defArgs sLLineIn, defBody sLLineIn, defScope sLLineIn, [], []⟩
def dLDeedIn : He.DefD := ⟨("_law_deed_in", none), "_law_deed_in", "_law_deed_in", defArgs sLDeedIn, defBody sLDeedIn, defScope sLDeedIn, [], []⟩
def dLPartsAlike : He.DefD := ⟨("_law_parts_alike", none), "_law_parts_alike", "_law_parts_alike", defArgs sLPartsAlike, defBody sLPartsAlike, defScope sLPartsAlike, [], []⟩
def dLDeedAlike : He.DefD := ⟨("_law_deed_alike", none), "_law_deed_alike", "_law_deed_alike", defArgs sLDeedAlike, defBody sLDeedAlike, defScope sLDeedAlike, [], []⟩
def dLChangedBy : He.DefD := ⟨("_law_changed_by", none), "_law_changed_by", "_law_changed_by", defArgs sLChangedBy, defBody sLChangedBy, defScope sLChangedBy, [], []⟩
def dLOddText : He.DefD := ⟨("_law_odd_text", none), "_law_odd_text", "_law_odd_text", defArgs sLOddText, defBody sLOddText, defScope sLOddText, [], []⟩
def dLOfOneClass : He.DefD := ⟨("_law_of_one_class", none), "_law_of_one_class", "_law_of_one_class", defArgs sLOfOneClass, defBody sLOfOneClass, defScope sLOfOneClass, [], []⟩
def dLRefusedByAny : He.DefD := ⟨("_law_refused_by_any", none), "_law_refused_by_any", "_law_refused_by_any", defArgs sLRefusedByAny, defBody sLRefusedByAny, defScope sLRefusedByAny, [], []⟩
def dLaw : He.DefD := ⟨("law", none), "law", "law", defArgs sLaw, defBody sLaw, defScope sLaw, [], []⟩
def fn : List He.DefD := ([dIsItem, dNumberIn, dLineIn, dRead, dLCellAt, dLWhole, dLNumberBy, dLItemBy, dLAnyDeed, dLTextOf, dLNumberIn, dLLineIn] : List He.DefD) ++ ([dLDeedIn, dLPartsAlike, dLDeedAlike, dLChangedBy, dLOddText, dLOfOneClass, dLRefusedByAny, dLaw] : List He.DefD)
def fa : List He.Fa := ([.glo "is_item", .glo "number_in", .glo "line_in", .glo "read", .glo "_law_cell_at", .glo "_law_whole", .glo "_law_number_by", .glo "_law_item_by", .glo "_law_any_deed", .glo "_law_text_of", .glo "_law_number_in", .glo "_law_line_in"] : List He.Fa) ++ ([.glo "_law_deed_in", .glo "_law_parts_alike", .glo "_law_deed_alike", .glo "_law_changed_by", .glo "_law_odd_text", .glo "_law_of_one_class", .glo "_law_refused_by_any", .glo "law", .free "ValueError", .free "bool", .free "int", .free "isinstance"] : List He.Fa) ++ ([.free "len", .free "list", .free "min", .free "range", .free "str", .free "tuple", .str "LETTERS" "abcdefghijklmnopqrstuvwxyz", .int "MOST_LETTERS" 12, .glo "PARTS", .str "FIGURES" "0123456789", .int "MOST_FIGURES" 30, .glo "FlowError"] : List He.Fa) ++ ([.exc "FlowError", .glo "NoDeed", .exc "NoDeed", .glo "NoLines", .exc "NoLines", .glo "NoItem", .exc "NoItem", .glo "NoNumber", .exc "NoNumber", .glo "FullBook", .exc "FullBook", .glo "NoOrder"] : List He.Fa) ++ ([.exc "NoOrder", .glo "SameOrder", .exc "SameOrder", .glo "NoLine", .exc "NoLine", .glo "TooMuch", .exc "TooMuch", .glo "NothingDone", .exc "NothingDone", .exm "NoDeed" "FlowError" true, .exm "NoLines" "FlowError" true, .exm "NoItem" "FlowError" true] : List He.Fa) ++ ([.exm "NoNumber" "FlowError" true, .exm "FullBook" "FlowError" true, .exm "NoOrder" "FlowError" true, .exm "SameOrder" "FlowError" true, .exm "NoLine" "FlowError" true, .exm "TooMuch" "FlowError" true, .exm "NothingDone" "FlowError" true, .exm "NoDeed" "NoDeed" true, .exm "NoLines" "NoDeed" false, .exm "NoItem" "NoDeed" false, .exm "NoNumber" "NoDeed" false, .exm "FullBook" "NoDeed" false] : List He.Fa) ++ ([.exm "NoOrder" "NoDeed" false, .exm "SameOrder" "NoDeed" false, .exm "NoLine" "NoDeed" false, .exm "TooMuch" "NoDeed" false, .exm "NothingDone" "NoDeed" false] : List He.Fa)
def ts : List He.Tab := [(fun K => He.ga K "PARTS", ["order", "deliver", "back", "swap", "credit", "pay", "refund", "move"])]
def parts : List (Str × Int) := [("order", 2), ("deliver", 4), ("back", 4), ("swap", 4), ("credit", 4), ("pay", 3), ("refund", 3), ("move", 4)]
def exNames : List Str := ["NoDeed", "NoLines", "NoItem", "NoNumber", "FullBook", "NoOrder", "SameOrder", "NoLine", "TooMuch", "NothingDone"]
def ex (K : PySem.W.Frag) : Bool := He.valsB K (He.ga K "PARTS") (parts.map fun p => (p.1, He.Dv.int p.2)) && excAll K exNames
abbrev R : PySem.W.OpenRow := PySem.W.OpenLaw.row PySem.Challenge.rw_orderflow_k08_texts_read
abbrev qv : Program := PySem.W.view R.prog [39]
abbrev hk : PySem.W.Hook := He.hookX 5 fa fn ts [] ex
def ob (s : PySem.W.SharedT) : He.AlX := He.obsX 5 fa fn ts [] ex (HandSHeadRun.getT s)
theorem ob_eq (s : PySem.W.SharedT) : ob s = hk.obs s.abs := He.obsX_eq (HandSHeadRun.getT_eq s)
def names : List PySem.Str := (["FlowError", "NoDeed", "NoLines", "NoItem", "NoNumber", "FullBook", "NoOrder", "SameOrder", "NoLine", "TooMuch", "NothingDone", "LETTERS"] : List PySem.Str) ++ (["MOST_LETTERS", "is_item", "PARTS", "FIGURES", "MOST_FIGURES", "number_in", "line_in", "read", "_law_cell_at", "_law_whole", "_law_number_by", "_law_item_by"] : List PySem.Str) ++ (["_law_any_deed", "_law_text_of", "_law_number_in", "_law_line_in", "_law_deed_in", "_law_parts_alike", "_law_deed_alike", "_law_changed_by", "_law_odd_text", "_law_of_one_class", "_law_refused_by_any"] : List PySem.Str)
/-! ### what the walk asks of the text -/
def fdO (K : PySem.W.Frag) (p : Str × Option Str) : FuncData := match K.lookup (He.fAd K p) with
  | some ⟨_, _, .func fd, _⟩ => fd
  | _ => PySem.W.fnOf "" "" ⟨[], [], none, [], [], none, []⟩ [] default .none .none .none .none none .none .none
theorem fdO_of {K : PySem.W.Frag} {p : Str × Option Str} {x qual : Str} {params : Arguments} {body : List Stmt} {scope : Scope} {dvs : List V} {kws : List (Str × V)} {fd : FuncData} (F : FunD K x qual params body scope dvs kws (He.fAd K p) fd) :
    FunD K x qual params body scope dvs kws (He.fAd K p) (fdO K p) := by
  obtain ⟨oc, od, dV, kV, doc, pm, an, cdv, ct, osl, e, lk, _⟩ := F.ex
  have q : fdO K p = fd := by
    unfold fdO
    rw [lk]
  rw [q]
  exact F
theorem gi_ok {K : PySem.W.Frag} {h : Heap} {mg : Str → Option Value} (X : K.In h) (G : h.Ns mainGlobals mg) {x : Str} {i : Int} (c : (He.Fa.int x i).ok K = true) : ∃ u, mg x = some u ∧ RelV (.int i) u := by
  obtain ⟨t, h⟩ := He.int_ok X G c
  exact ⟨_, h, t, rfl⟩
theorem gs_ok {K : PySem.W.Frag} {h : Heap} {mg : Str → Option Value} (X : K.In h) (G : h.Ns mainGlobals mg) {x z : Str} (c : (He.Fa.str x z).ok K = true) : ∃ u, mg x = some u ∧ RelV (.str z) u := by
  obtain ⟨t, h⟩ := He.str_ok X G c
  exact ⟨_, h, t, rfl⟩
structure Tx (w : World) (K : PySem.W.Frag) (mg : Str → Option Value) : Prop where
  g_IsItem : mg "is_item" = some (.ref (He.ga K "is_item"))
  g_NumberIn : mg "number_in" = some (.ref (He.ga K "number_in"))
  g_LineIn : mg "line_in" = some (.ref (He.ga K "line_in"))
  g_Read : mg "read" = some (.ref (He.ga K "read"))
  g_LCellAt : mg "_law_cell_at" = some (.ref (He.ga K "_law_cell_at"))
  g_LWhole : mg "_law_whole" = some (.ref (He.ga K "_law_whole"))
  g_LNumberBy : mg "_law_number_by" = some (.ref (He.ga K "_law_number_by"))
  g_LItemBy : mg "_law_item_by" = some (.ref (He.ga K "_law_item_by"))
  g_LAnyDeed : mg "_law_any_deed" = some (.ref (He.ga K "_law_any_deed"))
  g_LTextOf : mg "_law_text_of" = some (.ref (He.ga K "_law_text_of"))
  g_LNumberIn : mg "_law_number_in" = some (.ref (He.ga K "_law_number_in"))
  g_LLineIn : mg "_law_line_in" = some (.ref (He.ga K "_law_line_in"))
  g_LDeedIn : mg "_law_deed_in" = some (.ref (He.ga K "_law_deed_in"))
  g_LPartsAlike : mg "_law_parts_alike" = some (.ref (He.ga K "_law_parts_alike"))
  g_LDeedAlike : mg "_law_deed_alike" = some (.ref (He.ga K "_law_deed_alike"))
  g_LChangedBy : mg "_law_changed_by" = some (.ref (He.ga K "_law_changed_by"))
  g_LOddText : mg "_law_odd_text" = some (.ref (He.ga K "_law_odd_text"))
  g_LOfOneClass : mg "_law_of_one_class" = some (.ref (He.ga K "_law_of_one_class"))
  g_LRefusedByAny : mg "_law_refused_by_any" = some (.ref (He.ga K "_law_refused_by_any"))
  g_Law : mg "law" = some (.ref (He.ga K "law"))
  b_ValueError : mg "ValueError" = none
  b_bool : mg "bool" = none
  b_int : mg "int" = none
  b_isinstance : mg "isinstance" = none
  b_len : mg "len" = none
  b_list : mg "list" = none
  b_min : mg "min" = none
  b_range : mg "range" = none
  b_str : mg "str" = none
  b_tuple : mg "tuple" = none
  c_LETTERS : ∃ u, mg "LETTERS" = some u ∧ RelV (.str "abcdefghijklmnopqrstuvwxyz") u
  c_MOST_LETTERS : ∃ u, mg "MOST_LETTERS" = some u ∧ RelV (.int 12) u
  c_PARTS : mg "PARTS" = some (.ref (He.ga K "PARTS"))
  c_FIGURES : ∃ u, mg "FIGURES" = some u ∧ RelV (.str "0123456789") u
  c_MOST_FIGURES : ∃ u, mg "MOST_FIGURES" = some u ∧ RelV (.int 30) u
  g_FlowError : mg "FlowError" = some (.ref (He.ga K "FlowError"))
  x_FlowError : PySem.W.excIn K (He.ga K "FlowError") He.veBase "ValueError.__new__" = true ∧ PySem.W.keepIn K (.ref (He.ga K "FlowError")) = true ∧ PySem.W.subIn K (.ref (He.ga K "FlowError")) (.type "BaseException") = some true ∧ PySem.W.typeIn K (.ref (He.ga K "FlowError")) = some (.type "type")
  g_NoDeed : mg "NoDeed" = some (.ref (He.ga K "NoDeed"))
  x_NoDeed : PySem.W.excIn K (He.ga K "NoDeed") He.veBase "ValueError.__new__" = true ∧ PySem.W.keepIn K (.ref (He.ga K "NoDeed")) = true ∧ PySem.W.subIn K (.ref (He.ga K "NoDeed")) (.type "BaseException") = some true ∧ PySem.W.typeIn K (.ref (He.ga K "NoDeed")) = some (.type "type")
  g_NoLines : mg "NoLines" = some (.ref (He.ga K "NoLines"))
  x_NoLines : PySem.W.excIn K (He.ga K "NoLines") He.veBase "ValueError.__new__" = true ∧ PySem.W.keepIn K (.ref (He.ga K "NoLines")) = true ∧ PySem.W.subIn K (.ref (He.ga K "NoLines")) (.type "BaseException") = some true ∧ PySem.W.typeIn K (.ref (He.ga K "NoLines")) = some (.type "type")
  g_NoItem : mg "NoItem" = some (.ref (He.ga K "NoItem"))
  x_NoItem : PySem.W.excIn K (He.ga K "NoItem") He.veBase "ValueError.__new__" = true ∧ PySem.W.keepIn K (.ref (He.ga K "NoItem")) = true ∧ PySem.W.subIn K (.ref (He.ga K "NoItem")) (.type "BaseException") = some true ∧ PySem.W.typeIn K (.ref (He.ga K "NoItem")) = some (.type "type")
  g_NoNumber : mg "NoNumber" = some (.ref (He.ga K "NoNumber"))
  x_NoNumber : PySem.W.excIn K (He.ga K "NoNumber") He.veBase "ValueError.__new__" = true ∧ PySem.W.keepIn K (.ref (He.ga K "NoNumber")) = true ∧ PySem.W.subIn K (.ref (He.ga K "NoNumber")) (.type "BaseException") = some true ∧ PySem.W.typeIn K (.ref (He.ga K "NoNumber")) = some (.type "type")
  g_FullBook : mg "FullBook" = some (.ref (He.ga K "FullBook"))
  x_FullBook : PySem.W.excIn K (He.ga K "FullBook") He.veBase "ValueError.__new__" = true ∧ PySem.W.keepIn K (.ref (He.ga K "FullBook")) = true ∧ PySem.W.subIn K (.ref (He.ga K "FullBook")) (.type "BaseException") = some true ∧ PySem.W.typeIn K (.ref (He.ga K "FullBook")) = some (.type "type")
  g_NoOrder : mg "NoOrder" = some (.ref (He.ga K "NoOrder"))
  x_NoOrder : PySem.W.excIn K (He.ga K "NoOrder") He.veBase "ValueError.__new__" = true ∧ PySem.W.keepIn K (.ref (He.ga K "NoOrder")) = true ∧ PySem.W.subIn K (.ref (He.ga K "NoOrder")) (.type "BaseException") = some true ∧ PySem.W.typeIn K (.ref (He.ga K "NoOrder")) = some (.type "type")
  g_SameOrder : mg "SameOrder" = some (.ref (He.ga K "SameOrder"))
  x_SameOrder : PySem.W.excIn K (He.ga K "SameOrder") He.veBase "ValueError.__new__" = true ∧ PySem.W.keepIn K (.ref (He.ga K "SameOrder")) = true ∧ PySem.W.subIn K (.ref (He.ga K "SameOrder")) (.type "BaseException") = some true ∧ PySem.W.typeIn K (.ref (He.ga K "SameOrder")) = some (.type "type")
  g_NoLine : mg "NoLine" = some (.ref (He.ga K "NoLine"))
  x_NoLine : PySem.W.excIn K (He.ga K "NoLine") He.veBase "ValueError.__new__" = true ∧ PySem.W.keepIn K (.ref (He.ga K "NoLine")) = true ∧ PySem.W.subIn K (.ref (He.ga K "NoLine")) (.type "BaseException") = some true ∧ PySem.W.typeIn K (.ref (He.ga K "NoLine")) = some (.type "type")
  g_TooMuch : mg "TooMuch" = some (.ref (He.ga K "TooMuch"))
  x_TooMuch : PySem.W.excIn K (He.ga K "TooMuch") He.veBase "ValueError.__new__" = true ∧ PySem.W.keepIn K (.ref (He.ga K "TooMuch")) = true ∧ PySem.W.subIn K (.ref (He.ga K "TooMuch")) (.type "BaseException") = some true ∧ PySem.W.typeIn K (.ref (He.ga K "TooMuch")) = some (.type "type")
  g_NothingDone : mg "NothingDone" = some (.ref (He.ga K "NothingDone"))
  x_NothingDone : PySem.W.excIn K (He.ga K "NothingDone") He.veBase "ValueError.__new__" = true ∧ PySem.W.keepIn K (.ref (He.ga K "NothingDone")) = true ∧ PySem.W.subIn K (.ref (He.ga K "NothingDone")) (.type "BaseException") = some true ∧ PySem.W.typeIn K (.ref (He.ga K "NothingDone")) = some (.type "type")
  e_NoDeed_FlowError : PySem.W.exmOne K (.ref (He.ga K "NoDeed")) (.ref (He.ga K "FlowError")) = some true
  e_NoLines_FlowError : PySem.W.exmOne K (.ref (He.ga K "NoLines")) (.ref (He.ga K "FlowError")) = some true
  e_NoItem_FlowError : PySem.W.exmOne K (.ref (He.ga K "NoItem")) (.ref (He.ga K "FlowError")) = some true
  e_NoNumber_FlowError : PySem.W.exmOne K (.ref (He.ga K "NoNumber")) (.ref (He.ga K "FlowError")) = some true
  e_FullBook_FlowError : PySem.W.exmOne K (.ref (He.ga K "FullBook")) (.ref (He.ga K "FlowError")) = some true
  e_NoOrder_FlowError : PySem.W.exmOne K (.ref (He.ga K "NoOrder")) (.ref (He.ga K "FlowError")) = some true
  e_SameOrder_FlowError : PySem.W.exmOne K (.ref (He.ga K "SameOrder")) (.ref (He.ga K "FlowError")) = some true
  e_NoLine_FlowError : PySem.W.exmOne K (.ref (He.ga K "NoLine")) (.ref (He.ga K "FlowError")) = some true
  e_TooMuch_FlowError : PySem.W.exmOne K (.ref (He.ga K "TooMuch")) (.ref (He.ga K "FlowError")) = some true
  e_NothingDone_FlowError : PySem.W.exmOne K (.ref (He.ga K "NothingDone")) (.ref (He.ga K "FlowError")) = some true
  e_NoDeed_NoDeed : PySem.W.exmOne K (.ref (He.ga K "NoDeed")) (.ref (He.ga K "NoDeed")) = some true
  e_NoLines_NoDeed : PySem.W.exmOne K (.ref (He.ga K "NoLines")) (.ref (He.ga K "NoDeed")) = some false
  e_NoItem_NoDeed : PySem.W.exmOne K (.ref (He.ga K "NoItem")) (.ref (He.ga K "NoDeed")) = some false
  e_NoNumber_NoDeed : PySem.W.exmOne K (.ref (He.ga K "NoNumber")) (.ref (He.ga K "NoDeed")) = some false
  e_FullBook_NoDeed : PySem.W.exmOne K (.ref (He.ga K "FullBook")) (.ref (He.ga K "NoDeed")) = some false
  e_NoOrder_NoDeed : PySem.W.exmOne K (.ref (He.ga K "NoOrder")) (.ref (He.ga K "NoDeed")) = some false
  e_SameOrder_NoDeed : PySem.W.exmOne K (.ref (He.ga K "SameOrder")) (.ref (He.ga K "NoDeed")) = some false
  e_NoLine_NoDeed : PySem.W.exmOne K (.ref (He.ga K "NoLine")) (.ref (He.ga K "NoDeed")) = some false
  e_TooMuch_NoDeed : PySem.W.exmOne K (.ref (He.ga K "TooMuch")) (.ref (He.ga K "NoDeed")) = some false
  e_NothingDone_NoDeed : PySem.W.exmOne K (.ref (He.ga K "NothingDone")) (.ref (He.ga K "NoDeed")) = some false
  f_IsItem : FunD K dIsItem.name dIsItem.qual dIsItem.params dIsItem.body dIsItem.scope [] [] (He.fAd K dIsItem.at_) (fdO K dIsItem.at_)
  f_NumberIn : FunD K dNumberIn.name dNumberIn.qual dNumberIn.params dNumberIn.body dNumberIn.scope [] [] (He.fAd K dNumberIn.at_) (fdO K dNumberIn.at_)
  f_LineIn : FunD K dLineIn.name dLineIn.qual dLineIn.params dLineIn.body dLineIn.scope [] [] (He.fAd K dLineIn.at_) (fdO K dLineIn.at_)
  f_Read : FunD K dRead.name dRead.qual dRead.params dRead.body dRead.scope [] [] (He.fAd K dRead.at_) (fdO K dRead.at_)
  f_LCellAt : FunD K dLCellAt.name dLCellAt.qual dLCellAt.params dLCellAt.body dLCellAt.scope [] [] (He.fAd K dLCellAt.at_) (fdO K dLCellAt.at_)
  f_LWhole : FunD K dLWhole.name dLWhole.qual dLWhole.params dLWhole.body dLWhole.scope [] [] (He.fAd K dLWhole.at_) (fdO K dLWhole.at_)
  f_LNumberBy : FunD K dLNumberBy.name dLNumberBy.qual dLNumberBy.params dLNumberBy.body dLNumberBy.scope [] [] (He.fAd K dLNumberBy.at_) (fdO K dLNumberBy.at_)
  f_LItemBy : FunD K dLItemBy.name dLItemBy.qual dLItemBy.params dLItemBy.body dLItemBy.scope [] [] (He.fAd K dLItemBy.at_) (fdO K dLItemBy.at_)
  f_LAnyDeed : FunD K dLAnyDeed.name dLAnyDeed.qual dLAnyDeed.params dLAnyDeed.body dLAnyDeed.scope [] [] (He.fAd K dLAnyDeed.at_) (fdO K dLAnyDeed.at_)
  f_LTextOf : FunD K dLTextOf.name dLTextOf.qual dLTextOf.params dLTextOf.body dLTextOf.scope [] [] (He.fAd K dLTextOf.at_) (fdO K dLTextOf.at_)
  f_LNumberIn : FunD K dLNumberIn.name dLNumberIn.qual dLNumberIn.params dLNumberIn.body dLNumberIn.scope [] [] (He.fAd K dLNumberIn.at_) (fdO K dLNumberIn.at_)
  f_LLineIn : FunD K dLLineIn.name dLLineIn.qual dLLineIn.params dLLineIn.body dLLineIn.scope [] [] (He.fAd K dLLineIn.at_) (fdO K dLLineIn.at_)
  f_LDeedIn : FunD K dLDeedIn.name dLDeedIn.qual dLDeedIn.params dLDeedIn.body dLDeedIn.scope [] [] (He.fAd K dLDeedIn.at_) (fdO K dLDeedIn.at_)
  f_LPartsAlike : FunD K dLPartsAlike.name dLPartsAlike.qual dLPartsAlike.params dLPartsAlike.body dLPartsAlike.scope [] [] (He.fAd K dLPartsAlike.at_) (fdO K dLPartsAlike.at_)
  f_LDeedAlike : FunD K dLDeedAlike.name dLDeedAlike.qual dLDeedAlike.params dLDeedAlike.body dLDeedAlike.scope [] [] (He.fAd K dLDeedAlike.at_) (fdO K dLDeedAlike.at_)
  f_LChangedBy : FunD K dLChangedBy.name dLChangedBy.qual dLChangedBy.params dLChangedBy.body dLChangedBy.scope [] [] (He.fAd K dLChangedBy.at_) (fdO K dLChangedBy.at_)
  f_LOddText : FunD K dLOddText.name dLOddText.qual dLOddText.params dLOddText.body dLOddText.scope [] [] (He.fAd K dLOddText.at_) (fdO K dLOddText.at_)
  f_LOfOneClass : FunD K dLOfOneClass.name dLOfOneClass.qual dLOfOneClass.params dLOfOneClass.body dLOfOneClass.scope [] [] (He.fAd K dLOfOneClass.at_) (fdO K dLOfOneClass.at_)
  f_LRefusedByAny : FunD K dLRefusedByAny.name dLRefusedByAny.qual dLRefusedByAny.params dLRefusedByAny.body dLRefusedByAny.scope [] [] (He.fAd K dLRefusedByAny.at_) (fdO K dLRefusedByAny.at_)
  f_Law : FunD K dLaw.name dLaw.qual dLaw.params dLaw.body dLaw.scope [] [] (He.fAd K dLaw.at_) (fdO K dLaw.at_)
  kd : ∃ es n, K.lookup (He.ga K "PARTS") = some ⟨.type "dict", none, .dict es n, #[]⟩ ∧ PySem.W.KeysLit w.params es.toList ∧ es.toList.map He.keyOf = He.keysIn w.params (parts.map (·.1)) ∧ ((He.ga K "PARTS") == sysModules) = false
  kv : He.valsB K (He.ga K "PARTS") (parts.map fun p => (p.1, He.Dv.int p.2)) = true
  xv : excAll K exNames = true
theorem tx_of {w : World} {K : PySem.W.Frag} {h : Heap} {mg : Str → Option Value} (X : K.In h) (G : h.Ns mainGlobals mg) (c : He.SaysX fa fn ts [] ex w h K) : Tx w K mg where
  g_IsItem := He.glo_ok X G (c.t.d.fact 0 (f := .glo "is_item") rfl)
  g_NumberIn := He.glo_ok X G (c.t.d.fact 1 (f := .glo "number_in") rfl)
  g_LineIn := He.glo_ok X G (c.t.d.fact 2 (f := .glo "line_in") rfl)
  g_Read := He.glo_ok X G (c.t.d.fact 3 (f := .glo "read") rfl)
  g_LCellAt := He.glo_ok X G (c.t.d.fact 4 (f := .glo "_law_cell_at") rfl)
  g_LWhole := He.glo_ok X G (c.t.d.fact 5 (f := .glo "_law_whole") rfl)
  g_LNumberBy := He.glo_ok X G (c.t.d.fact 6 (f := .glo "_law_number_by") rfl)
  g_LItemBy := He.glo_ok X G (c.t.d.fact 7 (f := .glo "_law_item_by") rfl)
  g_LAnyDeed := He.glo_ok X G (c.t.d.fact 8 (f := .glo "_law_any_deed") rfl)
  g_LTextOf := He.glo_ok X G (c.t.d.fact 9 (f := .glo "_law_text_of") rfl)
  g_LNumberIn := He.glo_ok X G (c.t.d.fact 10 (f := .glo "_law_number_in") rfl)
  g_LLineIn := He.glo_ok X G (c.t.d.fact 11 (f := .glo "_law_line_in") rfl)
  g_LDeedIn := He.glo_ok X G (c.t.d.fact 12 (f := .glo "_law_deed_in") rfl)
  g_LPartsAlike := He.glo_ok X G (c.t.d.fact 13 (f := .glo "_law_parts_alike") rfl)
  g_LDeedAlike := He.glo_ok X G (c.t.d.fact 14 (f := .glo "_law_deed_alike") rfl)
  g_LChangedBy := He.glo_ok X G (c.t.d.fact 15 (f := .glo "_law_changed_by") rfl)
  g_LOddText := He.glo_ok X G (c.t.d.fact 16 (f := .glo "_law_odd_text") rfl)
  g_LOfOneClass := He.glo_ok X G (c.t.d.fact 17 (f := .glo "_law_of_one_class") rfl)
  g_LRefusedByAny := He.glo_ok X G (c.t.d.fact 18 (f := .glo "_law_refused_by_any") rfl)
  g_Law := He.glo_ok X G (c.t.d.fact 19 (f := .glo "law") rfl)
  b_ValueError := He.free_ok X G (c.t.d.fact 20 (f := .free "ValueError") rfl)
  b_bool := He.free_ok X G (c.t.d.fact 21 (f := .free "bool") rfl)
  b_int := He.free_ok X G (c.t.d.fact 22 (f := .free "int") rfl)
  b_isinstance := He.free_ok X G (c.t.d.fact 23 (f := .free "isinstance") rfl)
  b_len := He.free_ok X G (c.t.d.fact 24 (f := .free "len") rfl)
  b_list := He.free_ok X G (c.t.d.fact 25 (f := .free "list") rfl)
  b_min := He.free_ok X G (c.t.d.fact 26 (f := .free "min") rfl)
  b_range := He.free_ok X G (c.t.d.fact 27 (f := .free "range") rfl)
  b_str := He.free_ok X G (c.t.d.fact 28 (f := .free "str") rfl)
  b_tuple := He.free_ok X G (c.t.d.fact 29 (f := .free "tuple") rfl)
  c_LETTERS := gs_ok X G (c.t.d.fact 30 (f := .str "LETTERS" "abcdefghijklmnopqrstuvwxyz") rfl)
  c_MOST_LETTERS := gi_ok X G (c.t.d.fact 31 (f := .int "MOST_LETTERS" 12) rfl)
  c_PARTS := He.glo_ok X G (c.t.d.fact 32 (f := .glo "PARTS") rfl)
  c_FIGURES := gs_ok X G (c.t.d.fact 33 (f := .str "FIGURES" "0123456789") rfl)
  c_MOST_FIGURES := gi_ok X G (c.t.d.fact 34 (f := .int "MOST_FIGURES" 30) rfl)
  g_FlowError := He.glo_ok X G (c.t.d.fact 35 (f := .glo "FlowError") rfl)
  x_FlowError := He.exc_ok (c.t.d.fact 36 (f := .exc "FlowError") rfl)
  g_NoDeed := He.glo_ok X G (c.t.d.fact 37 (f := .glo "NoDeed") rfl)
  x_NoDeed := He.exc_ok (c.t.d.fact 38 (f := .exc "NoDeed") rfl)
  g_NoLines := He.glo_ok X G (c.t.d.fact 39 (f := .glo "NoLines") rfl)
  x_NoLines := He.exc_ok (c.t.d.fact 40 (f := .exc "NoLines") rfl)
  g_NoItem := He.glo_ok X G (c.t.d.fact 41 (f := .glo "NoItem") rfl)
  x_NoItem := He.exc_ok (c.t.d.fact 42 (f := .exc "NoItem") rfl)
  g_NoNumber := He.glo_ok X G (c.t.d.fact 43 (f := .glo "NoNumber") rfl)
  x_NoNumber := He.exc_ok (c.t.d.fact 44 (f := .exc "NoNumber") rfl)
  g_FullBook := He.glo_ok X G (c.t.d.fact 45 (f := .glo "FullBook") rfl)
  x_FullBook := He.exc_ok (c.t.d.fact 46 (f := .exc "FullBook") rfl)
  g_NoOrder := He.glo_ok X G (c.t.d.fact 47 (f := .glo "NoOrder") rfl)
  x_NoOrder := He.exc_ok (c.t.d.fact 48 (f := .exc "NoOrder") rfl)
  g_SameOrder := He.glo_ok X G (c.t.d.fact 49 (f := .glo "SameOrder") rfl)
  x_SameOrder := He.exc_ok (c.t.d.fact 50 (f := .exc "SameOrder") rfl)
  g_NoLine := He.glo_ok X G (c.t.d.fact 51 (f := .glo "NoLine") rfl)
  x_NoLine := He.exc_ok (c.t.d.fact 52 (f := .exc "NoLine") rfl)
  g_TooMuch := He.glo_ok X G (c.t.d.fact 53 (f := .glo "TooMuch") rfl)
  x_TooMuch := He.exc_ok (c.t.d.fact 54 (f := .exc "TooMuch") rfl)
  g_NothingDone := He.glo_ok X G (c.t.d.fact 55 (f := .glo "NothingDone") rfl)
  x_NothingDone := He.exc_ok (c.t.d.fact 56 (f := .exc "NothingDone") rfl)
  e_NoDeed_FlowError := He.exm_ok (c.t.d.fact 57 (f := .exm "NoDeed" "FlowError" true) rfl)
  e_NoLines_FlowError := He.exm_ok (c.t.d.fact 58 (f := .exm "NoLines" "FlowError" true) rfl)
  e_NoItem_FlowError := He.exm_ok (c.t.d.fact 59 (f := .exm "NoItem" "FlowError" true) rfl)
  e_NoNumber_FlowError := He.exm_ok (c.t.d.fact 60 (f := .exm "NoNumber" "FlowError" true) rfl)
  e_FullBook_FlowError := He.exm_ok (c.t.d.fact 61 (f := .exm "FullBook" "FlowError" true) rfl)
  e_NoOrder_FlowError := He.exm_ok (c.t.d.fact 62 (f := .exm "NoOrder" "FlowError" true) rfl)
  e_SameOrder_FlowError := He.exm_ok (c.t.d.fact 63 (f := .exm "SameOrder" "FlowError" true) rfl)
  e_NoLine_FlowError := He.exm_ok (c.t.d.fact 64 (f := .exm "NoLine" "FlowError" true) rfl)
  e_TooMuch_FlowError := He.exm_ok (c.t.d.fact 65 (f := .exm "TooMuch" "FlowError" true) rfl)
  e_NothingDone_FlowError := He.exm_ok (c.t.d.fact 66 (f := .exm "NothingDone" "FlowError" true) rfl)
  e_NoDeed_NoDeed := He.exm_ok (c.t.d.fact 67 (f := .exm "NoDeed" "NoDeed" true) rfl)
  e_NoLines_NoDeed := He.exm_ok (c.t.d.fact 68 (f := .exm "NoLines" "NoDeed" false) rfl)
  e_NoItem_NoDeed := He.exm_ok (c.t.d.fact 69 (f := .exm "NoItem" "NoDeed" false) rfl)
  e_NoNumber_NoDeed := He.exm_ok (c.t.d.fact 70 (f := .exm "NoNumber" "NoDeed" false) rfl)
  e_FullBook_NoDeed := He.exm_ok (c.t.d.fact 71 (f := .exm "FullBook" "NoDeed" false) rfl)
  e_NoOrder_NoDeed := He.exm_ok (c.t.d.fact 72 (f := .exm "NoOrder" "NoDeed" false) rfl)
  e_SameOrder_NoDeed := He.exm_ok (c.t.d.fact 73 (f := .exm "SameOrder" "NoDeed" false) rfl)
  e_NoLine_NoDeed := He.exm_ok (c.t.d.fact 74 (f := .exm "NoLine" "NoDeed" false) rfl)
  e_TooMuch_NoDeed := He.exm_ok (c.t.d.fact 75 (f := .exm "TooMuch" "NoDeed" false) rfl)
  e_NothingDone_NoDeed := He.exm_ok (c.t.d.fact 76 (f := .exm "NothingDone" "NoDeed" false) rfl)
  f_IsItem := by
    obtain ⟨fd, F⟩ := c.t.d.def_ 0 (d := dIsItem) rfl
    exact fdO_of F
  f_NumberIn := by
    obtain ⟨fd, F⟩ := c.t.d.def_ 1 (d := dNumberIn) rfl
    exact fdO_of F
  f_LineIn := by
    obtain ⟨fd, F⟩ := c.t.d.def_ 2 (d := dLineIn) rfl
    exact fdO_of F
  f_Read := by
    obtain ⟨fd, F⟩ := c.t.d.def_ 3 (d := dRead) rfl
    exact fdO_of F
  f_LCellAt := by
    obtain ⟨fd, F⟩ := c.t.d.def_ 4 (d := dLCellAt) rfl
    exact fdO_of F
  f_LWhole := by
    obtain ⟨fd, F⟩ := c.t.d.def_ 5 (d := dLWhole) rfl
    exact fdO_of F
  f_LNumberBy := by
    obtain ⟨fd, F⟩ := c.t.d.def_ 6 (d := dLNumberBy) rfl
    exact fdO_of F
  f_LItemBy := by
    obtain ⟨fd, F⟩ := c.t.d.def_ 7 (d := dLItemBy) rfl
    exact fdO_of F
  f_LAnyDeed := by
    obtain ⟨fd, F⟩ := c.t.d.def_ 8 (d := dLAnyDeed) rfl
    exact fdO_of F
  f_LTextOf := by
    obtain ⟨fd, F⟩ := c.t.d.def_ 9 (d := dLTextOf) rfl
    exact fdO_of F
  f_LNumberIn := by
    obtain ⟨fd, F⟩ := c.t.d.def_ 10 (d := dLNumberIn) rfl
    exact fdO_of F
  f_LLineIn := by
    obtain ⟨fd, F⟩ := c.t.d.def_ 11 (d := dLLineIn) rfl
    exact fdO_of F
  f_LDeedIn := by
    obtain ⟨fd, F⟩ := c.t.d.def_ 12 (d := dLDeedIn) rfl
    exact fdO_of F
  f_LPartsAlike := by
    obtain ⟨fd, F⟩ := c.t.d.def_ 13 (d := dLPartsAlike) rfl
    exact fdO_of F
  f_LDeedAlike := by
    obtain ⟨fd, F⟩ := c.t.d.def_ 14 (d := dLDeedAlike) rfl
    exact fdO_of F
  f_LChangedBy := by
    obtain ⟨fd, F⟩ := c.t.d.def_ 15 (d := dLChangedBy) rfl
    exact fdO_of F
  f_LOddText := by
    obtain ⟨fd, F⟩ := c.t.d.def_ 16 (d := dLOddText) rfl
    exact fdO_of F
  f_LOfOneClass := by
    obtain ⟨fd, F⟩ := c.t.d.def_ 17 (d := dLOfOneClass) rfl
    exact fdO_of F
  f_LRefusedByAny := by
    obtain ⟨fd, F⟩ := c.t.d.def_ 18 (d := dLRefusedByAny) rfl
    exact fdO_of F
  f_Law := by
    obtain ⟨fd, F⟩ := c.t.d.def_ 19 (d := dLaw) rfl
    exact fdO_of F
  kd := by
    have e : ts.map (fun t => He.dicW K (t.1 K)) = ts.map fun t => some (He.keysIn w.params t.2) := congrArg (fun z : He.AlT => z.2) c.t
    have e1 : He.dicW K (He.ga K "PARTS") = some (He.keysIn w.params (parts.map (·.1))) := (List.cons.inj e).1
    exact kd_of e1
  kv := (He.ba c.more).1
  xv := (He.ba c.more).2
theorem room_any {k : Nat} {A : Around} (h : Room k A) : Room k A := h
/-! ### rules of our own over the layer -/
theorem pe_gc {X : Cx} {x : Str} {v : V} {pos : Pos} (hg : Gl X x) (hm : ∃ u, X.mg x = some u ∧ RelV v u) (hd : (x == ("__debug__" : Str)) = false := by decide) : PE X (.Name x pos) (tC v) := by
  obtain ⟨u, h, r⟩ := hm
  exact pe_glob hg h r hd
/-! ### readings from the left: one lemma a form -/
section
variable {σ : L2.St} {H : Hp} {Q : VK} {QB : Bool → Hp → Prop} {D : Ends} {K : PySem.W.Frag}
theorem r_seq {t u : TS} (h : t { D with nx := u D } σ H) : tSeq t u D σ H := h
/-- the ways behind a statement are joined: P holds behind it -/
theorem r_join {t u : TS} (P : L2.St → Hp → Prop) (h2 : ∀ σ' H', P σ' H' → u D σ' H') (h1 : ∀ N : L2.St → Hp → Prop, (∀ σ' H', P σ' H' → N σ' H') → t { D with nx := N } σ H) : tSeq t u D σ H := h1 (u D) h2
/-- a test, by what it tells -/
theorem r_ifj {c : TT} {t u : TS} (P : Bool → Hp → Prop) (h2 : ∀ b H', P b H' → if b = true then t D σ H' else u D σ H') (h1 : ∀ QB' : Bool → Hp → Prop, (∀ b H', P b H' → QB' b H') → c σ H QB') : tIfS c t u D σ H := h1 _ h2
theorem r_asg {te : TE} {i : Nat} (h : te σ H fun x H1 => D.nx (σ.set i (some x)) H1) : tAsg te (gName i) D σ H := h
theorem r_gn {i : Nat} {v : V} {R : L2.St → Hp → Prop} (h : R (σ.set i (some v)) H) : gName i v σ H R := h
theorem r_ret {te : TE} (h : te σ H D.rt) : tRet te D σ H := h
theorem r_retN (h : D.rt .non H) : tRetN D σ H := h
theorem r_drop {te : TE} (h : te σ H fun _ H1 => D.nx σ H1) : tDrop te D σ H := h
theorem r_ifs {c : TT} {t u : TS} (h : c σ H fun b H1 => if b = true then t D σ H1 else u D σ H1) : tIfS c t u D σ H := h
theorem r_next (h : D.nx σ H) : tNext D σ H := h
theorem r_var {i : Nat} {v : V} (e : σ[i]? = some (some v)) (h : Q v H) : tVar i σ H Q := ⟨v, e, h⟩
theorem r_c {v : V} (h : Q v H) : tC v σ H Q := h
theorem r_op {r : R2} {ta tb : TE} (h : ta σ H fun x H1 => tb σ H1 fun y H2 => r x y H2 Q) : tOp r ta tb σ H Q := h
theorem r_un {r : V → Hp → VK → Prop} {ta : TE} (h : ta σ H fun x H1 => r x H1 Q) : tUn r ta σ H Q := h
theorem r_U {g : Int → V} {i : Int} (h : Q (g i) H) : rU g (.int i) H Q := ⟨i, rfl, h⟩
theorem r_I0 {g : Int → Int → V} {i j : Int} (h : Q (g i j) H) : rI0 g (.int i) (.int j) H Q := ⟨i, j, rfl, rfl, h⟩
theorem r_I {C : Int → Int → Prop} {g : Int → Int → V} {i j : Int} (c : C i j) (h : Q (g i j) H) : rI C g (.int i) (.int j) H Q := ⟨i, j, rfl, rfl, c, h⟩
theorem r_eqI {i j : Int} (h : Q (.bl (decide (i = j))) H) : rEq (.int i) (.int j) H Q := by
  refine ⟨rfl, ?_⟩
  have e : decide (V.int i = V.int j) = decide (i = j) := by simp
  rw [e]
  exact h
theorem r_neI {i j : Int} (h : Q (.bl (!decide (i = j))) H) : rNe (.int i) (.int j) H Q := by
  refine ⟨rfl, ?_⟩
  have e : decide (V.int i = V.int j) = decide (i = j) := by simp
  rw [e]
  exact h
theorem r_eqS {i j : Str} (h : Q (.bl (decide (i = j))) H) : rEq (.str i) (.str j) H Q := by
  refine ⟨rfl, ?_⟩
  have e : decide (V.str i = V.str j) = decide (i = j) := by simp
  rw [e]
  exact h
theorem r_neS {i j : Str} (h : Q (.bl (!decide (i = j))) H) : rNe (.str i) (.str j) H Q := by
  refine ⟨rfl, ?_⟩
  have e : decide (V.str i = V.str j) = decide (i = j) := by simp
  rw [e]
  exact h
theorem r_test {t : TE} (h : t σ H fun x H1 => ∃ k, x = V.bl k ∧ QB k H1) : tTest t σ H QB := h
theorem r_tB {t : TE} (h : t σ H fun x H1 => ∃ k, x = V.bl k ∧ QB k H1) : tB t σ H QB := h
theorem r_exb {b : Bool} {P : Bool → Prop} (h : P b) : ∃ k, V.bl b = V.bl k ∧ P k := ⟨b, rfl, h⟩
theorem r_and {t u : TT} (h : t σ H fun c H1 => if c = true then u σ H1 QB else QB false H1) : tAnd t u σ H QB := h
theorem r_or {t u : TT} (h : t σ H fun c H1 => if c = true then QB true H1 else u σ H1 QB) : tOr t u σ H QB := h
theorem r_not {t : TT} (h : t σ H fun c H1 => QB (!c) H1) : tNot t σ H QB := h
theorem r_andV {ta tb : TE} (h : ta σ H fun x H1 => ∃ c, x = V.bl c ∧ if c = true then tb σ H1 Q else Q (.bl false) H1) : tAndV ta tb σ H Q := h
theorem r_orV {ta tb : TE} (h : ta σ H fun x H1 => ∃ c, x = V.bl c ∧ if c = true then Q (.bl true) H1 else tb σ H1 Q) : tOrV ta tb σ H Q := h
theorem r_notV {ta : TE} (h : ta σ H fun x H1 => ∃ c, x = V.bl c ∧ Q (.bl (!c)) H1) : tNotV ta σ H Q := h
theorem r_ifE {t : TT} {ta tb : TE} (h : t σ H fun c H1 => if c = true then ta σ H1 Q else tb σ H1 Q) : tIf t ta tb σ H Q := h
theorem r_nil {QA : List V → Hp → Prop} (h : QA [] H) : tNil σ H QA := h
theorem r_cons {te : TE} {ta : TA} {QA : List V → Hp → Prop} (h : te σ H fun x H1 => ta σ H1 fun xs H2 => QA (x :: xs) H2) : tCons te ta σ H QA := h
theorem r_cb {r : List V → Hp → VK → Prop} {t : TA} (h : t σ H fun vs H1 => r vs H1 Q) : tCB r t σ H Q := h
theorem r_tup {t : TA} (h : t σ H fun xs H1 => xs.length ≤ sizeLine ∧ ∀ p, H1 p = none → Q (.ref p) (upd H1 p (.tup xs))) : tTup t σ H Q := h
theorem r_lst {t : TA} (h : t σ H fun xs H1 => xs.length ≤ sizeLine ∧ ∀ p, H1 p = none → Q (.ref p) (upd H1 p (.lst xs))) : tLst t σ H Q := h
theorem r_mk {xs : List V} {P : Addr → Prop} (hl : xs.length ≤ 100) (h : ∀ p, P p) : xs.length ≤ sizeLine ∧ ∀ p, P p := ⟨Nat.le_trans hl (by rw [sizeLine_eq]; decide), h⟩
theorem r_call {sp : Sp} {E : XK} {t : TA} (h : t σ H fun vs H1 => sp (vs ++ []) H1 Q E) : tCall sp [] E t σ H Q := h
theorem r_callS {sp : Sp} {E : L2.St → XK} {t : TA} (h : t σ H fun vs H1 => sp vs H1 Q (E σ)) : tCallS sp E t σ H Q := h
theorem r_meth {C : Addr} {m : Str} {sp : Sp} {E : XK} {ta : TE} {t : TA} (h : ta σ H fun x H1 => ∃ a dx fs, x = V.ref a ∧ H1 a = some (.ins C dx fs) ∧ fs.lookup m = none ∧ t σ H1 fun vs H2 => sp (x :: (vs ++ [])) H2 Q E) :
    tMeth C m sp [] E ta t σ H Q := h
theorem r_m {C : Addr} {m : Str} {a dx : Addr} {fs : List (Str × V)} {P : Prop} (ho : H a = some (.ins C dx fs)) (hn : fs.lookup m = none) (h : P) : ∃ a' dx' fs', V.ref a = V.ref a' ∧ H a' = some (.ins C dx' fs') ∧ fs'.lookup m = none ∧ P :=
  ⟨a, dx, fs, rfl, ho, hn, h⟩
theorem r_fld {ta : TE} {f : Str} (h : ta σ H fun x H1 => ∃ a C dx fs v, x = V.ref a ∧ H1 a = some (.ins C dx fs) ∧ Cls K C ∧ NoAttr K C f ∧ fs.lookup f = some v ∧ Q v H1) : tFld K ta f σ H Q := h
theorem r_f {f : Str} {a C dx : Addr} {fs : List (Str × V)} {v : V} {P : V → Prop} (ho : H a = some (.ins C dx fs)) (hc : Cls K C) (hn : NoAttr K C f) (hl : fs.lookup f = some v) (h : P v) :
    ∃ a' C' dx' fs' v', V.ref a = V.ref a' ∧ H a' = some (.ins C' dx' fs') ∧ Cls K C' ∧ NoAttr K C' f ∧ fs'.lookup f = some v' ∧ P v' := ⟨a, C, dx, fs, v, rfl, ho, hc, hn, hl, h⟩
theorem r_sfld {ta tv : TE} {f : Str} (h : tv σ H fun y H1 => ta σ H1 fun x H2 => ∃ a C dx fs, x = V.ref a ∧ H2 a = some (.ins C dx fs) ∧ Cls K C ∧ NoAttr K C f ∧ fs.length < 1000 ∧ D.nx σ (upd H2 a (.ins C dx (putF f y fs)))) :
    sFld K ta tv f D σ H := h
theorem r_sf {f : Str} {y : V} {a C dx : Addr} {fs gs : List (Str × V)} {P : Hp → Prop} (ho : H a = some (.ins C dx fs)) (hc : Cls K C) (hn : NoAttr K C f) (hp : putF f y fs = gs) (hl : fs.length ≤ 20) (h : P (upd H a (.ins C dx gs))) :
    ∃ a' C' dx' fs', V.ref a = V.ref a' ∧ H a' = some (.ins C' dx' fs') ∧ Cls K C' ∧ NoAttr K C' f ∧ fs'.length < 1000 ∧ P (upd H a' (.ins C' dx' (putF f y fs'))) :=
  ⟨a, C, dx, fs, rfl, ho, hc, hn, Nat.lt_of_le_of_lt hl (by decide), by rw [hp]; exact h⟩
theorem r_ixT {a : Addr} {xs : List V} {i : Int} {v : V} (h : SqT K H a xs) (e : atI xs i = some v) (q : Q v H) : rIxT K (.ref a) (.int i) H Q := ⟨a, xs, i, v, rfl, rfl, h, e, q⟩
theorem r_ixL {a : Addr} {xs : List V} {i : Int} {v : V} (h : SqL K H a xs) (e : atI xs i = some v) (q : Q v H) : rIxL K (.ref a) (.int i) H Q := ⟨a, xs, i, v, rfl, rfl, h, e, q⟩
theorem r_chain {r r' : R2} {ta tb tc : TE} (h : ta σ H fun x H1 => tb σ H1 fun y H2 => r x y H2 fun z H3 => ∃ k, z = V.bl k ∧ (if k = true then tc σ H3 fun w H4 => r' y w H4 Q else Q (.bl false) H3)) : tChain r r' ta tb tc σ H Q := h
theorem r_itd {p : Prop} [Decidable p] {A B : Prop} (h1 : p → A) (h2 : ¬ p → B) : if decide p = true then A else B := by
  by_cases h : p
  · rw [decide_eq_true h, if_pos rfl]; exact h1 h
  · rw [decide_eq_false h, if_neg (by decide)]; exact h2 h
theorem r_itn {p : Prop} [Decidable p] {A B : Prop} (h1 : ¬ p → A) (h2 : p → B) : if (!decide p) = true then A else B := by
  by_cases h : p
  · rw [decide_eq_true h, if_neg (by decide)]; exact h2 h
  · rw [decide_eq_false h, if_pos (show (!false) = true from rfl)]; exact h1 h
theorem r_itb {b : Bool} {A B : Prop} (h1 : b = true → A) (h2 : b = false → B) : if b = true then A else B := by
  cases b with
  | true => rw [if_pos rfl]; exact h1 rfl
  | false => rw [if_neg (by decide)]; exact h2 rfl
theorem r_ity {p : Prop} [Decidable p] {A B : Prop} (hp : p) (h : A) : if decide p = true then A else B := by
  rw [decide_eq_true hp, if_pos rfl]; exact h
theorem r_itz {p : Prop} [Decidable p] {A B : Prop} (hp : ¬ p) (h : B) : if decide p = true then A else B := by
  rw [decide_eq_false hp, if_neg (by decide)]; exact h
theorem r_itT {A B : Prop} (h : A) : if true = true then A else B := h
theorem r_itF {A B : Prop} (h : B) : if false = true then A else B := by
  rw [if_neg (by decide)]; exact h
theorem r_itnT {A B : Prop} (h : B) : if (!true) = true then A else B := by
  rw [if_neg (by decide)]; exact h
theorem r_itnF {A B : Prop} (h : A) : if (!false) = true then A else B := by
  rw [if_pos (by decide)]; exact h
theorem r_make {C : Addr} {sp : Sp} {E : XK} {t : TA} (h : t σ H fun vs H1 => ∀ x dx, H1 x = none → H1 dx = none → dx ≠ x → sp (.ref x :: (vs ++ [])) (upd (upd H1 dx (.own x)) x (.ins C dx [])) (fun v H2 => v = .non ∧ Q (.ref x) H2) E) : tMake C sp [] E t σ H Q := h
theorem r_bm {T : String} {r : V → List V → Hp → VK → Prop} {to : TE} {t : TA} (h : to σ H fun x H1 => tyV K T x H1 ∧ t σ H1 fun xs H2 => r x xs H2 Q) : tBM K T r to t σ H Q := h
theorem r_tyL {p : Addr} {xs : List V} {P : Prop} (h : SqL K H p xs) (q : P) : tyV K "list" (.ref p) H ∧ P := ⟨.inl ⟨rfl, xs, h⟩, q⟩
theorem r_app {l : Addr} {xs : List V} {y : V} (h : H l = some (.lst xs)) (hz : xs.length < sizeLine) (q : Q .non (upd H l (.lst (xs ++ [y])))) : rAppend (.ref l) [y] H Q := ⟨l, xs, y, rfl, rfl, h, hz, q⟩
theorem r_yes (h : QB true H) : tYes σ H QB := h
theorem r_raise {cls : Value} {W : WX} (h : W cls none σ H) : (fun (_ : Ends) (σ : L2.St) (H : Hp) => (fun (_ : L2.St) (H : Hp) (Q : XK) => Q cls none H) σ H fun cls d H' => W cls d σ H') D σ H := h
end
theorem atI_get {α : Type} {xs : List α} {i : Int} {j : Nat} {v : α} (e : i = (j : Int)) (h : xs[j]? = some v) : atI xs i = some v := by
  subst e
  have hl : j < xs.length := (List.getElem?_eq_some_iff.mp h).1
  unfold atI ixN
  rw [if_pos (by omega), if_pos (by omega)]
  simpa using h
theorem lk_hit {a : Str} {v : V} {r : List (Str × V)} : List.lookup a ((a, v) :: r) = some v := by simp [List.lookup]
theorem lk_miss {a b : Str} {v : V} {r : List (Str × V)} (h : ¬ a = b) : List.lookup a ((b, v) :: r) = List.lookup a r := by
  have e : (a == b) = false := by simpa using h
  simp [List.lookup, e]
theorem pf_hit {a : Str} {v u : V} {r : List (Str × V)} : putF a v ((a, u) :: r) = (a, v) :: r := by
  show (if a = a then (a, v) :: r else _) = _
  rw [if_pos rfl]
theorem pf_miss {a b : Str} {v u : V} {r : List (Str × V)} (h : ¬ b = a) : putF a v ((b, u) :: r) = (b, u) :: putF a v r := by
  show (if b = a then _ else (b, u) :: putF a v r) = _
  rw [if_neg h]
theorem pf_nil {a : Str} {v : V} : putF a v [] = [(a, v)] := rfl
/-- all but S is as it was; tuples always -/
structure But (S : Addr → Prop) (H H' : Hp) : Prop where
  keep : ∀ a o, H a = some o → ¬ S a → H' a = some o
  tup : ∀ a xs, H a = some (.tup xs) → H' a = some (.tup xs)
theorem But.refl {S : Addr → Prop} {H : Hp} : But S H H := ⟨fun _ _ h _ => h, fun _ _ h => h⟩
theorem But.trans {S : Addr → Prop} {H H1 H2 : Hp} (a : But S H H1) (b : But S H1 H2) : But S H H2 := ⟨fun x o h n => b.keep x o (a.keep x o h n) n, fun x o h => b.tup x o (a.tup x o h)⟩
theorem But.of {S : Addr → Prop} {H H' : Hp} (h : Same H H') : But S H H' := ⟨fun x o e _ => h x o e, fun x o e => h x _ e⟩
theorem But.mono {S S' : Addr → Prop} {H H' : Hp} (h : But S H H') (m : ∀ a, S a → S' a) : But S' H H' := ⟨fun x o e n => h.keep x o e fun z => n (m x z), h.tup⟩
theorem But.ins {S : Addr → Prop} {H : Hp} {a C dx : Addr} {fs : List (Str × V)} {o : HO} (ha : H a = some (.ins C dx fs)) (h : S a) : But S H (L2.upd H a o) :=
  ⟨fun x u e n => by rw [upd_ne (fun z => n (by rw [z]; exact h))]; exact e, fun x u e => by rw [upd_ne (ne_of e ha (by intro q; cases q))]; exact e⟩
theorem But.lst {S : Addr → Prop} {H : Hp} {a : Addr} {xs : List V} {o : HO} (ha : H a = some (.lst xs)) (h : S a) : But S H (L2.upd H a o) :=
  ⟨fun x u e n => by rw [upd_ne (fun z => n (by rw [z]; exact h))]; exact e, fun x u e => by rw [upd_ne (ne_of e ha (by intro q; cases q))]; exact e⟩
theorem same_upd {H : Hp} {a : Addr} {o : HO} (h : H a = none) : Same H (L2.upd H a o) := fun x u e => by
  rw [upd_ne (ne_of_none e h)]; exact e
/-- a new address may change -/
theorem But.new {S : Addr → Prop} {H H1 : Hp} {a : Addr} {o : HO} (b : But S H H1) (h : H a = none) : But S H (L2.upd H1 a o) :=
  ⟨fun x u e n => by rw [upd_ne (ne_of_none e h)]; exact b.keep x u e n, fun x u e => by rw [upd_ne (ne_of_none e h)]; exact b.tup x u e⟩
theorem But.same {H H' : Hp} (h : But (fun _ => False) H H') : Same H H' := fun x o e => h.keep x o e id
theorem But.mut {S S' : Addr → Prop} {H H1 H2 : Hp} (b : But S H H1) (c : But S' H1 H2) (m : ∀ a, S' a → S a ∨ H a = none) : But S H H2 :=
  ⟨fun x u e n => c.keep x u (b.keep x u e n) fun z => (m x z).elim n fun q => (by rw [q] at e; cases e), fun x u e => c.tup x u (b.tup x u e)⟩
theorem sz5 {n : Nat} (h : n ≤ 100000) : n ≤ sizeLine := Nat.le_trans h (by rw [sizeLine_eq]; decide)
theorem sz5l {n : Nat} (h : n < 100000) : n < sizeLine := Nat.lt_of_lt_of_le h (by rw [sizeLine_eq]; decide)
/-! ### comprehensions -/
theorem wipe1 {σ : L2.St} {j : Nat} {x : V} : wipe ((wipe σ [j]).set j (some x)) [j] = wipe σ [j] := by
  show ((σ.set j none).set j (some x)).set j none = σ.set j none
  simp
theorem take_snoc {α : Type} : ∀ {l : List α} {i : Nat} {x : α}, l[i]? = some x → l.take (i + 1) = l.take i ++ [x]
  | [], i, x, h => by simp at h
  | a :: l, 0, x, h => by
    have e : a = x := Option.some.inj h
    subst e
    rfl
  | a :: l, i + 1, x, h => by
    have ih := take_snoc (l := l) (i := i) (x := x) h
    show a :: l.take (i + 1) = a :: l.take i ++ [x]
    rw [ih]
    rfl
/-- what a comprehension's walk asks -/
def Lcs (J : It) (g : TG) (tt : TT) (te : TE) (vs : List Nat) (σ : L2.St) (H1 : Hp) (Q : VK) : Prop := ∀ D, H1 D = none → ∃ W : Nat → Nat → Hp → Prop, (∃ m, W 0 m (L2.upd H1 D (.lst []))) ∧ ∀ i m H, W i m H →
  (J.stop i H ∧ Q (.ref D) H) ∨ (J.go i H ∧ ∃ Nx : Hp → Prop, (∀ H', Nx H' → ∃ m', m' < m ∧ W (i + 1) m' H') ∧ ∀ x H', J.yld i H x H' → g x (wipe σ vs) H' fun σ2 H2 => wipe σ2 vs = wipe σ vs ∧ tt σ2 H2 fun b H3 =>
    if b = true then te σ2 H3 fun y H4 => ∃ acc, H4 D = some (.lst acc) ∧ acc.length < sizeLine ∧ Nx (L2.upd H4 D (.lst (acc ++ [y]))) else Nx H3)
theorem r_lcl {K : PySem.W.Frag} {tl te : TE} {g : TG} {tt : TT} {vs : List Nat} {σ : L2.St} {H : Hp} {Q : VK} (h : tl σ H fun x H1 => ∃ a, x = V.ref a ∧ (∃ xs, SqL K H1 a xs) ∧ Lcs (Itl K a) g tt te vs σ H1 Q) : tLc (iList K tl) g tt te vs σ H Q := h
theorem r_lct {K : PySem.W.Frag} {tl te : TE} {g : TG} {tt : TT} {vs : List Nat} {σ : L2.St} {H : Hp} {Q : VK} (h : tl σ H fun x H1 => ∃ a, x = V.ref a ∧ (∃ xs, SqT K H1 a xs) ∧ Lcs (Itt K a) g tt te vs σ H1 Q) : tLc (iTup K tl) g tt te vs σ H Q := h
theorem r_lcr {ta : TA} {te : TE} {g : TG} {tt : TT} {vs : List Nat} {σ : L2.St} {H : Hp} {Q : VK} (h : ta σ H fun us H1 => ∃ j : Int, us = [V.int j] ∧ -(2 ^ 62) ≤ j ∧ j < 2 ^ 62 ∧ Lcs (Itr 0 j.toNat) g tt te vs σ H1 Q) : tLc (iRng1 ta) g tt te vs σ H Q := h
/-- a comprehension whose elements leave what stands: by the list of its values -/
theorem lcp_list {K : PySem.W.Frag} {te : TE} {j : Nat} {σ : L2.St} {H1 : Hp} {Q : VK} {a : Addr} {xs ys : List V} (hs : SqL K H1 a xs) (hl : ys.length = xs.length) (hz : xs.length ≤ 100000)
    (he : ∀ (i : Nat) (x y : V) (H' : Hp) (R : VK), xs[i]? = some x → ys[i]? = some y → Same H1 H' → (∀ H'', Same H' H'' → R y H'') → te ((wipe σ [j]).set j (some x)) H' R)
    (k : ∀ (D : Addr) (H' : Hp), H1 D = none → Same H1 H' → H' D = some (.lst ys) → Q (.ref D) H') : ∃ a', V.ref a = V.ref a' ∧ (∃ xs, SqL K H1 a' xs) ∧ Lcs (Itl K a') (gName j) tYes te [j] σ H1 Q := by
  refine ⟨a, rfl, ⟨xs, hs⟩, fun D hD => ?_⟩
  refine lc_list (K := K) (a := a) (xs := xs) (fun i H' => Same H1 H' ∧ H' D = some (.lst (ys.take i))) ⟨same_upd hD, upd_same⟩ (fun i H' _ p => p.1.seq hs) ?_ ?_
  · rintro i x H' hi ⟨s, e⟩
    have hi2 : i < ys.length := by rw [hl]; exact (List.getElem?_eq_some_iff.mp hi).1
    have ey : ys[i]? = some ys[i] := List.getElem?_eq_getElem hi2
    refine ⟨wipe1, r_yes (r_itT ?_)⟩
    refine he i x _ H' _ hi ey s fun H'' s2 => ⟨_, s2 _ _ e, ?_, ?_, ?_⟩
    · refine sz5l ?_
      rw [List.length_take]
      omega
    · exact fun b o q => by
        rw [upd_ne (ne_of_none q hD)]
        exact s2 _ _ (s _ _ q)
    · rw [upd_same, take_snoc ey]
  · rintro H' ⟨s, e⟩
    refine k D H' hD s ?_
    rw [e, List.take_of_length_le (by omega)]
/-- .. whose elements are told by a relation that leans on tuples alone -/
theorem lcp_rel {K : PySem.W.Frag} {te : TE} {j : Nat} {σ : L2.St} {H1 : Hp} {Q : VK} {a : Addr} {xs : List V} {α : Type} {R : Hp → V → α → Prop} {zs : List α} (hs : SqL K H1 a xs) (hl : zs.length = xs.length) (hz : xs.length ≤ 100000)
    (stab : ∀ H H' v z, R H v z → (∀ b ys, H b = some (.tup ys) → H' b = some (.tup ys)) → R H' v z)
    (he : ∀ (i : Nat) (x : V) (z : α) (H' : Hp) (W : VK), xs[i]? = some x → zs[i]? = some z → Same H1 H' → (∀ y H'', Same H' H'' → R H'' y z → W y H'') → te ((wipe σ [j]).set j (some x)) H' W)
    (k : ∀ (D : Addr) (H' : Hp) (acc : List V), H1 D = none → Same H1 H' → H' D = some (.lst acc) → Paired (R H') acc zs → Q (.ref D) H') : ∃ a', V.ref a = V.ref a' ∧ (∃ xs, SqL K H1 a' xs) ∧ Lcs (Itl K a') (gName j) tYes te [j] σ H1 Q := by
  refine ⟨a, rfl, ⟨xs, hs⟩, fun D hD => ?_⟩
  refine lc_list (K := K) (a := a) (xs := xs) (fun i H' => Same H1 H' ∧ ∃ acc, H' D = some (.lst acc) ∧ Paired (R H') acc (zs.take i)) ⟨same_upd hD, [], upd_same, .nil⟩ (fun i H' _ p => p.1.seq hs) ?_ ?_
  · rintro i x H' hi ⟨s, acc, e, pr⟩
    have hi1 : i < xs.length := (List.getElem?_eq_some_iff.mp hi).1
    have hi2 : i < zs.length := by rw [hl]; exact hi1
    have ez : zs[i]? = some zs[i] := List.getElem?_eq_getElem hi2
    refine ⟨wipe1, r_yes (r_itT ?_)⟩
    refine he i x _ H' _ hi ez s fun y H'' s2 r => ⟨acc, s2 _ _ e, ?_, ?_, acc ++ [y], upd_same, ?_⟩
    · have := pr.length
      rw [List.length_take] at this
      refine sz5l ?_
      omega
    · exact fun b o q => by
        rw [upd_ne (ne_of_none q hD)]
        exact s2 _ _ (s _ _ q)
    · have up : ∀ b ys, H'' b = some (.tup ys) → L2.upd H'' D (.lst (acc ++ [y])) b = some (.tup ys) := fun b ys q => by
        rw [upd_ne (ne_of q (s2 _ _ e) (by intro z; cases z))]
        exact q
      rw [take_snoc ez]
      exact Paired.snoc (Paired.mapP pr fun _ _ q => stab _ _ _ _ q fun b ys w => up b ys (s2 _ _ w)) (stab _ _ _ _ r up)
  · rintro H' ⟨s, acc, e, pr⟩
    rw [List.take_of_length_le (by omega)] at pr
    exact k D H' acc hD s e pr
/-- .. over a range -/
theorem lcp_range {te : TE} {j : Nat} {σ : L2.St} {H1 : Hp} {Q : VK} {n : Int} {ys : List V} (hl : ys.length = n.toNat) (hz : n ≤ 100000) (hn : -100000 ≤ n)
    (he : ∀ (i : Nat) (y : V) (H' : Hp) (R : VK), ys[i]? = some y → Same H1 H' → (∀ H'', Same H' H'' → R y H'') → te ((wipe σ [j]).set j (some (.int (i : Int)))) H' R)
    (k : ∀ (D : Addr) (H' : Hp), H1 D = none → Same H1 H' → H' D = some (.lst ys) → Q (.ref D) H') : ∃ m : Int, [V.int n] = [V.int m] ∧ -(2 ^ 62) ≤ m ∧ m < 2 ^ 62 ∧ Lcs (Itr 0 m.toNat) (gName j) tYes te [j] σ H1 Q := by
  refine ⟨n, rfl, by omega, by omega, fun D hD => ?_⟩
  refine lc_range (lo := 0) (n := n.toNat) (fun i H' => Same H1 H' ∧ H' D = some (.lst (ys.take i))) ⟨same_upd hD, upd_same⟩ ?_ ?_
  · rintro i H' hi ⟨s, e⟩
    have hi2 : i < ys.length := by rw [hl]; exact hi
    have ey : ys[i]? = some ys[i] := List.getElem?_eq_getElem hi2
    refine ⟨wipe1, r_yes (r_itT ?_)⟩
    rw [Int.zero_add]
    refine he i _ H' _ ey s fun H'' s2 => ⟨_, s2 _ _ e, ?_, ?_, ?_⟩
    · refine sz5l ?_
      rw [List.length_take]
      omega
    · exact fun b o q => by
        rw [upd_ne (ne_of_none q hD)]
        exact s2 _ _ (s _ _ q)
    · rw [upd_same, take_snoc ey]
  · rintro H' ⟨s, e⟩
    refine k D H' hD s ?_
    rw [e, List.take_of_length_le (by omega)]
/-! ### what a for's walk asks -/
def Fors (J : It) (g : TG) (tb : TS) (D : Ends) (σ : L2.St) (H1 : Hp) : Prop := ∃ W : Nat → Nat → L2.St → Hp → Prop, (∃ m, W 0 m σ H1) ∧ ∀ i m σ H, W i m σ H →
  (J.stop i H ∧ D.nx σ H) ∨ (J.go i H ∧ ∃ N : L2.St → Hp → Prop, (∀ σ' H', N σ' H' → ∃ m', m' < m ∧ W (i + 1) m' σ' H') ∧ ∀ x H', J.yld i H x H' → g x σ H' fun σ2 H2 => tb { D with nx := N, ct := N, bk := D.nx } σ2 H2)
theorem r_forl {K : PySem.W.Frag} {tl : TE} {g : TG} {tb : TS} {D : Ends} {σ : L2.St} {H : Hp} (h : tl σ H fun x H1 => ∃ a, x = V.ref a ∧ (∃ xs, SqL K H1 a xs) ∧ Fors (Itl K a) g tb D σ H1) : tFor (iList K tl) g tb D σ H := h
theorem r_fort {K : PySem.W.Frag} {tl : TE} {g : TG} {tb : TS} {D : Ends} {σ : L2.St} {H : Hp} (h : tl σ H fun x H1 => ∃ a, x = V.ref a ∧ (∃ xs, SqT K H1 a xs) ∧ Fors (Itt K a) g tb D σ H1) : tFor (iTup K tl) g tb D σ H := h
theorem r_fors {te : TE} {g : TG} {tb : TS} {D : Ends} {σ : L2.St} {H : Hp} (h : te σ H fun v H1 => ∃ x, v = V.str x ∧ Fors (Its x) g tb D σ H1) : tFor (iStr te) g tb D σ H := h
theorem r_forr {ta : TA} {g : TG} {tb : TS} {D : Ends} {σ : L2.St} {H : Hp} (h : ta σ H fun us H1 => ∃ j : Int, us = [V.int j] ∧ -(2 ^ 62) ≤ j ∧ j < 2 ^ 62 ∧ Fors (Itr 0 j.toNat) g tb D σ H1) : tFor (iRng1 ta) g tb D σ H := h
theorem r_forr2 {ta : TA} {g : TG} {tb : TS} {D : Ends} {σ : L2.St} {H : Hp} (h : ta σ H fun us H1 => ∃ i j : Int, us = [V.int i, V.int j] ∧ (-(2 ^ 62) ≤ i ∧ i < 2 ^ 62 ∧ -(2 ^ 62) ≤ j ∧ j < 2 ^ 62) ∧ Fors (Itr i (j - i).toNat) g tb D σ H1) : tFor (iRng2 ta) g tb D σ H := h
theorem pf_m {a b : Str} {v u : V} {r s : List (Str × V)} (h : ¬ b = a) (e : putF a v r = s) : putF a v ((b, u) :: r) = (b, u) :: s := by
  rw [pf_miss h, e]
theorem lk_m {a b : Str} {v u : V} {r : List (Str × V)} (h : ¬ a = b) (e : List.lookup a r = some u) : List.lookup a ((b, v) :: r) = some u := (lk_miss h).trans e
theorem lk_n {a b : Str} {v : V} {r : List (Str × V)} (h : ¬ a = b) (e : List.lookup a r = none) : List.lookup a ((b, v) :: r) = none := (lk_miss h).trans e
/-! ### the data of the program -/
structure Ln where
  item : Str
  ordered : Int
  cents : Int
  pack : Int
  sent : Int
  home : Int
  again : Int
  credited : Int
def lnF (l : Ln) : List (Str × V) := [("item", .str l.item), ("ordered", .int l.ordered), ("cents", .int l.cents), ("pack", .int l.pack), ("sent", .int l.sent), ("home", .int l.home), ("again", .int l.again), ("credited", .int l.credited)]
def odF (ll : Addr) (m : Int) (lm : Addr) : List (Str × V) := [("lines", .ref ll), ("money", .int m), ("marks", .ref lm)]
def bkF (e t : Addr) : List (Str × V) := [("each", .ref e), ("trail", .ref t)]
/-! ### a method that may raise, called in a try -/
def tMX (C : Addr) (m : Str) (sp : Sp) (E : L2.St → XK) (ta : TE) (t : TA) : TE := fun σ H Q => ta σ H fun x H1 => ∃ a dx fs, x = V.ref a ∧ H1 a = some (.ins C dx fs) ∧ fs.lookup m = none ∧ t σ H1 fun vs H2 => sp (x :: vs) H2 Q (E σ)
theorem pe_mX {X : Cx} {CX : CXT} {k : Nat} {f C : Addr} {fd : FuncData} {ps : List Str} {sp : Sp} {E : L2.St → XK} {m : Str} {pos apos : Pos} {e o : Expr} {es : List Expr} {ta : TE} {t : TA} {pl : Sem Bool}
    (ho : PE X o ta) (hc : Cls X.K C) (hm : Meth X.K C m f) (G : FnOk X.prog X.w X.K X.mg X.base CX k f fd ps sp) (room : Room k X.A) (bd : Binds X.K fd ps []) (pass : ∀ σ, PassesAt CX X σ (E σ)) (hargs : PA X (e :: es) t)
    (hstar : starEach (e :: es) X.env = (false, eval e X.env) :: starEach es X.env := by rfl) (hplain : (backTo pos (starEach es X.env)).any (·.1) = false := by rfl)
    (hform : eval (.Call (.Attribute o m apos) (e :: es) [] pos) X.env = (do let ov ← eval o X.env; standAt apos.atName; let (f, first) ← holding [ov] (getMethod ov m pl); callWith pos f first (backTo pos (starEach (e :: es) X.env)) (backToKw pos (keywordEach [] X.env))) := by rfl) :
    PE X (.Call (.Attribute o m apos) (e :: es) [] pos) (tMX C m sp E ta t) := by
  refine ⟨fun pins st σ H Q inv hq => ?_⟩
  refine PySem.W.methodCall_KW (pl := pl) (thn (ho.run pins st σ H _ inv hq) fun u st1 hu => ?_) hform
  obtain ⟨x, H1, inv1, rx, a, dx, fs, ex, ea, hl, q⟩ := hu
  subst ex
  obtain rfl : u = Value.ref a := rx
  refine getmeth_ok inv1 ea hc hm hl ?_
  refine PySem.W.callWith_K (first := [.ref a]) (h₀ := X.base) inv1.ok.mod.kin hm.kp (thn (hargs.run pos pins st1 σ H1 _ inv1 q) fun us st2 hv => ?_) hstar hplain
  obtain ⟨vs, H2, inv2, rv, q2⟩ := hv
  exact ⟨inv2.kIn, run_fnS (us := .ref a :: us) (vs := .ref a :: vs) G room bd (pass σ) inv2 (.cons rfl rv) q2⟩
theorem pe_mX0 {X : Cx} {CX : CXT} {k : Nat} {f C : Addr} {fd : FuncData} {ps : List Str} {sp : Sp} {E : L2.St → XK} {m : Str} {pos apos : Pos} {o : Expr} {ta : TE} {pl : Sem Bool}
    (ho : PE X o ta) (hc : Cls X.K C) (hm : Meth X.K C m f) (G : FnOk X.prog X.w X.K X.mg X.base CX k f fd ps sp) (room : Room k X.A) (bd : Binds X.K fd ps []) (pass : ∀ σ, PassesAt CX X σ (E σ))
    (hform : eval (.Call (.Attribute o m apos) [] [] pos) X.env = (do let ov ← eval o X.env; standAt apos.atName; let (f, first) ← holding [ov] (getMethod ov m pl); callWith pos f first (backTo pos (starEach [] X.env)) (backToKw pos (keywordEach [] X.env))) := by rfl) :
    PE X (.Call (.Attribute o m apos) [] [] pos) (tMX C m sp E ta tNil) := by
  refine ⟨fun pins st σ H Q inv hq => ?_⟩
  refine PySem.W.methodCall_KW (pl := pl) (thn (ho.run pins st σ H _ inv hq) fun u st1 hu => ?_) hform
  obtain ⟨x, H1, inv1, rx, a, dx, fs, ex, ea, hl, q⟩ := hu
  subst ex
  obtain rfl : u = Value.ref a := rx
  refine getmeth_ok inv1 ea hc hm hl ?_
  exact PySem.W.callWith_K0 (first := [.ref a]) inv1.kIn hm.kp (run_fnS (us := [.ref a]) (vs := [.ref a]) G room bd (pass σ) inv1 (.cons rfl .nil) q)
section
variable {σ : L2.St} {H : Hp} {Q : VK} {QB : Bool → Hp → Prop} {D : Ends} {K : PySem.W.Frag}
theorem r_mx {C : Addr} {m : Str} {sp : Sp} {E : L2.St → XK} {ta : TE} {t : TA} (h : ta σ H fun x H1 => ∃ a dx fs, x = V.ref a ∧ H1 a = some (.ins C dx fs) ∧ fs.lookup m = none ∧ t σ H1 fun vs H2 => sp (x :: vs) H2 Q (E σ)) : tMX C m sp E ta t σ H Q := h
/-! ### slices, stores, kinds -/
theorem r_sl {r : V → Option Int → Option Int → Hp → VK → Prop} {te : TE} {tl th : TO} (h : te σ H fun x H1 => tl σ H1 fun l H2 => th σ H2 fun u H3 => r x l u H3 Q) : tSl r te tl th σ H Q := h
theorem r_part {te : TE} {QO : Option Int → Hp → Prop} (h : te σ H fun x H1 => ∃ i, x = V.int i ∧ QO (some i) H1) : tPart te σ H QO := h
theorem r_nopart {QO : Option Int → Hp → Prop} (h : QO none H) : tNoPart σ H QO := h
theorem r_exi {i : Int} {P : Int → Prop} (h : P i) : ∃ j, V.int i = V.int j ∧ P j := ⟨i, rfl, h⟩
theorem r_sll {a : Addr} {xs : List V} {lo hi : Option Int} (hs : SqL K H a xs) (k : ∀ p, H p = none → Q (.ref p) (upd H p (.lst (cutV xs lo hi)))) : rSlL K (.ref a) lo hi H Q := ⟨a, xs, rfl, hs, k⟩
theorem r_asgS {te to ti : TE} (h : te σ H fun x H1 => to σ H1 fun o H2 => ti σ H2 fun i H3 => rSetL o i x H3 fun H4 => D.nx σ H4) : tAsg te (gSub to ti rSetL) D σ H := h
theorem r_setL {p : Addr} {xs : List V} {i : Int} {j : Nat} {v : V} {R : Hp → Prop} (h : H p = some (.lst xs)) (e : i = (j : Int)) (hj : j < xs.length) (q : R (upd H p (.lst (xs.set j v)))) : rSetL (.ref p) (.int i) v H R :=
  ⟨p, xs, i, j, rfl, rfl, h, by unfold ixN; rw [e, if_pos (by omega), if_pos (by omega)]; simp, q⟩
theorem r_isi {x : V} {t : Value} {n : String} {b : Bool} (ty : TyOf K H x t) (hk : PySem.W.kitOne K t (.type n) = some b) (q : Q (.bl b) H) : rIsi K [x, .ty n] H Q := ⟨x, .ty n, t, .type n, b, rfl, .ty n, .base ty, hk, q⟩
theorem r_is_int_int {i : Int} (q : Q (.bl true) H) : rIsi K [.int i, .ty "int"] H Q := r_isi (.int i) (kit_ty (by decide +kernel)) q
theorem r_is_int_bool {i : Int} (q : Q (.bl false) H) : rIsi K [.int i, .ty "bool"] H Q := r_isi (.int i) (kit_ty (by decide +kernel)) q
theorem r_is_int_str {i : Int} (q : Q (.bl false) H) : rIsi K [.int i, .ty "str"] H Q := r_isi (.int i) (kit_ty (by decide +kernel)) q
theorem r_is_str_str {i : Str} (q : Q (.bl true) H) : rIsi K [.str i, .ty "str"] H Q := r_isi (.str i) (kit_ty (by decide +kernel)) q
theorem r_is_str_int {i : Str} (q : Q (.bl false) H) : rIsi K [.str i, .ty "int"] H Q := r_isi (.str i) (kit_ty (by decide +kernel)) q
theorem r_is_str_list {i : Str} (q : Q (.bl false) H) : rIsi K [.str i, .ty "list"] H Q := r_isi (.str i) (kit_ty (by decide +kernel)) q
theorem r_is_lst_list {a : Addr} {xs : List V} (h : H a = some (.lst xs)) (q : Q (.bl true) H) : rIsi K [.ref a, .ty "list"] H Q := r_isi (.lst h) (kit_ty (by decide +kernel)) q
theorem r_is_lst_str {a : Addr} {xs : List V} (h : H a = some (.lst xs)) (q : Q (.bl false) H) : rIsi K [.ref a, .ty "str"] H Q := r_isi (.lst h) (kit_ty (by decide +kernel)) q
theorem r_is_tup_tuple {a : Addr} {xs : List V} (h : H a = some (.tup xs)) (q : Q (.bl true) H) : rIsi K [.ref a, .ty "tuple"] H Q := r_isi (.tup h) (kit_ty (by decide +kernel)) q
end
theorem cut_from {xs : List V} {k : Nat} : cutV xs (some (k : Int)) none = xs.drop k := by
  unfold cutV
  rw [HT.sIx_nat, HT.sIx_none]
  by_cases h : k ≤ xs.length
  · rw [Nat.min_eq_left h, List.take_of_length_le (by simp)]
  · rw [Nat.min_eq_right (by omega), List.drop_of_length_le (Nat.le_refl _), List.drop_of_length_le (by omega)]
    simp

/-! ### readings with the kernel's own name (in a comprehension's block) -/
section
variable {X : Cx} {K : PySem.W.Frag}
theorem ix_listK (e : X.K = K) : IxR X (rIxL K) := by subst e; exact ix_list
theorem ix_tupK (e : X.K = K) : IxR X (rIxT K) := by subst e; exact ix_tup
theorem op_eqDK (e : X.K = K) (hu : X.A.units + 64 < cLine) : OpR X (compareOp .Eq) (rEqD K) := by subst e; exact op_eqD hu
theorem op_neDK (e : X.K = K) (hu : X.A.units + 64 < cLine) : OpR X (compareOp .NotEq) (rNeD K) := by subst e; exact op_neD hu
theorem call_lenK (e : X.K = K) : CallR X (.builtin "len") (fun xs H Q => ∃ p ys, xs = [.ref p] ∧ (SqL K H p ys ∨ SqT K H p ys) ∧ Q (.int ys.length) H) := by subst e; exact call_len_seq
theorem call_listK (e : X.K = K) : CallR X (.type "list") (fun xs H Q => ∃ p ys, xs = [.ref p] ∧ (SqL K H p ys ∨ SqT K H p ys) ∧ ∀ l, H l = none → Q (.ref l) (upd H l (.lst ys))) := by subst e; exact call_list_of
theorem fldK {E : Expr} {ta : TE} {f : Str} (e : X.K = K) (h : PE X E (tFld X.K ta f)) : PE X E (tFld K ta f) := by subst e; exact h
theorem bmK {E : Expr} {T : String} {r : V → List V → Hp → VK → Prop} {to : TE} {t : TA} (e : X.K = K) (h : PE X E (tBM X.K T r to t)) : PE X E (tBM K T r to t) := by subst e; exact h
end
/-! ### data that is compared -/
def dOf : V → PyData
  | .non => .none
  | .bl b => .bool b
  | .int i => .int i
  | .str z => .str z
  | _ => .none
/-- an int, or a text -/
def Sc (v : V) : Prop := (∃ i, v = .int i) ∨ ∃ z, v = .str z ∧ PyData.strOk z = true
theorem Sc.int {i : Int} : Sc (.int i) := .inl ⟨i, rfl⟩
theorem Sc.dp {K : PySem.W.Frag} {H : Hp} {v : V} (h : Sc v) : Dp K H v (dOf v) := by
  rcases h with ⟨i, rfl⟩ | ⟨z, rfl, _⟩
  · exact .int i
  · exact .str z
theorem Sc.lay {v : V} (h : Sc v) : PyData.canLay0 (dOf v) = true ∧ PyData.depth (dOf v) = 0 := by
  rcases h with ⟨i, rfl⟩ | ⟨z, rfl, hz⟩
  · exact ⟨by simp only [dOf, PyData.canLay0], by simp only [dOf, PyData.depth]⟩
  · exact ⟨by simp only [dOf, PyData.canLay0]; exact hz, by simp only [dOf, PyData.depth]⟩
theorem Sc.eqv {v u : V} (h : Sc v) (g : Sc u) : PyData.eqv (dOf v) (dOf u) = decide (v = u) := by
  rcases h with ⟨i, rfl⟩ | ⟨z, rfl, _⟩ <;> rcases g with ⟨j, rfl⟩ | ⟨y, rfl, _⟩
  · simp [dOf, PyData.eqv, Bool.beq_eq_decide_eq]
  · simp [dOf, PyData.eqv]
  · simp [dOf, PyData.eqv]
  · simp [dOf, PyData.eqv, Bool.beq_eq_decide_eq]
def Scs (vs : List V) : Prop := ∀ v, v ∈ vs → Sc v
theorem Scs.nil : Scs [] := fun _ h => by cases h
theorem Scs.cons {v : V} {vs : List V} (h : Sc v) (g : Scs vs) : Scs (v :: vs) := fun u hu => by
  rcases List.mem_cons.mp hu with e | e
  · rw [e]; exact h
  · exact g u e
theorem Scs.dp {K : PySem.W.Frag} {H : Hp} : ∀ {vs : List V}, Scs vs → DpAll K H vs (vs.map dOf)
  | [], _ => .nil
  | v :: vs, h => .cons (h v List.mem_cons_self).dp (Scs.dp fun u hu => h u (List.mem_cons_of_mem _ hu))
theorem Scs.lay : ∀ {vs : List V}, Scs vs → PyData.canLayAll0 (vs.map dOf) = true ∧ PyData.depthAll (vs.map dOf) = 0
  | [], _ => ⟨by simp only [List.map_nil, PyData.canLayAll0], by simp only [List.map_nil, PyData.depthAll]⟩
  | v :: vs, h => by
    obtain ⟨a, b⟩ := (h v List.mem_cons_self).lay
    obtain ⟨c, d⟩ := Scs.lay (vs := vs) fun u hu => h u (List.mem_cons_of_mem _ hu)
    refine ⟨?_, ?_⟩
    · simp only [List.map_cons, PyData.canLayAll0, a, c, Bool.and_self]
    · simp only [List.map_cons, PyData.depthAll, b, d]; rfl
theorem Scs.eqv : ∀ {vs us : List V}, Scs vs → Scs us → PyData.eqvAll (vs.map dOf) (us.map dOf) = decide (vs = us)
  | [], [], _, _ => by simp [PyData.eqvAll]
  | [], u :: us, _, _ => by simp [PyData.eqvAll]
  | v :: vs, [], _, _ => by simp [PyData.eqvAll]
  | v :: vs, u :: us, h, g => by
    have ih := Scs.eqv (vs := vs) (us := us) (fun u hu => h u (List.mem_cons_of_mem _ hu)) fun u hu => g u (List.mem_cons_of_mem _ hu)
    simp only [List.map_cons, PyData.eqvAll, ih, (h v List.mem_cons_self).eqv (g u List.mem_cons_self)]
    simp
/-- a tuple of such -/
def dTup (r : List V) : PyData := .tuple (r.map dOf)
theorem dTup_dp {K : PySem.W.Frag} {H : Hp} {a : Addr} {r : List V} (h : SqT K H a r) (s : Scs r) : Dp K H (.ref a) (dTup r) := .tup h s.dp
theorem dTup_lay {r : List V} (s : Scs r) : PyData.canLay0 (dTup r) = true ∧ PyData.depth (dTup r) = 1 := by
  obtain ⟨a, b⟩ := s.lay
  exact ⟨by simp only [dTup, PyData.canLay0]; exact a, by simp only [dTup, PyData.depth, b]⟩
theorem dTup_shaped {r : List V} (s : Scs r) : SeqAt.shaped (dTup r) = true := by
  obtain ⟨a, b⟩ := dTup_lay s
  unfold SeqAt.shaped
  rw [a, b]
  rfl
theorem dTup_eqv {r q : List V} (s : Scs r) (t : Scs q) : PyData.eqv (dTup r) (dTup q) = decide (r = q) := by
  show PyData.eqv (.tuple _) (.tuple _) = _
  simp only [PyData.eqv]
  exact s.eqv t
/-- a list of such tuples -/
def dRows (rs : List (List V)) : PyData := .list (rs.map dTup)
def TupAt (H : Hp) (v : V) (r : List V) : Prop := ∃ t, v = .ref t ∧ H t = some (.tup r)
def Rws (rs : List (List V)) : Prop := ∀ r, r ∈ rs → Scs r
theorem dRows_all {K : PySem.W.Frag} {H : Hp} : ∀ {xs : List V} {rs : List (List V)}, Paired (TupAt H) xs rs → Rws rs → DpAll K H xs (rs.map dTup)
  | _, _, .nil, _ => .nil
  | _, _, .cons ⟨t, e, h⟩ r, s => by
    subst e
    exact .cons (dTup_dp (SqT.of h) (s _ List.mem_cons_self)) (dRows_all r fun q hq => s q (List.mem_cons_of_mem _ hq))
theorem dRows_dp {K : PySem.W.Frag} {H : Hp} {a : Addr} {xs : List V} {rs : List (List V)} (h : SqL K H a xs) (p : Paired (TupAt H) xs rs) (s : Rws rs) : Dp K H (.ref a) (dRows rs) := .lst h (dRows_all p s)
theorem dRows_lay0 : ∀ {rs : List (List V)}, Rws rs → PyData.canLayAll0 (rs.map dTup) = true ∧ PyData.depthAll (rs.map dTup) ≤ 1
  | [], _ => ⟨by simp only [List.map_nil, PyData.canLayAll0], by simp only [List.map_nil, PyData.depthAll]; omega⟩
  | r :: rs, h => by
    obtain ⟨a, b⟩ := dTup_lay (h r List.mem_cons_self)
    obtain ⟨c, d⟩ := dRows_lay0 (rs := rs) fun u hu => h u (List.mem_cons_of_mem _ hu)
    refine ⟨?_, ?_⟩
    · simp only [List.map_cons, PyData.canLayAll0, a, c, Bool.and_self]
    · simp only [List.map_cons, PyData.depthAll, b]; omega
theorem dRows_lay {rs : List (List V)} (s : Rws rs) : PyData.canLay0 (dRows rs) = true ∧ PyData.depth (dRows rs) ≤ 2 := by
  obtain ⟨a, b⟩ := dRows_lay0 s
  exact ⟨by simp only [dRows, PyData.canLay0]; exact a, by simp only [dRows, PyData.depth]; omega⟩
theorem dRows_shaped {rs : List (List V)} (s : Rws rs) : SeqAt.shaped (dRows rs) = true := by
  obtain ⟨a, b⟩ := dRows_lay s
  unfold SeqAt.shaped
  rw [a, decide_eq_true (by omega)]
  rfl
theorem dRows_eqv0 : ∀ {rs qs : List (List V)}, Rws rs → Rws qs → PyData.eqvAll (rs.map dTup) (qs.map dTup) = decide (rs = qs)
  | [], [], _, _ => by simp [PyData.eqvAll]
  | [], u :: us, _, _ => by simp [PyData.eqvAll]
  | v :: vs, [], _, _ => by simp [PyData.eqvAll]
  | v :: vs, u :: us, h, g => by
    have ih := dRows_eqv0 (rs := vs) (qs := us) (fun u hu => h u (List.mem_cons_of_mem _ hu)) fun u hu => g u (List.mem_cons_of_mem _ hu)
    simp only [List.map_cons, PyData.eqvAll, ih, dTup_eqv (h v List.mem_cons_self) (g u List.mem_cons_self)]
    simp
theorem dRows_eqv {rs qs : List (List V)} (s : Rws rs) (t : Rws qs) : PyData.eqv (dRows rs) (dRows qs) = decide (rs = qs) := by
  show PyData.eqv (.list _) (.list _) = _
  simp only [PyData.eqv]
  exact dRows_eqv0 s t
section
variable {H : Hp} {Q : VK} {K : PySem.W.Frag}
theorem r_neTT {a b : Addr} {r q : List V} (h : SqT K H a r) (g : SqT K H b q) (s : Scs r) (t : Scs q) (k : Q (.bl (!decide (r = q))) H) : rNeD K (.ref a) (.ref b) H Q :=
  ⟨_, _, dTup_dp h s, dTup_dp g t, dTup_shaped s, dTup_shaped t, by rw [dTup_eqv s t]; exact k⟩
theorem r_eqTT {a b : Addr} {r q : List V} (h : SqT K H a r) (g : SqT K H b q) (s : Scs r) (t : Scs q) (k : Q (.bl (decide (r = q))) H) : rEqD K (.ref a) (.ref b) H Q :=
  ⟨_, _, dTup_dp h s, dTup_dp g t, dTup_shaped s, dTup_shaped t, by rw [dTup_eqv s t]; exact k⟩
theorem r_neRR {a b : Addr} {xs ys : List V} {r q : List (List V)} (h : SqL K H a xs) (g : SqL K H b ys) (ph : Paired (TupAt H) xs r) (pg : Paired (TupAt H) ys q) (s : Rws r) (t : Rws q) (k : Q (.bl (!decide (r = q))) H) : rNeD K (.ref a) (.ref b) H Q :=
  ⟨_, _, dRows_dp h ph s, dRows_dp g pg t, dRows_shaped s, dRows_shaped t, by rw [dRows_eqv s t]; exact k⟩
theorem r_eqRR {a b : Addr} {xs ys : List V} {r q : List (List V)} (h : SqL K H a xs) (g : SqL K H b ys) (ph : Paired (TupAt H) xs r) (pg : Paired (TupAt H) ys q) (s : Rws r) (t : Rws q) (k : Q (.bl (decide (r = q))) H) : rEqD K (.ref a) (.ref b) H Q :=
  ⟨_, _, dRows_dp h ph s, dRows_dp g pg t, dRows_shaped s, dRows_shaped t, by rw [dRows_eqv s t]; exact k⟩
theorem sc_shaped {v : V} (s : Sc v) : SeqAt.shaped (dOf v) = true := by
  obtain ⟨a, b⟩ := s.lay
  unfold SeqAt.shaped
  rw [a, b]
  rfl
theorem r_neSS {x y : V} (s : Sc x) (t : Sc y) (k : Q (.bl (!decide (x = y))) H) : rNeD K x y H Q := ⟨_, _, s.dp, t.dp, sc_shaped s, sc_shaped t, by rw [s.eqv t]; exact k⟩
theorem r_eqSS {x y : V} (s : Sc x) (t : Sc y) (k : Q (.bl (decide (x = y))) H) : rEqD K x y H Q := ⟨_, _, s.dp, t.dp, sc_shaped s, sc_shaped t, by rw [s.eqv t]; exact k⟩
theorem r_neRS {a : Addr} {xs : List V} {r : List (List V)} {y : V} (h : SqL K H a xs) (ph : Paired (TupAt H) xs r) (s : Rws r) (t : Sc y) (k : Q (.bl true) H) : rNeD K (.ref a) y H Q :=
  ⟨_, _, dRows_dp h ph s, t.dp, dRows_shaped s, sc_shaped t, by
    have e : PyData.eqv (dRows r) (dOf y) = false := by
      rcases t with ⟨i, rfl⟩ | ⟨z, rfl, _⟩ <;> simp [dRows, dOf, PyData.eqv]
    rw [e]; exact k⟩
end

abbrev N_IsItem : List Str := ["item", "letter"]
abbrev P_IsItem : List Str := ["item"]
theorem sc_IsItem : FnScope N_IsItem P_IsItem (defScope sIsItem) := ⟨rfl, rfl, rfl, by decide +kernel, rfl, by decide +kernel, by decide +kernel⟩
abbrev N_NumberIn : List Str := ["figures", "sign"]
abbrev P_NumberIn : List Str := ["figures"]
theorem sc_NumberIn : FnScope N_NumberIn P_NumberIn (defScope sNumberIn) := ⟨rfl, rfl, rfl, by decide +kernel, rfl, by decide +kernel, by decide +kernel⟩
abbrev N_LineIn : List Str := ["text", "parts"]
abbrev P_LineIn : List Str := ["text"]
theorem sc_LineIn : FnScope N_LineIn P_LineIn (defScope sLineIn) := ⟨rfl, rfl, rfl, by decide +kernel, rfl, by decide +kernel, by decide +kernel⟩
abbrev N_Read : List Str := ["text", "line", "parts", "part", "numbers"]
abbrev P_Read : List Str := ["text"]
theorem sc_Read : FnScope N_Read P_Read (defScope sRead) := ⟨rfl, rfl, rfl, by decide +kernel, rfl, by decide +kernel, by decide +kernel⟩
abbrev N_LCellAt : List Str := ["_law_script", "_law_k"]
abbrev P_LCellAt : List Str := ["_law_script", "_law_k"]
theorem sc_LCellAt : FnScope N_LCellAt P_LCellAt (defScope sLCellAt) := ⟨rfl, rfl, rfl, by decide +kernel, rfl, by decide +kernel, by decide +kernel⟩
abbrev N_LWhole : List Str := ["_law_found"]
abbrev P_LWhole : List Str := ["_law_found"]
theorem sc_LWhole : FnScope N_LWhole P_LWhole (defScope sLWhole) := ⟨rfl, rfl, rfl, by decide +kernel, rfl, by decide +kernel, by decide +kernel⟩
abbrev N_LNumberBy : List Str := ["_law_cell", "_law_way"]
abbrev P_LNumberBy : List Str := ["_law_cell", "_law_way"]
theorem sc_LNumberBy : FnScope N_LNumberBy P_LNumberBy (defScope sLNumberBy) := ⟨rfl, rfl, rfl, by decide +kernel, rfl, by decide +kernel, by decide +kernel⟩
abbrev N_LItemBy : List Str := ["_law_cell", "_law_some", "_law_k"]
abbrev P_LItemBy : List Str := ["_law_cell"]
theorem sc_LItemBy : FnScope N_LItemBy P_LItemBy (defScope sLItemBy) := ⟨rfl, rfl, rfl, by decide +kernel, rfl, by decide +kernel, by decide +kernel⟩
abbrev N_LAnyDeed : List Str := ["_law_script", "_law_words", "_law_word", "_law_way", "_law_lines", "_law_k", "_law_cell", "_law_n", "_law_numbers"]
abbrev P_LAnyDeed : List Str := ["_law_script"]
theorem sc_LAnyDeed : FnScope N_LAnyDeed P_LAnyDeed (defScope sLAnyDeed) := ⟨rfl, rfl, rfl, by decide +kernel, rfl, by decide +kernel, by decide +kernel⟩
abbrev N_LTextOf : List Str := ["_law_deed", "_law_parts", "_law_line", "_law_number", "_law_numbers"]
abbrev P_LTextOf : List Str := ["_law_deed"]
theorem sc_LTextOf : FnScope N_LTextOf P_LTextOf (defScope sLTextOf) := ⟨rfl, rfl, rfl, by decide +kernel, rfl, by decide +kernel, by decide +kernel⟩
abbrev N_LNumberIn : List Str := ["_law_figures", "_law_sign"]
abbrev P_LNumberIn : List Str := ["_law_figures"]
theorem sc_LNumberIn : FnScope N_LNumberIn P_LNumberIn (defScope sLNumberIn) := ⟨rfl, rfl, rfl, by decide +kernel, rfl, by decide +kernel, by decide +kernel⟩
abbrev N_LLineIn : List Str := ["_law_part", "_law_words", "_law_sign", "_law_word", "_law_numbers"]
abbrev P_LLineIn : List Str := ["_law_part"]
theorem sc_LLineIn : FnScope N_LLineIn P_LLineIn (defScope sLLineIn) := ⟨rfl, rfl, rfl, by decide +kernel, rfl, by decide +kernel, by decide +kernel⟩
abbrev N_LDeedIn : List Str := ["_law_line", "_law_part", "_law_lines", "_law_one", "_law_words", "_law_size", "_law_word", "_law_numbers"]
abbrev P_LDeedIn : List Str := ["_law_line"]
theorem sc_LDeedIn : FnScope N_LDeedIn P_LDeedIn (defScope sLDeedIn) := ⟨rfl, rfl, rfl, by decide +kernel, rfl, by decide +kernel, by decide +kernel⟩
abbrev N_LPartsAlike : List Str := ["_law_found", "_law_due", "_law_part"]
abbrev P_LPartsAlike : List Str := ["_law_found", "_law_due"]
theorem sc_LPartsAlike : FnScope N_LPartsAlike P_LPartsAlike (defScope sLPartsAlike) := ⟨rfl, rfl, rfl, by decide +kernel, rfl, by decide +kernel, by decide +kernel⟩
abbrev N_LDeedAlike : List Str := ["_law_found", "_law_due", "_law_k"]
abbrev P_LDeedAlike : List Str := ["_law_found", "_law_due"]
theorem sc_LDeedAlike : FnScope N_LDeedAlike P_LDeedAlike (defScope sLDeedAlike) := ⟨rfl, rfl, rfl, by decide +kernel, rfl, by decide +kernel, by decide +kernel⟩
abbrev N_LChangedBy : List Str := ["_law_line", "_law_cell", "_law_some", "_law_sign", "_law_at", "_law_way"]
abbrev P_LChangedBy : List Str := ["_law_line", "_law_cell"]
theorem sc_LChangedBy : FnScope N_LChangedBy P_LChangedBy (defScope sLChangedBy) := ⟨rfl, rfl, rfl, by decide +kernel, rfl, by decide +kernel, by decide +kernel⟩
abbrev N_LOddText : List Str := ["_law_cell", "_law_some"]
abbrev P_LOddText : List Str := ["_law_cell"]
theorem sc_LOddText : FnScope N_LOddText P_LOddText (defScope sLOddText) := ⟨rfl, rfl, rfl, by decide +kernel, rfl, by decide +kernel, by decide +kernel⟩
abbrev N_LOfOneClass : List Str := ["_law_e", "_law_found"]
abbrev P_LOfOneClass : List Str := ["_law_e"]
theorem sc_LOfOneClass : FnScope N_LOfOneClass P_LOfOneClass (defScope sLOfOneClass) := ⟨rfl, rfl, rfl, by decide +kernel, rfl, by decide +kernel, by decide +kernel⟩
abbrev N_LRefusedByAny : List Str := ["_law_line", "_law_e"]
abbrev P_LRefusedByAny : List Str := ["_law_line"]
theorem sc_LRefusedByAny : FnScope N_LRefusedByAny P_LRefusedByAny (defScope sLRefusedByAny) := ⟨rfl, rfl, rfl, by decide +kernel, rfl, by decide +kernel, by decide +kernel⟩
abbrev N_Law : List Str := ["_law_script", "_law_line", "_law_way", "_law_due", "_law_refused", "_law_found"]
abbrev P_Law : List Str := ["_law_script"]
theorem sc_Law : FnScope N_Law P_Law (defScope sLaw) := ⟨rfl, rfl, rfl, by decide +kernel, rfl, by decide +kernel, by decide +kernel⟩
theorem Tx.b_IsItem {w : World} {K : PySem.W.Frag} {mg : Str → Option Value} (T : Tx w K mg) : Binds K (fdO K dIsItem.at_) P_IsItem [] := T.f_IsItem.bindsN fun _ _ _ _ _ _ us hl => match us, hl with | [_], _ => rfl
theorem Tx.b_NumberIn {w : World} {K : PySem.W.Frag} {mg : Str → Option Value} (T : Tx w K mg) : Binds K (fdO K dNumberIn.at_) P_NumberIn [] := T.f_NumberIn.bindsN fun _ _ _ _ _ _ us hl => match us, hl with | [_], _ => rfl
theorem Tx.b_LineIn {w : World} {K : PySem.W.Frag} {mg : Str → Option Value} (T : Tx w K mg) : Binds K (fdO K dLineIn.at_) P_LineIn [] := T.f_LineIn.bindsN fun _ _ _ _ _ _ us hl => match us, hl with | [_], _ => rfl
theorem Tx.b_Read {w : World} {K : PySem.W.Frag} {mg : Str → Option Value} (T : Tx w K mg) : Binds K (fdO K dRead.at_) P_Read [] := T.f_Read.bindsN fun _ _ _ _ _ _ us hl => match us, hl with | [_], _ => rfl
theorem Tx.b_LCellAt {w : World} {K : PySem.W.Frag} {mg : Str → Option Value} (T : Tx w K mg) : Binds K (fdO K dLCellAt.at_) P_LCellAt [] := T.f_LCellAt.bindsN fun _ _ _ _ _ _ us hl => match us, hl with | [_, _], _ => rfl
theorem Tx.b_LWhole {w : World} {K : PySem.W.Frag} {mg : Str → Option Value} (T : Tx w K mg) : Binds K (fdO K dLWhole.at_) P_LWhole [] := T.f_LWhole.bindsN fun _ _ _ _ _ _ us hl => match us, hl with | [_], _ => rfl
theorem Tx.b_LNumberBy {w : World} {K : PySem.W.Frag} {mg : Str → Option Value} (T : Tx w K mg) : Binds K (fdO K dLNumberBy.at_) P_LNumberBy [] := T.f_LNumberBy.bindsN fun _ _ _ _ _ _ us hl => match us, hl with | [_, _], _ => rfl
theorem Tx.b_LItemBy {w : World} {K : PySem.W.Frag} {mg : Str → Option Value} (T : Tx w K mg) : Binds K (fdO K dLItemBy.at_) P_LItemBy [] := T.f_LItemBy.bindsN fun _ _ _ _ _ _ us hl => match us, hl with | [_], _ => rfl
theorem Tx.b_LAnyDeed {w : World} {K : PySem.W.Frag} {mg : Str → Option Value} (T : Tx w K mg) : Binds K (fdO K dLAnyDeed.at_) P_LAnyDeed [] := T.f_LAnyDeed.bindsN fun _ _ _ _ _ _ us hl => match us, hl with | [_], _ => rfl
theorem Tx.b_LTextOf {w : World} {K : PySem.W.Frag} {mg : Str → Option Value} (T : Tx w K mg) : Binds K (fdO K dLTextOf.at_) P_LTextOf [] := T.f_LTextOf.bindsN fun _ _ _ _ _ _ us hl => match us, hl with | [_], _ => rfl
theorem Tx.b_LNumberIn {w : World} {K : PySem.W.Frag} {mg : Str → Option Value} (T : Tx w K mg) : Binds K (fdO K dLNumberIn.at_) P_LNumberIn [] := T.f_LNumberIn.bindsN fun _ _ _ _ _ _ us hl => match us, hl with | [_], _ => rfl
theorem Tx.b_LLineIn {w : World} {K : PySem.W.Frag} {mg : Str → Option Value} (T : Tx w K mg) : Binds K (fdO K dLLineIn.at_) P_LLineIn [] := T.f_LLineIn.bindsN fun _ _ _ _ _ _ us hl => match us, hl with | [_], _ => rfl
theorem Tx.b_LDeedIn {w : World} {K : PySem.W.Frag} {mg : Str → Option Value} (T : Tx w K mg) : Binds K (fdO K dLDeedIn.at_) P_LDeedIn [] := T.f_LDeedIn.bindsN fun _ _ _ _ _ _ us hl => match us, hl with | [_], _ => rfl
theorem Tx.b_LPartsAlike {w : World} {K : PySem.W.Frag} {mg : Str → Option Value} (T : Tx w K mg) : Binds K (fdO K dLPartsAlike.at_) P_LPartsAlike [] := T.f_LPartsAlike.bindsN fun _ _ _ _ _ _ us hl => match us, hl with | [_, _], _ => rfl
theorem Tx.b_LDeedAlike {w : World} {K : PySem.W.Frag} {mg : Str → Option Value} (T : Tx w K mg) : Binds K (fdO K dLDeedAlike.at_) P_LDeedAlike [] := T.f_LDeedAlike.bindsN fun _ _ _ _ _ _ us hl => match us, hl with | [_, _], _ => rfl
theorem Tx.b_LChangedBy {w : World} {K : PySem.W.Frag} {mg : Str → Option Value} (T : Tx w K mg) : Binds K (fdO K dLChangedBy.at_) P_LChangedBy [] := T.f_LChangedBy.bindsN fun _ _ _ _ _ _ us hl => match us, hl with | [_, _], _ => rfl
theorem Tx.b_LOddText {w : World} {K : PySem.W.Frag} {mg : Str → Option Value} (T : Tx w K mg) : Binds K (fdO K dLOddText.at_) P_LOddText [] := T.f_LOddText.bindsN fun _ _ _ _ _ _ us hl => match us, hl with | [_], _ => rfl
theorem Tx.b_LOfOneClass {w : World} {K : PySem.W.Frag} {mg : Str → Option Value} (T : Tx w K mg) : Binds K (fdO K dLOfOneClass.at_) P_LOfOneClass [] := T.f_LOfOneClass.bindsN fun _ _ _ _ _ _ us hl => match us, hl with | [_], _ => rfl
theorem Tx.b_LRefusedByAny {w : World} {K : PySem.W.Frag} {mg : Str → Option Value} (T : Tx w K mg) : Binds K (fdO K dLRefusedByAny.at_) P_LRefusedByAny [] := T.f_LRefusedByAny.bindsN fun _ _ _ _ _ _ us hl => match us, hl with | [_], _ => rfl
theorem Tx.b_Law {w : World} {K : PySem.W.Frag} {mg : Str → Option Value} (T : Tx w K mg) : Binds K (fdO K dLaw.at_) P_Law [] := T.f_Law.bindsN fun _ _ _ _ _ _ us hl => match us, hl with | [_], _ => rfl
theorem runF (w : World) : HandSHeadRun.RunEq R qv hk ob 20000 names (w.withFollow "special-get-raises" false) := by
  intro os
  kernel_rfl
theorem runT (w : World) : HandSHeadRun.RunEq R qv hk ob 20000 names (w.withFollow "special-get-raises" true) := by
  intro os
  kernel_rfl
theorem run (w : World) : HandSHeadRun.RunEq R qv hk ob 20000 names w := PySem.W.byRow2 "special-get-raises" (P := fun w => HandSHeadRun.RunEq R qv hk ob 20000 names w) runF runT w
local macro_rules | `(tactic| walk_at "rd1") => `(tactic| with_reducible first
  | refine r_gn ?_ | refine r_seq ?_ | refine r_asg ?_ | refine r_ret ?_ | refine r_retN ?_ | refine r_drop ?_ | refine r_ifs ?_ | refine r_next ?_ | refine r_var rfl ?_ | refine r_c ?_ | refine r_op ?_ | refine r_un ?_
  | refine r_U ?_ | refine r_I0 ?_ | refine r_eqI ?_ | refine r_neI ?_ | refine r_eqS ?_ | refine r_neS ?_ | refine r_test ?_ | refine r_tB ?_ | refine r_exb ?_ | refine r_and ?_ | refine r_or ?_ | refine r_not ?_
  | refine r_andV ?_ | refine r_orV ?_ | refine r_notV ?_ | refine r_ifE ?_ | refine r_nil ?_ | refine r_cons ?_ | refine r_cb ?_ | refine r_tup ?_ | refine r_lst ?_ | refine r_call ?_ | refine r_callS ?_ | refine r_meth ?_ | refine r_fld ?_ | refine r_sfld ?_
  | refine r_lcl ?_ | refine r_lct ?_ | refine r_lcr ?_ | refine r_forl ?_ | refine r_fort ?_ | refine r_fors ?_ | refine r_forr ?_ | refine r_forr2 ?_
  | refine r_mx ?_ | refine r_sl ?_ | refine r_part ?_ | refine r_nopart ?_ | refine r_exi ?_ | refine r_asgS ?_ | refine r_is_int_int ?_ | refine r_is_int_bool ?_ | refine r_is_int_str ?_ | refine r_is_str_str ?_ | refine r_is_str_int ?_ | refine r_is_str_list ?_
  | refine r_make ?_ | refine r_bm ?_ | refine r_chain ?_ | refine r_itT ?_ | refine r_itF ?_ | refine r_itnT ?_ | refine r_itnF ?_)
local macro_rules | `(tactic| walk_at "rs1") => `(tactic| with_reducible first
  | refine r_gn ?_ | refine r_asg ?_ | refine r_ret ?_ | refine r_retN ?_ | refine r_drop ?_ | refine r_ifs ?_ | refine r_next ?_ | refine r_var rfl ?_ | refine r_c ?_ | refine r_op ?_ | refine r_un ?_
  | refine r_U ?_ | refine r_I0 ?_ | refine r_eqI ?_ | refine r_neI ?_ | refine r_eqS ?_ | refine r_neS ?_ | refine r_test ?_ | refine r_tB ?_ | refine r_exb ?_ | refine r_and ?_ | refine r_or ?_ | refine r_not ?_
  | refine r_andV ?_ | refine r_orV ?_ | refine r_notV ?_ | refine r_ifE ?_ | refine r_nil ?_ | refine r_cons ?_ | refine r_cb ?_ | refine r_tup ?_ | refine r_lst ?_ | refine r_call ?_ | refine r_callS ?_ | refine r_meth ?_ | refine r_fld ?_ | refine r_sfld ?_
  | refine r_lcl ?_ | refine r_lct ?_ | refine r_lcr ?_ | refine r_forl ?_ | refine r_fort ?_ | refine r_fors ?_ | refine r_forr ?_ | refine r_forr2 ?_
  | refine r_mx ?_ | refine r_sl ?_ | refine r_part ?_ | refine r_nopart ?_ | refine r_exi ?_ | refine r_asgS ?_ | refine r_is_int_int ?_ | refine r_is_int_bool ?_ | refine r_is_int_str ?_ | refine r_is_str_str ?_ | refine r_is_str_int ?_ | refine r_is_str_list ?_
  | refine r_make ?_ | refine r_bm ?_ | refine r_chain ?_ | refine r_itT ?_ | refine r_itF ?_ | refine r_itnT ?_ | refine r_itnF ?_)
local macro_rules | `(tactic| walk_at "rs") => `(tactic| repeat walk_at "rs1")
local macro_rules | `(tactic| walk_at "rd") => `(tactic| repeat walk_at "rd1")
local macro_rules | `(tactic| walk_at "pf") => `(tactic| repeat first | exact pf_nil | exact pf_hit | (apply pf_m; decide +kernel))
local macro_rules | `(tactic| walk_at "pos") => `(tactic| (first | (show (0 : Int) < _; decide) | exact ⟨by decide, by decide⟩ | omega))
local macro_rules | `(tactic| walk_at "md") => `(tactic| refine r_I (by walk_at "pos") ?_)
local macro_rules | `(tactic| walk_at "cell") => `(tactic| refine ⟨_, _, rfl, by assumption, by decide, fun _ => ?_⟩)
local macro_rules | `(tactic| walk_at "ml") => `(tactic| first | refine r_I (.inr ⟨by decide, by decide⟩) ?_ | refine r_I (.inl ⟨by decide, by decide⟩) ?_)
/-! ### items, lines as they are told -/
abbrev letters : Str := "abcdefghijklmnopqrstuvwxyz"
def isItem (z : Str) : Bool := decide (∀ c ∈ z.cps.toList, c ∈ letters.cps.toList) && decide (1 ≤ z.length ∧ z.length ≤ 12)
def spIsItem (_ : PySem.W.Frag) : Sp := fun vs H Q _ => ∃ z : Str, vs = [.str z] ∧ z.length ≤ 100000 ∧ Q (.bl (isItem z)) H
theorem len_IsItem {K : PySem.W.Frag} {vs : List V} {H : Hp} {Q : VK} {E : XK} (h : spIsItem K vs H Q E) : vs.length = 1 := by
  obtain ⟨_, rfl, _⟩ := h; rfl
theorem isItem_no {z : Str} {i : Nat} {c : Nat} (h : z.cps[i]? = some c) (n : ¬ c ∈ letters.cps.toList) : isItem z = false := by
  have hm : c ∈ z.cps.toList := by
    have h2 : z.cps.toList[i]? = some c := by simpa using h
    exact List.mem_of_getElem? h2
  unfold isItem
  rw [decide_eq_false (fun q => n (q c hm))]
  rfl
theorem isItem_yes {z : Str} (h : ∀ j c, j < z.cps.size → z.cps[j]? = some c → c ∈ letters.cps.toList) : isItem z = decide (1 ≤ z.length ∧ z.length ≤ 12) := by
  unfold isItem
  rw [decide_eq_true (fun c hc => ?_)]
  · rfl
  · obtain ⟨j, hj⟩ := List.getElem?_of_mem hc
    have h2 : z.cps[j]? = some c := by simpa using hj
    exact h j c (Array.getElem?_eq_some_iff.mp h2).1 h2
theorem ok_IsItem {P : Program} {w : World} {K : PySem.W.Frag} {mg : Str → Option Value} {base : Heap} (T : Tx w K mg) : FnOk P w K mg base CX0 1 (He.fAd K dIsItem.at_) (fdO K dIsItem.at_) P_IsItem (spIsItem K) := by
  refine T.f_IsItem.ok sc_IsItem (fun vs H Q E h => len_IsItem h) (fun cdv A outer s H vs Q E hr h => ⟨_, PSs.nox ((pss_cons (ps_for PassesOwn.never rfl (pi_str (pv 0)) (pg_name (i := 1) sc_IsItem.nd rfl (Or.inl rfl)) (pss_one (ps_if (pt_cmpR op_notIn_sign (pv 1) (pe_gc rfl T.c_LETTERS) (by rfl)) (pss_one (ps_ret pe_bl)) pss_nil)))
      (pss_one (ps_ret (pe_chain op_le op_le pe_int (pe_callB call_len_str (by rfl) T.b_len (by decide +kernel) (pa_cons (pv 0) pa_nil)) (pe_gc rfl T.c_MOST_LETTERS)))))), ?_⟩)
  obtain ⟨z, rfl, hz, q⟩ := h
  walk_at "rd"
  refine ⟨z, rfl, for_it walk_str (fun i σ H' => ∃ v, σ = [some (.str z), v] ∧ H' = H ∧ ∀ j c, j < i → z.cps[j]? = some c → c ∈ letters.cps.toList) ⟨none, rfl, rfl, fun j c hj => absurd hj (Nat.not_lt_zero _)⟩ (fun _ _ _ _ _ => trivial) ?_ ?_⟩
  · rintro i x σ H1 H2 hi ⟨v, rfl, rfl, hp⟩ ⟨rfl, c, hc, rfl⟩
    walk_at "rd"
    refine ⟨c, _, rfl, rfl, ?_⟩
    walk_at "rd"
    refine r_itn (fun hn => ?_) (fun hy => ?_)
    · walk_at "rd"
      rw [isItem_no hc hn] at q
      exact q
    · walk_at "rd"
      refine ⟨_, rfl, rfl, fun j c' hj e => ?_⟩
      by_cases h : j = i
      · subst h
        rw [hc] at e
        rw [← Option.some.inj e]
        exact hy
      · exact hp j c' (by omega) e
  · rintro σ H1 ⟨v, rfl, rfl, hp⟩
    walk_at "rd"
    refine ⟨z, rfl, sz5 hz, ?_⟩
    rw [isItem_yes hp] at q
    walk_at "rd"
    refine r_itd (fun h1 => ?_) (fun h1 => ?_)
    · walk_at "rd"
      have e : decide (1 ≤ z.length ∧ z.length ≤ 12) = decide ((z.length : Int) ≤ 12) := by
        by_cases h2 : z.length ≤ 12
        · rw [decide_eq_true (by omega), decide_eq_true (by omega)]
        · rw [decide_eq_false (by omega), decide_eq_false (by omega)]
      rw [e] at q
      exact q
    · rw [decide_eq_false (by omega)] at q
      exact q

theorem letter_at {n : Int} : ∃ c : Nat, c ∈ letters.cps.toList ∧ atI letters.cps.toList (n % 26) = some c := by
  have h0 : 0 ≤ n % 26 := Int.emod_nonneg _ (by decide)
  have h1 : n % 26 < 26 := Int.emod_lt_of_pos _ (by decide)
  have hl : letters.cps.toList.length = 26 := by decide +kernel
  have hj : (n % 26).toNat < letters.cps.toList.length := by omega
  refine ⟨letters.cps.toList[(n % 26).toNat], List.getElem_mem hj, ?_⟩
  unfold atI ixN
  rw [if_pos h0, if_pos (by omega)]
  exact List.getElem?_eq_getElem hj
theorem joinL_nil : ∀ ps : List (List Nat), TL.joinL [] ps = ps.flatten
  | [] => rfl
  | [p] => by simp [TL.joinL]
  | p :: q :: r => by
    have ih := joinL_nil (q :: r)
    show p ++ ([] ++ TL.joinL [] (q :: r)) = _
    rw [List.nil_append, ih]
    rfl
theorem sum_ones {cs : List Nat} : ((cs.map fun c => (⟨#[c]⟩ : Str)).map (·.length)).sum = cs.length := by
  induction cs with
  | nil => rfl
  | cons a r ih =>
    rw [List.map_cons, List.map_cons, List.sum_cons, ih]
    show 1 + r.length = _
    rw [List.length_cons]
    omega
/-- an item, joined of letters -/
theorem item_join {cs : List Nat} (h : ∀ c, c ∈ cs → c ∈ letters.cps.toList) (l : 1 ≤ cs.length ∧ cs.length ≤ 12) : isItem (Txt.join "" (cs.map fun c => (⟨#[c]⟩ : Str))) = true := by
  have e : (Txt.join "" (cs.map fun c => (⟨#[c]⟩ : Str))).cps.toList = cs := by
    rw [TL.join_eq]
    have q := TL.tl_join "" (cs.map fun c => (⟨#[c]⟩ : Str))
    have q1 : TL.tl (Str.join "" (cs.map fun c => (⟨#[c]⟩ : Str))) = cs := by
      rw [q, show TL.tl ("" : Str) = [] by decide +kernel, joinL_nil, List.map_map]
      clear q h l
      induction cs with
      | nil => rfl
      | cons a r ih =>
        rw [List.map_cons, List.flatten_cons, ih]
        rfl
    exact q1
  unfold isItem
  have len : (Txt.join "" (cs.map fun c => (⟨#[c]⟩ : Str))).length = cs.length := by
    show Array.size _ = _
    rw [← Array.length_toList, e]
  rw [e, len, decide_eq_true h, decide_eq_true l]
  rfl
/-- a value for each place -/
theorem each_of {n : Nat} {P : Nat → Nat → Prop} (h : ∀ i, i < n → ∃ c, P i c) : ∃ cs : List Nat, cs.length = n ∧ ∀ (i : Nat) c, cs[i]? = some c → P i c := by
  induction n with
  | zero => exact ⟨[], rfl, fun i c e => by simp at e⟩
  | succ n ih =>
    obtain ⟨cs, hl, hc⟩ := ih fun i hi => h i (by omega)
    obtain ⟨c, hp⟩ := h n (by omega)
    refine ⟨cs ++ [c], by simp [hl], fun i d e => ?_⟩
    by_cases hi : i < cs.length
    · rw [List.getElem?_append_left hi] at e
      exact hc i d e
    · have : i = n := by
        have := (List.getElem?_eq_some_iff.mp e).1
        simp at this
        omega
      subst this
      rw [List.getElem?_append_right (by omega), hl, Nat.sub_self] at e
      cases e
      exact hp

abbrev numS (n : Nat) : Str := Str.ofString (toString ((n : Nat) : Int))
theorem tl_numS {n : Nat} : TL.tl (numS n) = TL.numL n := TL.tl_num n
theorem numS_len {n : Nat} (h : n < 10 ^ 30) : 1 ≤ (numS n).length ∧ (numS n).length ≤ 30 := by
  rw [TL.len_tl, tl_numS]
  refine ⟨?_, TL.numL_len (by decide) h⟩
  have := TL.numL_ne n
  cases e : TL.numL n with
  | nil => exact absurd e this
  | cons a r => simp
theorem join_cons {y x z : Str} {r : List Str} : Txt.join y (x :: z :: r) = x ++ y ++ Txt.join y (z :: r) := by
  rw [TL.join_eq, TL.join_eq]; rfl
theorem joinL_len {S : List Nat} {k : Nat} : ∀ ps : List (List Nat), (∀ p, p ∈ ps → p.length ≤ k) → (TL.joinL S ps).length ≤ ps.length * (k + S.length)
  | [], _ => Nat.zero_le _
  | [p], h => by
    have := h p List.mem_cons_self
    show p.length ≤ 1 * (k + S.length)
    omega
  | p :: q :: r, h => by
    have h1 := h p List.mem_cons_self
    have h2 := joinL_len (S := S) (q :: r) fun x hx => h x (List.mem_cons_of_mem _ hx)
    show (p ++ (S ++ TL.joinL S (q :: r))).length ≤ _
    rw [List.length_append, List.length_append, List.length_cons (as := q :: r), Nat.succ_mul]
    omega
theorem join_len {y : Str} {k : Nat} {ps : List Str} (h : ∀ p, p ∈ ps → p.length ≤ k) : (Txt.join y ps).length ≤ ps.length * (k + y.length) := by
  rw [TL.join_eq, TL.len_tl, TL.tl_join, TL.len_tl y]
  have := joinL_len (S := TL.tl y) (k := k) (ps.map TL.tl) fun p hp => by
    obtain ⟨z, hz, rfl⟩ := List.mem_map.mp hp
    rw [← TL.len_tl]; exact h z hz
  rw [List.length_map] at this
  exact this
theorem sum_len {k : Nat} : ∀ {ps : List Str}, (∀ p, p ∈ ps → p.length ≤ k) → (ps.map (·.length)).sum ≤ ps.length * k
  | [], _ => Nat.zero_le _
  | p :: r, h => by
    have h1 := h p List.mem_cons_self
    have h2 := sum_len (ps := r) fun x hx => h x (List.mem_cons_of_mem _ hx)
    rw [List.map_cons, List.sum_cons, List.length_cons, Nat.succ_mul]
    omega
structure Tl where
  z : Str
  a : Nat
  b : Nat
  c : Nat
structure Tl.ok (t : Tl) : Prop where
  z : isItem t.z = true
  a : t.a < 10 ^ 30
  b : t.b < 10 ^ 30
  c : t.c < 10 ^ 30
def Tl.row (t : Tl) : List V := [.str t.z, .int (t.a : Int), .int (t.b : Int), .int (t.c : Int)]
def Tl.str (t : Tl) : Str := Txt.join " " [t.z, numS t.a, numS t.b, numS t.c]
theorem item_len {z : Str} (h : isItem z = true) : 1 ≤ z.length ∧ z.length ≤ 12 := by
  unfold isItem at h
  exact of_decide_eq_true (Bool.and_eq_true_iff.mp h).2
theorem item_free {z : Str} (h : isItem z = true) {s : Nat} (hs : s < 97) : s ∉ TL.tl z := fun m => by
  unfold isItem at h
  have q := of_decide_eq_true (Bool.and_eq_true_iff.mp h).1 s m
  have all : ∀ x, x ∈ letters.cps.toList → 97 ≤ x := by decide +kernel
  have := all s q
  omega
theorem Tl.ok.part_len {t : Tl} (h : t.ok) : ∀ p, p ∈ [t.z, numS t.a, numS t.b, numS t.c] → p.length ≤ 30 := fun p hp => by
  rcases List.mem_cons.mp hp with rfl | hp
  · have := item_len h.z; omega
  rcases List.mem_cons.mp hp with rfl | hp
  · exact (numS_len h.a).2
  rcases List.mem_cons.mp hp with rfl | hp
  · exact (numS_len h.b).2
  rcases List.mem_cons.mp hp with rfl | hp
  · exact (numS_len h.c).2
  cases hp
theorem Tl.len {t : Tl} (h : t.ok) : t.str.length ≤ 200 := by
  have := join_len (y := " ") (k := 30) h.part_len
  have e : (" " : Str).length = 1 := by decide +kernel
  rw [e] at this
  show (Txt.join " " _).length ≤ 200
  simp only [List.length_cons, List.length_nil] at this
  omega
theorem lcp_tup {K : PySem.W.Frag} {te : TE} {j : Nat} {σ : L2.St} {H1 : Hp} {Q : VK} {a : Addr} {xs ys : List V} (hs : H1 a = some (.tup xs)) (hl : ys.length = xs.length) (hz : xs.length ≤ 100000)
    (he : ∀ (i : Nat) (x y : V) (H' : Hp) (R : VK), xs[i]? = some x → ys[i]? = some y → Same H1 H' → (∀ H'', Same H' H'' → R y H'') → te ((wipe σ [j]).set j (some x)) H' R)
    (k : ∀ (D : Addr) (H' : Hp), H1 D = none → Same H1 H' → H' D = some (.lst ys) → Q (.ref D) H') : ∃ a', V.ref a = V.ref a' ∧ (∃ xs, SqT K H1 a' xs) ∧ Lcs (Itt K a') (gName j) tYes te [j] σ H1 Q := by
  refine ⟨a, rfl, ⟨xs, SqT.of hs⟩, fun D hD => ?_⟩
  refine lc_tup (K := K) (a := a) (xs := xs) (fun i H' => Same H1 H' ∧ H' D = some (.lst (ys.take i))) ⟨same_upd hD, upd_same⟩ (fun i H' _ p => SqT.of (p.1 _ _ hs)) ?_ ?_
  · rintro i x H' hi ⟨s, e⟩
    have hi2 : i < ys.length := by rw [hl]; exact (List.getElem?_eq_some_iff.mp hi).1
    have ey : ys[i]? = some ys[i] := List.getElem?_eq_getElem hi2
    refine ⟨wipe1, r_yes (r_itT ?_)⟩
    refine he i x _ H' _ hi ey s fun H'' s2 => ⟨_, s2 _ _ e, ?_, ?_, ?_⟩
    · refine sz5l ?_
      have := List.length_take_le i ys
      omega
    · exact fun b o q => by
        rw [upd_ne (ne_of_none q hD)]
        exact s2 _ _ (s _ _ q)
    · rw [upd_same, take_snoc ey]
  · rintro H' ⟨s, e⟩
    rw [← hl, List.take_length] at e
    exact k D H' hD s e
theorem log_num {n : Nat} (h : n < 10 ^ 30) : ((n : Nat) : Int).natAbs.log2 < 1920 := by
  have : n < 2 ^ 1920 := Nat.lt_of_lt_of_le h (by decide +kernel)
  show n.log2 < 1920
  by_cases c : n = 0
  · rw [c]; decide
  · exact (Nat.log2_lt c).mpr this
def numsOf (ns : List Nat) : List V := ns.map fun n : Nat => V.int (n : Int)
theorem pr_ex {α β : Type} {F : α → β → Prop} : ∀ {l₁ : List α} {l₂ : List β} {i : Nat} {a : α}, Paired F l₁ l₂ → l₁[i]? = some a → ∃ b, l₂[i]? = some b ∧ F a b
  | _, _, _, _, .nil, h => by simp at h
  | _, _, 0, _, .cons r _, h => by
    cases h
    exact ⟨_, rfl, r⟩
  | _, _, i + 1, _, .cons _ t, h => pr_ex (i := i) t h
theorem tup_keep {S : Addr → Prop} {H H' : Hp} (b : But S H H') {xs : List V} {rs : List (List V)} (h : Paired (TupAt H) xs rs) : Paired (TupAt H') xs rs := Paired.mapP h fun _ _ ⟨t, e, q⟩ => ⟨t, e, b.tup _ _ q⟩
inductive Td where
  | ord (ls : List Tl)
  | nums (w : Str) (ns : List Nat)
def Td.ok : Td → Prop
  | .ord ls => (1 ≤ ls.length ∧ ls.length ≤ 25) ∧ ∀ t, t ∈ ls → t.ok
  | .nums w ns => (∀ n, n ∈ ns → n < 10 ^ 30) ∧ ((ns.length = 2 ∧ (w = "pay" ∨ w = "refund")) ∨ (ns.length = 3 ∧ (w = "deliver" ∨ w = "back" ∨ w = "swap" ∨ w = "credit" ∨ w = "move")))
def Td.str : Td → Str
  | .ord ls => ("order " : Str) ++ Txt.join ", " (ls.map Tl.str)
  | .nums w ns => w ++ (" " : Str) ++ Txt.join " " (ns.map numS)
def TdA (H : Hp) (v : V) : Td → Prop
  | .ord ls => ∃ t l xs, v = .ref t ∧ H t = some (.tup [.str "order", .ref l]) ∧ H l = some (.lst xs) ∧ Paired (TupAt H) xs (ls.map Tl.row)
  | .nums w ns => ∃ t, v = .ref t ∧ H t = some (.tup (.str w :: numsOf ns))
theorem TdA.keep {H H' : Hp} {v : V} {d : Td} (h : TdA H v d) (s : Same H H') : TdA H' v d := by
  cases d with
  | ord ls =>
    obtain ⟨t, l, xs, e, h1, h2, p⟩ := h
    exact ⟨t, l, xs, e, s _ _ h1, s _ _ h2, tup_keep (But.of (S := fun _ => False) s) p⟩
  | nums w ns =>
    obtain ⟨t, e, h1⟩ := h
    exact ⟨t, e, s _ _ h1⟩
structure WOk (w : Str) (k : Nat) : Prop where
  no : ¬ w = "order"
  len : w.length ≤ 7
  free : 32 ∉ TL.tl w
  first : ∃ c, (TL.tl w).head? = some c ∧ c ≠ 111
  pt : parts.lookup w = some ((k : Int) + 1)
  str : PyData.strOk w = true
theorem word_ok {w : Str} {ns : List Nat} (h : (Td.nums w ns).ok) : WOk w ns.length ∧ (ns.length = 2 ∨ ns.length = 3) := by
  rcases h.2 with ⟨l, h⟩ | ⟨l, h⟩
  · refine ⟨?_, .inl l⟩
    rw [l]
    rcases h with rfl | rfl
    · exact ⟨by decide +kernel, by decide +kernel, by decide +kernel, ⟨112, by decide +kernel, by decide⟩, by decide +kernel, by decide +kernel⟩
    · exact ⟨by decide +kernel, by decide +kernel, by decide +kernel, ⟨114, by decide +kernel, by decide⟩, by decide +kernel, by decide +kernel⟩
  · refine ⟨?_, .inr l⟩
    rw [l]
    rcases h with rfl | rfl | rfl | rfl | rfl
    · exact ⟨by decide +kernel, by decide +kernel, by decide +kernel, ⟨100, by decide +kernel, by decide⟩, by decide +kernel, by decide +kernel⟩
    · exact ⟨by decide +kernel, by decide +kernel, by decide +kernel, ⟨98, by decide +kernel, by decide⟩, by decide +kernel, by decide +kernel⟩
    · exact ⟨by decide +kernel, by decide +kernel, by decide +kernel, ⟨115, by decide +kernel, by decide⟩, by decide +kernel, by decide +kernel⟩
    · exact ⟨by decide +kernel, by decide +kernel, by decide +kernel, ⟨99, by decide +kernel, by decide⟩, by decide +kernel, by decide +kernel⟩
    · exact ⟨by decide +kernel, by decide +kernel, by decide +kernel, ⟨109, by decide +kernel, by decide⟩, by decide +kernel, by decide +kernel⟩
theorem nums_parts {ns : List Nat} (h : ∀ n, n ∈ ns → n < 10 ^ 30) : ∀ p, p ∈ ns.map numS → p.length ≤ 30 := fun p hp => by
  obtain ⟨n, hn, rfl⟩ := List.mem_map.mp hp
  exact (numS_len (h n hn)).2
theorem cat_len {x y : Str} : (x ++ y).length = x.length + y.length := by
  rw [TL.len_tl, TL.tl_append, List.length_append, ← TL.len_tl, ← TL.len_tl]
theorem ord_parts {ls : List Tl} (h : ∀ t, t ∈ ls → t.ok) : ∀ p, p ∈ ls.map Tl.str → p.length ≤ 200 := fun p hp => by
  obtain ⟨t, ht, rfl⟩ := List.mem_map.mp hp
  exact Tl.len (h t ht)
theorem Td.len {d : Td} (h : d.ok) : d.str.length ≤ 90000 := by
  cases d with
  | ord ls =>
    have a := join_len (y := ", ") (ord_parts h.2)
    have e1 : (", " : Str).length = 2 := by decide +kernel
    have e2 : ("order " : Str).length = 6 := by decide +kernel
    have l := h.1.2
    show (("order " : Str) ++ _).length ≤ 90000
    rw [cat_len, e2]
    rw [e1, List.length_map] at a
    have : ls.length * (200 + 2) ≤ 25 * 202 := Nat.mul_le_mul_right _ l
    omega
  | nums w ns =>
    have a := join_len (y := " ") (nums_parts h.1)
    have e1 : (" " : Str).length = 1 := by decide +kernel
    obtain ⟨W, l⟩ := word_ok h
    have wl := W.len
    show (w ++ (" " : Str) ++ _).length ≤ 90000
    rw [cat_len, cat_len, e1]
    rw [e1, List.length_map] at a
    rcases l with l | l <;> rw [l] at a <;> omega
theorem cut_to6 {z : Str} : TL.tl (cutS z none (some 6)) = (TL.tl z).take 6 := by
  show ((z.cps.toList.drop (HT.sIx z.length 0 none)).take (HT.sIx z.length z.length (some ((6 : Nat) : Int)) - HT.sIx z.length 0 none)) = z.cps.toList.take 6
  rw [HT.sIx_none, HT.sIx_nat, List.drop_zero, Nat.sub_zero]
  by_cases h : 6 ≤ z.length
  · rw [Nat.min_eq_left h]
  · have hl : z.cps.toList.length = z.length := Array.length_toList
    rw [Nat.min_eq_right (by omega), List.take_of_length_le (by omega), List.take_of_length_le (by omega)]
theorem cut_from6 {z : Str} : TL.tl (cutS z (some 6) none) = (TL.tl z).drop 6 := by
  show ((z.cps.toList.drop (HT.sIx z.length 0 (some ((6 : Nat) : Int)))).take (HT.sIx z.length z.length none - HT.sIx z.length 0 (some ((6 : Nat) : Int)))) = z.cps.toList.drop 6
  rw [HT.sIx_none, HT.sIx_nat]
  have hl : z.cps.toList.length = z.length := Array.length_toList
  by_cases h : 6 ≤ z.length
  · rw [Nat.min_eq_left h, List.take_of_length_le (by rw [List.length_drop]; omega)]
  · rw [Nat.min_eq_right (by omega), List.drop_of_length_le (by omega), List.drop_of_length_le (by omega)]
    simp
theorem six : TL.tl ("order " : Str) = [111, 114, 100, 101, 114, 32] := by decide +kernel

/-! ### a comprehension whose elements may raise -/
section
open PySem PySem.Spec PyProof.Rows L2
variable {X : Cx}
/-- what a call within a block lets out -/
def Fly (Y : Cx) (E : XK) (u : Value) (s' : Shared) : Prop := ∃ pins σ H s, Inv Y pins σ H s ∧ L2.CX Y.prog Y.w Y.stack H s E u s'
/-- a block that raises -/
abbrev bx (X : Cx) (E : XK) (s : Shared) (H : Hp) (scope : Scope) (cenv : Env) (fp : List Addr) : Cx := (X.blk s H scope cenv fp).wish (Fly (X.blk s H scope cenv fp) E)
theorem fly_pass {Y : Cx} {E : XK} : ∀ (pins : List (Addr × Obj)) (σ : L2.St) (H : Hp) (s : Shared) (e : Value) (s' : Shared), Inv (Y.wish (Fly Y E)) pins σ H s → L2.CX (Y.wish (Fly Y E)).prog (Y.wish (Fly Y E)).w (Y.wish (Fly Y E)).stack H s E e s' → (Y.wish (Fly Y E)).xe e s' :=
  fun pins σ H s e s' I c => ⟨pins, σ, H, s, I.unwish, c⟩
theorem traced_one {h B B' : Heap} {a : Addr} {Z Z' : Obj → Prop} {f f' : Value} (x : HandSPX.TracedZ h B a Z f) (y : HandSPX.TracedZ h B' a Z' f') : f = f' := by
  obtain ⟨o, vs, T, oT, ts, e1, _, e2, e3, _, _, e4, e5, e6⟩ := x
  obtain ⟨o', vs', T', oT', ts', d1, _, d2, d3, _, _, d4, d5, d6⟩ := y
  rw [e1] at d1
  cases d1
  rw [e2] at d2
  cases d2
  rw [e3] at d3
  cases d3
  rw [e4] at d4
  cases d4
  rw [e5] at d5
  cases d5
  rw [e6] at d6
  exact Option.some.inj d6
/-- the names of a block let go, the exception held -/
theorem held_cut {B h h2 : Heap} {l : List Env} {a C L : Addr} {cls : Value} {d : Option Addr} {m m2 : Str → Option Value} (hh : HandSPX.HeldZ B l a (Zc cls d) L h) (ns : h.Ns C m) (ns2 : h2.Ns C m2) (sb : Heap.SameBut C h h2) : HandSPX.HeldZ (PySem.W.hideAll B [C]) l a (Zc cls d) L h2 := by
  obtain ⟨st, nB, fr, oe, vs, T, oT, ts, e1, z, e2, e3, nT, ne, e4, e5, e6⟩ := hh
  have hid : ∀ {b : Addr} {o : Obj}, (PySem.W.hideAll B [C]).get? b = some o → b ≠ C ∧ B.get? b = some o := fun {b o} q => by
    refine ⟨fun w => ?_, PySem.W.of_hideAll _ q⟩
    rw [w, PySem.W.hideAll_none [C] (List.mem_singleton.mpr rfl)] at q
    cases q
  have none_of : ∀ {b : Addr}, B.get? b = none → (PySem.W.hideAll B [C]).get? b = none := fun {b} q => by
    cases w : (PySem.W.hideAll B [C]).get? b with
    | none => rfl
    | some o =>
      have := (hid w).2
      rw [q] at this
      cases this
  obtain ⟨oC, es, ep, eC, dC, _⟩ := ns
  have nC : ∀ {b : Addr} {o : Obj} {ws : Array Value}, h.get? b = some o → o.data = .fields ws → b ≠ C := fun {b o ws} q1 q2 w => by
    rw [w, eC] at q1
    cases q1
    rw [dC] at q2
    cases q2
  refine ⟨fun b o q => ?_, none_of nB, funFrames_none (Heap.FunFrames.sameBut sb ns2 fr) fun b hb => none_of (fr.mem hb).1, oe, vs, T, oT, ts, (sb.2 _ (nC e1 e2)).trans e1, z, e2, e3, none_of nT, ne, (sb.2 _ (nC e4 e5)).trans e4, e5, e6⟩
  obtain ⟨n, q2⟩ := hid q
  exact (sb.2 b n).trans (st b o q2)
/-- an element's exception leaves the comprehension -/
theorem fly_out {E : XK} {pins : List (Addr × Obj)} {σ : L2.St} {H3 : Hp} {s3 : Shared} {scope : Scope} {ce : Env} {fp : List Addr} {u : Value} {s' : Shared} {use : Option (Value → Sem Unit)} {Qf : Value → Shared → Prop} {acc : Value}
    (I3 : Inv X pins σ H3 s3) (hC : ce.locals = s3.heap.objs.size) (hcf : ce.frame = X.env.frame) (hstk : X.stack = X.env :: X.outer) (hf : X.env.frame = some X.env.locals) (tk : Takes X fun c d _ H => E c d H) (f3 : ∀ b ∈ fp, FpOk X pins H3 b)
    (c : Fly (X.blk s3 H3 scope ce fp) E u s') : notedBy (model X.prog X.w) X.A ce (fun e s'' => compEnds (model X.prog X.w) X.A X.xe use Qf acc ce (.error e) s'') u s' := by
  obtain ⟨pins', σ', H', s5, I5, c⟩ := c
  have fly : ∃ a B cls d, u = .ref a ∧ HandSPX.FlyingZ B X.stack a (Zc cls d) s'.heap := by
    obtain ⟨a, B, _, cls, d, e, fl, _⟩ := c
    exact ⟨a, B, cls, d, e, fl⟩
  obtain ⟨a, B, sI, pins2, σ2, H2, cls, d, rfl, I6, nb, up, sky, na, os, ag, w⟩ := XE.of_call (X := X.blk s3 H3 scope ce fp) (W := fun c d _ H => E c d H) I5 (fun _ _ _ h => h) c
  obtain ⟨a', B0, cls0, d0, ea, fl0⟩ := fly
  obtain rfl : a = a' := by cases ea; rfl
  have fl : HandSPX.FlyingZ B (X.env :: X.outer) a (Zc cls d) s'.heap := by
    rw [← hstk]
    rcases sky with ⟨_, _, _, oe, vs, e1, _, e2, e3⟩ | fl | hh
    · obtain ⟨_, _, _, oe', vs', T, _, _, d1, _, d2, d3, _⟩ := fl0
      rw [e1] at d1
      cases d1
      rw [e2] at d2
      cases d2
      rw [e3] at d3
      cases d3
    · exact fl
    · have := traced_one hh.2.2.2 fl0.2.2.2
      cases this
  have hfr : X.A.frames = some (X.env :: X.outer) := by rw [I3.ok.frames, hstk]
  show wpAny _ _ (noteFrame (.ref a) ce) _ _ s'
  rw [noteFrame_env _ hcf]
  refine HandSPX.looks_onZ Zc.steady hfr hf fl fun h1 hh up1 => ?_
  obtain ⟨m, nsI, _⟩ := I6.loc
  have nsI' : sI.heap.Ns ce.locals m := nsI
  have ns1 : h1.Ns ce.locals m := (nsI'.upToSlots up).upToSlots up1
  refine ⟨m, ns1, fun h2 m2 ns2 sb => ?_⟩
  have hh2 := held_cut hh ns1 ns2 sb
  obtain ⟨_, _, _, oe, vs, T, oT, ts, e1, _, e2, e3, _⟩ := id hh2
  unfold PySem.passOn
  refine wpAny_bind (wpAny_field e1 e2 e3 ?_)
  rw [if_neg (show ¬ ((Value.ref T == Value.none) = true) from by simp), hcf, hf]
  refine wpAny_bind (HandSPX.setFlight_onZ (s := { s' with heap := h2 }) hh2 fun h3' hh3 up3 => ?_)
  refine wpAny_throw (tk _ _ ?_)
  have I7 : Inv X pins σ H2 sI := I3.call' (ch := fp) I6.os I6.base I6.hok I6.bare fun b hb => ⟨(f3 b hb).2.2.2.1, (f3 b hb).2.1, (f3 b hb).2.2.2.2.1, (f3 b hb).2.2.2.2.2⟩
  have nC : H2 s3.heap.objs.size = none := by
    have z : H2 ce.locals = none := I6.free
    rw [hC] at z
    exact z
  obtain ⟨f0, f1, f2, f4, f5, f6⟩ := I3.fpOk (H' := H2) (Nat.le_refl _) nC
  have I8 := I7.turned (it := s3.heap.objs.size) (h' := PySem.W.hideAll sI.heap [s3.heap.objs.size]) (t' := sI.toks) (fun b o n e => PySem.W.hideAll_get _ e fun q => n (List.mem_singleton.mp q)) f0 f1 f4 f5 f6
  have hid : ∀ {b : Addr} {o : Obj}, (PySem.W.hideAll sI.heap [s3.heap.objs.size]).get? b = some o → b ≠ ce.locals ∧ sI.heap.get? b = some o := fun {b o} q => by
    refine ⟨fun w => ?_, PySem.W.of_hideAll _ q⟩
    rw [w, hC, PySem.W.hideAll_none _ (List.mem_singleton.mpr rfl)] at q
    cases q
  refine ⟨a, PySem.W.hideAll B [ce.locals], _, pins, σ, H2, cls, d, rfl, I8, fun b o e nf => ?_, fun b o e nd => ?_, .inr (.inr (by rw [hstk]; exact hh3)), na, os, ag, w⟩
  · obtain ⟨n, e'⟩ := hid e
    exact PySem.W.hideAll_get _ (nb b o e' nf) fun q => n (List.mem_singleton.mp q)
  · obtain ⟨n, e'⟩ := hid e
    obtain ⟨sl1, q1⟩ := up b o e' nd
    obtain ⟨sl2, q2⟩ := up1 b _ q1 nd
    obtain ⟨sl3, q3⟩ := up3 b _ ((sb.2 b n).trans q2) nd
    exact ⟨sl3, q3⟩
/-- a list comprehension without tests, its element raising by a call -/
theorem lcx_core {E : XK} {pins : List (Addr × Obj)} {s : Shared} {σ : L2.St} {H : Hp} {Q : VK} {elt tg iter : Expr} {scope : Scope} {own : List (Str × Nat)} {pos pos' : Pos} {wi : TI} {g : TG} {te : TE} {use : Option (Value → Sem Unit)} {Qf : Value → Shared → Prop}
    (hc : X.calm = true) (hN : X.N.Nodup) (hstk : X.stack = X.env :: X.outer) (hf : X.env.frame = some X.env.locals) (tk : Takes X fun c d _ H => E c d H) (I : Inv X pins σ H s) (hi : PI X tg iter wi) (ok : BlkOk X.N X.env.scope scope own)
    (hg : ∀ (s : Shared) (H : Hp) (C : Addr) (cl : List (Str × Addr)) (fp : List Addr), PG (X.blk s H scope (compEnvC scope cl C X.env) fp) tg g) (he : ∀ (s : Shared) (H : Hp) (C : Addr) (cl : List (Str × Addr)) (fp : List Addr), PE (bx X E s H scope (compEnvC scope cl C X.env) fp) elt te)
    (hs : ∀ x, foldedSetIterable iter X.env x = pure x) (h : tLc wi g tYes te (own.map (·.2)) σ H Q)
    (fin : ∀ D C s' m H', Inv X pins σ H' s' → Q (.ref D) H' → s'.heap.Ns C m → FpOk X pins H' C → ∀ ce : Env, ce.locals = C → compEnds (model X.prog X.w) X.A X.xe use Qf (.ref D) ce (.ok .next) s') :
    wpAny (model X.prog X.w) X.A (comprehension (.ListComp elt [⟨tg, iter, [], 0⟩] scope pos) scope X.env pos' (newList []) false (eval iter X.env) use) Qf X.xe s := by
  have cells : ∀ y ∈ scope.names, y.2 = .free → ∃ c, X.env.cells.lookup y.1 = some c := fun y hy e => (ok.free y hy e).elim (fun k => I.ok.has _ (.inl k)) fun k => I.ok.has _ (.inr k)
  refine comprehension_at rfl hs (closure_ok cells) ok.kind (fun y hy e => by rw [ok.uniq y hy, e]) (thn (hi.run pins s σ H _ I h) fun xv s1 hx => thn hx fun itv s2 start => ?_)
  obtain ⟨it, fp, tn, J, H2, rfl, I2, T, t2, f2, q⟩ := start
  refine wpAny_newObj_type (newEnv_comp ?_) (by show 0 ≤ sizeLine; decide)
  obtain ⟨D, eD⟩ : ∃ D, s2.heap.objs.size = D := ⟨_, rfl⟩
  have hD : H2 D = none := I2.hok.fresh (Nat.le_of_eq eD)
  obtain ⟨W, ⟨m0, w0⟩, turn⟩ := q D hD
  rw [eD]
  obtain ⟨s3, e3⟩ : ∃ s3 : Shared, s3 = { s2 with heap := s2.heap.push { cls := .type "list", data := .seq ([] : List Value).toArray } } := ⟨_, rfl⟩
  have ep : s3.heap = s2.heap.push { cls := .type "list", data := .seq ([] : List Value).toArray } := by rw [e3]
  have I3 : Inv X pins σ (upd H2 D (.lst [])) s3 := by
    rw [e3]
    refine I2.laid (t' := s2.toks) (fun b o e => Heap.get?_push_of_some _ e) (Nat.le_of_eq eD) ⟨Nat.zero_le _, [], 0, .nil, ?_⟩
    rw [← eD]
    exact Heap.get?_push_size _ rfl
  have low : ∀ b ∈ fp, b < s2.heap.objs.size := fun b hb => by
    obtain ⟨o, e, _⟩ := T.obj _ _ t2 b hb
    exact Heap.lt_size e
  have f3 : ∀ b ∈ fp, FpOk X pins (upd H2 D (.lst [])) b ∧ b < s3.heap.objs.size := fun b hb => by
    have l := low b hb
    refine ⟨⟨?_, (f2 b hb).2⟩, by rw [ep, Heap.size_push]; exact Nat.lt_succ_of_lt l⟩
    rw [upd_ne (by rw [← eD]; exact Nat.ne_of_lt l)]
    exact (f2 b hb).1
  have t3 : tn 0 s3.heap := T.keep _ _ _ t2 fun b _ o e => by rw [ep]; exact Heap.get?_push_of_some _ e
  have I4 := block_start I3 ok hN f3
  show codeAny _ _ (.compStart (.ListComp elt [⟨tg, iter, [], 0⟩] scope pos) 0 (.ref it) (.ref D) (compEnvC scope (cellsFrom ((s2.heap.push { cls := .type "list", data := .seq ([] : List Value).toArray }).objs.size + 1) scope.names (cloFrom X.env.cells scope.names [])) (s2.heap.push { cls := .type "list", data := .seq ([] : List Value).toArray }).objs.size X.env))
    (compEnds (model X.prog X.w) X.A X.xe use Qf (.ref D) (compEnvC scope (cellsFrom ((s2.heap.push { cls := .type "list", data := .seq ([] : List Value).toArray }).objs.size + 1) scope.names (cloFrom X.env.cells scope.names [])) (s2.heap.push { cls := .type "list", data := .seq ([] : List Value).toArray }).objs.size X.env))
    { s2 with heap := pushCells ((s2.heap.push { cls := .type "list", data := .seq ([] : List Value).toArray }).push { cls := .type "dict", data := .dict #[] }) scope.names }
  have back : ({ s2 with heap := pushCells ((s2.heap.push { cls := .type "list", data := .seq ([] : List Value).toArray }).push { cls := .type "dict", data := .dict #[] }) scope.names } : Shared) = { s3 with heap := pushCells (s3.heap.push { cls := .type "dict", data := .dict #[] }) scope.names } := by rw [e3]
  rw [back, ← ep]
  have pg := hg s3 (upd H2 D (.lst [])) s3.heap.objs.size (cellsFrom (s3.heap.objs.size + 1) scope.names (cloFrom X.env.cells scope.names [])) fp
  have pe := he s3 (upd H2 D (.lst [])) s3.heap.objs.size (cellsFrom (s3.heap.objs.size + 1) scope.names (cloFrom X.env.cells scope.names [])) fp
  obtain ⟨ce, ece⟩ : ∃ ce, ce = compEnvC scope (cellsFrom (s3.heap.objs.size + 1) scope.names (cloFrom X.env.cells scope.names [])) s3.heap.objs.size X.env := ⟨_, rfl⟩
  rw [← ece] at I4 pg pe ⊢
  have cL : ce.locals = s3.heap.objs.size := by rw [ece]; rfl
  have cF : ce.frame = X.env.frame := by rw [ece]; rfl
  have nfp : ∀ b ∈ fp, (upd H2 D (.lst [])) b = none := fun b hb => (f3 b hb).1.1
  revert I3 I4 pg pe w0 nfp f3
  generalize upd H2 D (.lst []) = H3
  intro w0 I3 f3 pe pg I4 nfp
  have out : ∀ u s', Fly (X.blk s3 H3 scope ce fp) E u s' → notedBy (model X.prog X.w) X.A ce (fun e s'' => compEnds (model X.prog X.w) X.A X.xe use Qf (.ref D) ce (.error e) s'') u s' := fun u s' c => fly_out I3 cL cF hstk hf tk (fun b hb => (f3 b hb).1) c
  have t4 : tn 0 (pushCells (s3.heap.push { cls := .type "dict", data := .dict #[] }) scope.names) := T.keep _ _ _ t3 fun b _ o e => pushCells_keeps _ _ _ _ (Heap.get?_push_of_some _ e)
  have still : ∀ {σ' : L2.St} {H' : Hp} {s' : Shared}, Inv (X.blk s3 H3 scope ce fp) [] σ' H' s' → (∀ b ∈ fp, H' b = none) → ∀ b ∈ fp, FpOk (X.blk s3 H3 scope ce fp) [] H' b := fun I' hn b hb =>
    ⟨hn b hb, (I'.ok.exf b hb).1, I'.ok.exfs b hb, .inl hb, fun x c e => (I'.ok.exf b hb).2 x c e, fun p hp => by cases hp⟩
  have loop : codeAny (model X.prog X.w) X.A (.compLoop (.ListComp elt [⟨tg, iter, [], 0⟩] scope pos) 0 (.ref it) (.ref D) ce) (compEnds (model X.prog X.w) X.A X.xe use Qf (.ref D) ce) { s3 with heap := pushCells (s3.heap.push { cls := .type "dict", data := .dict #[] }) scope.names } := by
    refine compLoop_any (fun n s' => ∃ i H', Inv (X.blk s3 H3 scope ce fp) [] (wipe σ (own.map (·.2))) H' s' ∧ tn i s'.heap ∧ (∀ b ∈ fp, H' b = none) ∧ W i n H') ?_ m0 ⟨0, H3, I4, t4, nfp, w0⟩
    rintro n s5 ⟨i, H5, I5, t5, n5, w5⟩
    rcases turn i n H5 w5 with ⟨stop, qq⟩ | ⟨go, Nx, hNx, stepE⟩
    · refine thnF (T.done (X.blk s3 H3 scope ce fp) rfl rfl rfl hc i [] s5 _ H5 (fun _ _ => False) I5 (still I5 n5) t5 stop) fun r s6 ⟨hr, I6⟩ => ?_
      subst hr
      have nC : H5 s3.heap.objs.size = none := by
        have z : H5 ce.locals = none := I6.free
        rw [cL] at z
        exact z
      obtain ⟨m, hn, _⟩ := I6.loc
      have hn' : s6.heap.Ns ce.locals m := hn
      exact fin D s3.heap.objs.size s6 m H5 (I3.call' (ch := fp) I6.os I6.base I6.hok I6.bare fun b hb => ⟨(f3 b hb).1.2.2.2.1, (f3 b hb).1.2.1, (f3 b hb).1.2.2.2.2.1, (f3 b hb).1.2.2.2.2.2⟩) qq (by rw [← cL]; exact hn') (I3.fpOk (Nat.le_refl _) nC) ce cL
    · refine thnF (T.item (X.blk s3 H3 scope ce fp) rfl rfl rfl hc i [] s5 _ H5 (fun _ _ => False) I5 (still I5 n5) t5 go) fun r s6 ⟨u, hr, h6⟩ => ?_
      subst hr
      refine thnF h6 fun _ s7 ⟨x, H7, I7, r7, y7, t7, n7⟩ => ?_
      refine thnF (pg.run _ s7 _ H7 x u _ (I7.pinned (still I7 n7) (T.obj _ _ t7)) r7 (stepE x H7 y7)) fun _ s8 ⟨σ8, H8, I8, hw8, q8⟩ => ?_
      refine wpAny_tests_nil ?_
      have q8' : te σ8 H8 fun y H4 => ∃ acc, H4 D = some (.lst acc) ∧ acc.length < sizeLine ∧ Nx (upd H4 D (.lst (acc ++ [y]))) := by
        have z : (if true = true then te σ8 H8 fun y H4 => ∃ acc, H4 D = some (.lst acc) ∧ acc.length < sizeLine ∧ Nx (upd H4 D (.lst (acc ++ [y]))) else Nx H8) := q8
        rw [if_pos rfl] at z
        exact z
      rw [if_pos rfl]
      refine wpAny_mono (pe.run _ s8 σ8 H8 _ (I8.wish _) q8') (fun z s10 ⟨yv, H10, I10, r10, acc, hD10, hz10, nx⟩ => ?_) fun u s' c => out u s' c
      refine wpAny_mono (app_ok (X := X.blk s3 H3 scope ce fp) (E := fun _ _ => False) I10.unwish hD10 hz10 r10 fun s11 I11 => ?_) (fun _ _ y => y) fun _ _ y => y.elim
      obtain ⟨m', hm, w'⟩ := hNx _ nx
      have pin' : ∀ b ∈ fp, ∀ o, s7.heap.get? b = some o → s11.heap.get? b = some o ∧ (upd H10 D (.lst (acc ++ [yv]))) b = none := fun b hb o e =>
        let z := I11.pin (b, o) (List.mem_append_right _ (List.mem_append_right _ (mem_pinsAt hb e)))
        ⟨z.1, z.2.1⟩
      refine ⟨m', hm, i + 1, _, (I11.unpinned (pins := [])).weak (by rw [← hw8, wipe_length]) (fun j v e => ?_), T.keep _ _ _ t7 fun b hb o e => (pin' b hb o e).1, fun b hb => ?_, w'⟩
      · rw [← hw8] at e
        exact (wipe_some e).1
      · obtain ⟨o, e, _⟩ := T.obj _ _ t7 b hb
        exact (pin' b hb o e).2
  exact codeAny_compStart_list loop (T.self X.A 0 _ _ _ t4 loop)
theorem pe_lcX {E : XK} {elt tg iter : Expr} {scope : Scope} {own : List (Str × Nat)} {pos : Pos} {wi : TI} {g : TG} {te : TE} (hc : X.calm = true) (hN : X.N.Nodup) (hstk : X.stack = X.env :: X.outer) (hf : X.env.frame = some X.env.locals) (tk : Takes X fun c d _ H => E c d H) (hi : PI X tg iter wi) (ok : BlkOk X.N X.env.scope scope own)
    (hg : ∀ (s : Shared) (H : Hp) (C : Addr) (cl : List (Str × Addr)) (fp : List Addr), PG (X.blk s H scope (compEnvC scope cl C X.env) fp) tg g) (he : ∀ (s : Shared) (H : Hp) (C : Addr) (cl : List (Str × Addr)) (fp : List Addr), PE (bx X E s H scope (compEnvC scope cl C X.env) fp) elt te)
    (hs : ∀ x, foldedSetIterable iter X.env x = pure x := by intro _; rfl) : PE X (.ListComp elt [⟨tg, iter, [], 0⟩] scope pos) (tLc wi g tYes te (own.map (·.2))) := by
  constructor
  intro pins s σ H Q I h
  rw [eval_ListComp]
  refine lcx_core hc hN hstk hf tk I hi ok hg he hs h fun D C s' m H' I' q hn f ce ec => ?_
  obtain ⟨f0, f1, f2, f3, f4, f5⟩ := f
  refine ⟨m, by rw [ec]; exact hn, fun h2 sb => ⟨.ref D, H', I'.turned (it := C) (t' := s'.toks) (fun b o n e => (sb.2 b (by rw [ec]; exact n)).trans e) f0 f1 f3 f4 f5, rfl, q⟩⟩
theorem ps_setLcX {E : XK} {i : Nat} {y : Str} {py : Pos} {elt tg iter : Expr} {scope : Scope} {own : List (Str × Nat)} {pos spos : Pos} {wi : TI} {g : TG} {te : TE} (hc : X.calm = true) (hN : X.N.Nodup) (hstk : X.stack = X.env :: X.outer) (hf : X.env.frame = some X.env.locals) (tk : Takes X fun c d _ H => E c d H)
    (hy : X.N[i]? = some y) (hyl : X.env.scope.names.lookup y = some .local) (hsw : swapsWith (.ListComp elt [⟨tg, iter, [], 0⟩] scope pos) (some (.Name y py)) spos.line X.env = pure true) (hi : PI X tg iter wi) (ok : BlkOk X.N X.env.scope scope own)
    (hg : ∀ (s : Shared) (H : Hp) (C : Addr) (cl : List (Str × Addr)) (fp : List Addr), PG (X.blk s H scope (compEnvC scope cl C X.env) fp) tg g) (he : ∀ (s : Shared) (H : Hp) (C : Addr) (cl : List (Str × Addr)) (fp : List Addr), PE (bx X E s H scope (compEnvC scope cl C X.env) fp) elt te)
    (hs : ∀ x, foldedSetIterable iter X.env x = pure x := by intro _; rfl) : PS X (.Assign [.Name y py] (.ListComp elt [⟨tg, iter, [], 0⟩] scope pos) spos) (tAsg (tLc wi g tYes te (own.map (·.2))) (gName i)) := by
  constructor
  intro pins s σ H D I h
  rw [exec_Assign_Name_used _ _ _ _ hsw]
  refine wpAny_bind (wpAny_standAt (wpAny_bind ?_))
  have h' : tLc wi g tYes te (own.map (·.2)) σ H (fun x H1 => gName i x σ H1 D.nx) := h
  show wpAny _ X.A (do let _ ← comprehension (.ListComp elt [⟨tg, iter, [], 0⟩] scope pos) scope X.env (firstIterPos [⟨tg, iter, [], 0⟩] pos) (newList []) false (eval iter X.env) (some (assign (.Name y py) X.env))) _ _ s
  refine wpAny_bind (thn (lcx_core (Qf := fun _ s' => SP X pins D .next s') hc hN hstk hf tk I hi ok hg he hs h' fun L C s' m H' I' q hn f ce ec => ?_) fun _ s' hq => wpAny_pure (wpAny_pure hq))
  show wpAny _ _ (assign (.Name y py) X.env (.ref L)) _ _ _
  obtain ⟨f0, f1, f2, f3, f4, f5⟩ := f
  refine wpAny_assign_Name (store_ok2 (v := V.ref L) I' hN hy (.inl hyl) rfl (fun s2 I2 ⟨a, sb, ha⟩ => ?_) (.inr hyl))
  have nCa : C ≠ a := fun e => ha.elim (fun z => f1 (e.trans z)) fun z => f4 y a z e.symm
  refine ⟨m, by rw [ec]; exact hn.sameBut sb nCa, fun h3 sb3 => ?_⟩
  exact ⟨_, H', I2.turned (it := C) (t' := s2.toks) (fun b o n e => (sb3.2 b (by rw [ec]; exact n)).trans e) f0 f1 f3 f4 f5, q⟩
end

/-! ### figures and lines, as they are read -/
abbrev figures : Str := "0123456789"
def figs (z : Str) : Bool := decide (∀ c ∈ z.cps.toList, c ∈ figures.cps.toList) && (decide (1 ≤ z.length ∧ z.length ≤ 30) && !(decide (z.cps.toList.head? = some 48) && decide (1 < z.length)))
def numOf (z : Str) : Option Nat := if figs z = true then some (NumText.digitsVal z.cps.toList) else none
theorem fig_of {c : Nat} (h : c ∈ figures.cps.toList) : 48 ≤ c ∧ c ≤ 57 := by
  have all : ∀ c, c ∈ figures.cps.toList → 48 ≤ c ∧ c ≤ 57 := by decide +kernel
  exact all c h
theorem figs_int {z : Str} (h : ∀ c ∈ z.cps.toList, c ∈ figures.cps.toList) (l : 1 ≤ z.length ∧ z.length ≤ 30) : PySem.intText? z = some ((NumText.digitsVal z.cps.toList : Nat) : Int) := by
  have hl : z.cps.toList.length = z.length := Array.length_toList
  refine intText_digits (fun c hc => fig_of (h c hc)) (fun e => ?_) (by omega)
  rw [e] at hl
  simp at hl
  omega
theorem digitsVal_lt : ∀ (cs : List Nat), (∀ c ∈ cs, c ∈ figures.cps.toList) → NumText.digitsVal cs < 10 ^ cs.length := by
  intro cs
  have gen : ∀ (n : Nat) (cs : List Nat), cs.length = n → (∀ c ∈ cs, c ∈ figures.cps.toList) → NumText.digitsVal cs < 10 ^ n := by
    intro n
    induction n with
    | zero =>
      intro cs hl _
      have : cs = [] := List.length_eq_zero_iff.mp hl
      subst this
      decide
    | succ n ih =>
      intro cs hl h
      obtain ⟨ds, d, rfl⟩ : ∃ ds d, cs = ds ++ [d] := by
        rcases List.eq_nil_or_concat cs with z | ⟨L, b, z⟩
        · rw [z] at hl; simp at hl
        · exact ⟨L, b, by rw [z, List.concat_eq_append]⟩
      rw [NumText.digitsVal_snoc]
      have k := ih ds (by simpa using hl) fun c hc => h c (List.mem_append_left _ hc)
      have f := fig_of (h d (by simp))
      rw [Nat.pow_succ]
      omega
  exact fun h => gen _ cs rfl h
theorem numOf_lt {z : Str} {n : Nat} (h : numOf z = some n) : n < 10 ^ 30 := by
  unfold numOf at h
  split at h
  · rename_i c
    cases h
    unfold figs at c
    obtain ⟨a, b⟩ := Bool.and_eq_true_iff.mp c
    have l := of_decide_eq_true (Bool.and_eq_true_iff.mp b).1
    have hl : z.cps.toList.length = z.length := Array.length_toList
    have q := digitsVal_lt _ (of_decide_eq_true a)
    rw [hl] at q
    exact Nat.lt_of_lt_of_le q (Nat.pow_le_pow_right (by decide) l.2)
  · cases h
theorem figs_sign {z : Str} {i c : Nat} (h : z.cps[i]? = some c) (n : ¬ c ∈ figures.cps.toList) : figs z = false := by
  have hm : c ∈ z.cps.toList := by
    have h2 : z.cps.toList[i]? = some c := by simpa using h
    exact List.mem_of_getElem? h2
  unfold figs
  rw [decide_eq_false (fun q => n (q c hm))]
  rfl
theorem figs_all {z : Str} (h : ∀ j c, j < z.cps.size → z.cps[j]? = some c → c ∈ figures.cps.toList) : ∀ c ∈ z.cps.toList, c ∈ figures.cps.toList := fun c hc => by
  obtain ⟨j, hj⟩ := List.getElem?_of_mem hc
  have h2 : z.cps[j]? = some c := by simpa using hj
  exact h j c (Array.getElem?_eq_some_iff.mp h2).1 h2
theorem figs_if {z : Str} (h : ∀ c ∈ z.cps.toList, c ∈ figures.cps.toList) : figs z = (decide (1 ≤ z.length ∧ z.length ≤ 30) && !(decide (z.cps.toList.head? = some 48) && decide (1 < z.length))) := by
  unfold figs
  rw [decide_eq_true h]
  rfl
theorem one_sign {c : Nat} : (decide ((⟨#[c]⟩ : Str) = "0")) = decide (c = 48) := by
  by_cases h : c = 48
  · subst h
    exact decide_eq_true (by decide +kernel)
  · rw [decide_eq_false h]
    refine decide_eq_false fun z => h ?_
    have h2 : ([c] : List Nat) = [48] := congrArg (fun z : Str => z.cps.toList) z
    injection h2
theorem head_at {z : Str} (l : 1 ≤ z.length) : ∃ c, atI z.cps.toList 0 = some c ∧ z.cps.toList.head? = some c := by
  have hl : z.cps.toList.length = z.length := Array.length_toList
  cases e : z.cps.toList with
  | nil => rw [e] at hl; simp at hl; omega
  | cons a r => exact ⟨a, atI_get (j := 0) rfl rfl, rfl⟩
def ltOf (z : Str) : Option Tl := match Txt.split z " " with
  | [a, b, c, d] => if isItem a = true then (match numOf b, numOf c, numOf d with
    | some x, some y, some u => some ⟨a, x, y, u⟩
    | _, _, _ => none) else none
  | _ => none
theorem ltOf_ok {z : Str} {t : Tl} (h : ltOf z = some t) : t.ok := by
  unfold ltOf at h
  split at h
  · split at h
    · rename_i a b c d e it
      split at h
      · rename_i x y u e1 e2 e3
        cases h
        exact ⟨it, numOf_lt e1, numOf_lt e2, numOf_lt e3⟩
      · cases h
    · cases h
  · cases h
/-- a part of a split text is no longer than it -/
theorem le_sum : ∀ {ls : List Nat} {n : Nat}, n ∈ ls → n ≤ ls.sum
  | a :: r, n, h => by
    rw [List.sum_cons]
    rcases List.mem_cons.mp h with e | h
    · omega
    · have := le_sum h
      omega
theorem split_len {z y : Str} (h : 1 ≤ y.length) : ∀ p, p ∈ Txt.split z y → p.length ≤ z.length := fun p hp => by
  have w := PyProof.Rows.split_weight z y h
  have l := List.length_pos_of_mem hp
  have := le_sum (List.mem_map_of_mem (f := fun q : Str => q.length) hp)
  omega
theorem split_many {z y : Str} (h : 1 ≤ y.length) : (Txt.split z y).length ≤ z.length + 1 := by
  have w := PyProof.Rows.split_weight z y h
  omega
theorem split_ne {z y : Str} : ∃ a r, Txt.split z y = a :: r := by
  unfold Txt.split
  split
  · exact ⟨_, _, rfl⟩
  split
  · exact ⟨_, _, rfl⟩
  · cases e : Builtin.Str.occurrences z y 0 z.length (z.length + 1) with
    | nil => exact ⟨_, _, rfl⟩
    | cons c r => exact ⟨_, _, rfl⟩
/-! ### the program reads them -/
def errN (K : PySem.W.Frag) : Value := .ref (He.ga K "NoDeed")
def spNumberIn (K : PySem.W.Frag) : Sp := fun vs H Q E => ∃ z : Str, vs = [.str z] ∧ z.length ≤ 90000 ∧ (∀ n, numOf z = some n → Q (.int (n : Int)) H) ∧ (numOf z = none → E (errN K) none H)
theorem len_NumberIn {K : PySem.W.Frag} {vs : List V} {H : Hp} {Q : VK} {E : XK} (h : spNumberIn K vs H Q E) : vs.length = 1 := by
  obtain ⟨_, rfl, _⟩ := h; rfl
theorem ok_NumberIn {P : Program} {w : World} {K : PySem.W.Frag} {mg : Str → Option Value} {base : Heap} (T : Tx w K mg) : FnOk P w K mg base (L2.CX P w) 1 (He.fAd K dNumberIn.at_) (fdO K dNumberIn.at_) P_NumberIn (spNumberIn K) := by
  refine T.f_NumberIn.ok sc_NumberIn (fun vs H Q E h => len_NumberIn h) (fun cdv A outer s H vs Q E hr h => ⟨_, ((pss_cons (ps_for (passes_of rfl) rfl (pi_str (pv 0)) (pg_name (i := 1) sc_NumberIn.nd rfl (Or.inl rfl)) (pss_one (ps_if (pt_cmpR op_notIn_sign (pv 1) (pe_gc rfl T.c_FIGURES) (by rfl)) (pss_one (ps_raise rfl (takes_of rfl rfl rfl rfl) (pmk_own PySem.F.excBase_ValueError T.x_NoDeed.1 T.g_NoDeed T.x_NoDeed.2.1 (raises_own T.x_NoDeed.2.2.1 T.x_NoDeed.2.2.2) rfl))) pss_nil)))
      (pss_cons (ps_if (PW.pt (pw_or (pt_not (pt_chain op_le op_le pe_int (pe_callB call_len_str (by rfl) T.b_len (by decide +kernel) (pa_cons (pv 0) pa_nil)) (pe_gc rfl T.c_MOST_FIGURES))) (pw_or1 (PW.pt (pw_and (pt_cmpR op_eq (pe_ix ix_str (pv 0) pe_int (fun _ _ => rfl)) pe_str (nomark _)) (pw_and1 (pt_cmpR op_gt (pe_callB call_len_str (by rfl) T.b_len (by decide +kernel) (pa_cons (pv 0) pa_nil)) pe_int (nomark _)))))))) (pss_one (ps_raise rfl (takes_of rfl rfl rfl rfl) (pmk_own PySem.F.excBase_ValueError T.x_NoDeed.1 T.g_NoDeed T.x_NoDeed.2.1 (raises_own T.x_NoDeed.2.2.1 T.x_NoDeed.2.2.2) rfl))) pss_nil)
      (pss_one (ps_ret (pe_callTy call_int_str (by rfl) T.b_int (by decide +kernel) (pa_cons (pv 0) pa_nil))))))), ?_⟩)
  obtain ⟨z, rfl, hz, k, kE⟩ := h
  have no : figs z = false → E (errN K) none H := fun f => kE (by unfold numOf; rw [f]; rfl)
  walk_at "rd"
  refine ⟨z, rfl, for_it walk_str (fun i σ H' => ∃ v, σ = [some (.str z), v] ∧ H' = H ∧ ∀ j c, j < i → z.cps[j]? = some c → c ∈ figures.cps.toList) ⟨none, rfl, rfl, fun j c hj => absurd hj (Nat.not_lt_zero _)⟩ (fun _ _ _ _ _ => trivial) ?_ ?_⟩
  · rintro i x σ H1 H2 hi ⟨v, rfl, rfl, hp⟩ ⟨rfl, c, hc, rfl⟩
    walk_at "rd"
    refine ⟨c, _, rfl, rfl, ?_⟩
    walk_at "rd"
    refine r_itn (fun hn => ?_) (fun hy => ?_)
    · exact no (figs_sign hc hn)
    · walk_at "rd"
      refine ⟨_, rfl, rfl, fun j c' hj e => ?_⟩
      by_cases h : j = i
      · subst h
        rw [hc] at e
        rw [← Option.some.inj e]
        exact hy
      · exact hp j c' (by omega) e
  · rintro σ H1 ⟨v, rfl, rfl, hp⟩
    have all := figs_all hp
    have fi := figs_if all
    walk_at "rd"
    refine ⟨_, rfl, sz5 (by omega), ?_⟩
    walk_at "rd"
    refine r_itd (fun c1 => ?_) (fun c1 => ?_)
    rotate_left
    · walk_at "rd"
      exact no (by rw [fi, decide_eq_false (by omega)]; rfl)
    walk_at "rd"
    refine r_itn (fun c2 => ?_) (fun c2 => ?_)
    · walk_at "rd"
      exact no (by rw [fi, decide_eq_false (by omega)]; rfl)
    walk_at "rd"
    have l : 1 ≤ z.length ∧ z.length ≤ 30 := ⟨by omega, by omega⟩
    rw [decide_eq_true l, Bool.true_and] at fi
    obtain ⟨c, e1, e2⟩ := head_at l.1
    have fin : figs z = true → ∃ a n', [V.str z] = [V.str a] ∧ PySem.intText? a = some n' ∧ a.length ≤ 640 ∧ Q (.int n') H1 := fun f => ⟨z, _, rfl, figs_int all l, by omega, k _ (by unfold numOf; rw [f]; rfl)⟩
    refine ⟨_, _, c, rfl, rfl, sz5 (by omega), e1, ?_⟩
    rw [e2] at fi
    walk_at "rd"
    rw [one_sign]
    refine r_itd (fun c3 => ?_) (fun c3 => ?_)
    · walk_at "rd"
      refine ⟨_, rfl, sz5 (by omega), ?_⟩
      walk_at "rd"
      refine r_itd (fun c4 => ?_) (fun c4 => ?_)
      · walk_at "rd"
        refine no ?_
        rw [fi, decide_eq_true (by rw [c3]), decide_eq_true (by omega)]; rfl
      · walk_at "rd"
        refine fin ?_
        rw [fi, decide_eq_false (p := 1 < z.length) (by omega), Bool.and_false]; rfl
    · walk_at "rd"
      refine fin ?_
      rw [fi, decide_eq_false (p := some c = some 48) (fun w => c3 (Option.some.inj w))]; rfl
def spLineIn (K : PySem.W.Frag) : Sp := fun vs H Q E => ∃ z : Str, vs = [.str z] ∧ z.length ≤ 90000 ∧ (∀ t, ltOf z = some t → ∀ v H', Same H H' → TupAt H' v t.row → Q v H') ∧ (ltOf z = none → ∀ H', Same H H' → E (errN K) none H')
theorem len_LineIn {K : PySem.W.Frag} {vs : List V} {H : Hp} {Q : VK} {E : XK} (h : spLineIn K vs H Q E) : vs.length = 1 := by
  obtain ⟨_, rfl, _⟩ := h; rfl
theorem ok_LineIn {P : Program} {w : World} {K : PySem.W.Frag} {mg : Str → Option Value} {base : Heap} (T : Tx w K mg) : FnOk P w K mg base (L2.CX P w) 2 (He.fAd K dLineIn.at_) (fdO K dLineIn.at_) P_LineIn (spLineIn K) := by
  refine T.f_LineIn.ok sc_LineIn (fun vs H Q E h => len_LineIn h) (fun cdv A outer s H vs Q E hr h => ⟨_, ((pss_cons (ps_set (i := 1) sc_LineIn.nd rfl (Or.inl rfl) (pe_bm PySem.F.plainAttrs_str PySem.F.slot_str_split PySem.F.type_str_split mt_split (pv 0) (pa_cons pe_str pa_nil)))
      (pss_cons (ps_if (PW.pt (pw_or (pt_cmpR op_ne (pe_callB call_len_seq (by rfl) T.b_len (by decide +kernel) (pa_cons (pv 1) pa_nil)) pe_int (nomark _)) (pw_or1 (pt_not (pt_val (pe_call (ok_IsItem T) (hr.mono (by decide)) rfl T.g_IsItem T.f_IsItem.kp T.b_IsItem .nil pass0 (pa_cons (pe_ix ix_list (pv 1) pe_int (fun _ _ => rfl)) pa_nil))))))) (pss_one (ps_raise rfl (takes_of rfl rfl rfl rfl) (pmk_own PySem.F.excBase_ValueError T.x_NoDeed.1 T.g_NoDeed T.x_NoDeed.2.1 (raises_own T.x_NoDeed.2.2.1 T.x_NoDeed.2.2.2) rfl))) pss_nil)
      (pss_one (ps_ret (pe_tup (pa_cons (pe_ix ix_list (pv 1) pe_int (fun _ _ => rfl)) (pa_cons (pe_call (ok_NumberIn T) (hr.mono (by decide)) rfl T.g_NumberIn T.f_NumberIn.kp T.b_NumberIn .nil (passes_call (takes_of rfl rfl rfl rfl) (fun _ _ _ _ h => h)) (pa_cons (pe_ix ix_list (pv 1) pe_int (fun _ _ => rfl)) pa_nil)) (pa_cons (pe_call (ok_NumberIn T) (hr.mono (by decide)) rfl T.g_NumberIn T.f_NumberIn.kp T.b_NumberIn .nil (passes_call (takes_of rfl rfl rfl rfl) (fun _ _ _ _ h => h)) (pa_cons (pe_ix ix_list (pv 1) pe_int (fun _ _ => rfl)) pa_nil)) (pa_cons (pe_call (ok_NumberIn T) (hr.mono (by decide)) rfl T.g_NumberIn T.f_NumberIn.kp T.b_NumberIn .nil (passes_call (takes_of rfl rfl rfl rfl) (fun _ _ _ _ h => h)) (pa_cons (pe_ix ix_list (pv 1) pe_int (fun _ _ => rfl)) pa_nil)) pa_nil)))))))))), ?_⟩)
  obtain ⟨z, rfl, hz, k, kE⟩ := h
  walk_at "rd"
  refine ⟨rfl, ?_⟩
  walk_at "rd"
  refine ⟨_, _, rfl, rfl, by decide +kernel, sz5 (by omega), fun p hp => ?_⟩
  have sl := fun p hp => split_len (z := z) (y := " ") (by decide +kernel) p hp
  obtain ⟨ps, eps⟩ : ∃ ps, ps = Txt.split z " " := ⟨_, rfl⟩
  rw [← eps] at sl ⊢
  have s1 := same_upd (o := .lst (ps.map V.str)) hp
  have ep : upd H p (.lst (ps.map V.str)) p = some (.lst (ps.map V.str)) := upd_same
  revert s1 ep
  generalize upd H p (.lst (ps.map V.str)) = H1
  intro s1 ep
  walk_at "rd"
  refine ⟨p, _, rfl, .inl (SqL.of ep), ?_⟩
  rw [List.length_map]
  walk_at "rd"
  refine r_itn (fun c => ?_) (fun c => ?_)
  · walk_at "rd"
    refine kE ?_ _ s1
    unfold ltOf
    rw [← eps]
    split
    · exact absurd rfl c
    · rfl
  match ps, sl, eps, ep, c with
  | [a, b, c', d], sl, eps, ep, _ =>
  have la := sl a (by simp)
  have lb := sl b (by simp)
  have lc := sl c' (by simp)
  have ld := sl d (by simp)
  have lt : ltOf z = if isItem a = true then (match numOf b, numOf c', numOf d with
    | some x, some y, some u => some ⟨a, x, y, u⟩
    | _, _, _ => none) else none := by
    unfold ltOf
    rw [← eps]
  walk_at "rd"
  refine r_ixL (SqL.of ep) (atI_get (j := 0) rfl rfl) ?_
  walk_at "rd"
  refine ⟨a, rfl, by omega, ?_⟩
  cases it : isItem a with
  | false =>
    rw [it, if_neg (by decide)] at lt
    walk_at "rd"
    exact kE lt _ s1
  | true =>
    rw [it, if_pos rfl] at lt
    walk_at "rd"
    refine r_ixL (SqL.of ep) (atI_get (j := 0) rfl rfl) ?_
    walk_at "rd"
    refine r_ixL (SqL.of ep) (atI_get (j := 1) rfl rfl) ?_
    walk_at "rd"
    refine ⟨b, rfl, by omega, fun x ex => ?_, fun ex => kE (by rw [lt, ex]) _ s1⟩
    walk_at "rd"
    refine r_ixL (SqL.of ep) (atI_get (j := 2) rfl rfl) ?_
    walk_at "rd"
    refine ⟨c', rfl, by omega, fun y ey => ?_, fun ey => kE (by rw [lt, ex, ey]) _ s1⟩
    walk_at "rd"
    refine r_ixL (SqL.of ep) (atI_get (j := 3) rfl rfl) ?_
    walk_at "rd"
    refine ⟨d, rfl, by omega, fun u eu => ?_, fun eu => kE (by rw [lt, ex, ey, eu]) _ s1⟩
    walk_at "rd"
    rw [ex, ey, eu] at lt
    exact r_mk (by simp) fun q hq => k _ lt _ _ (s1.trans (same_upd hq)) ⟨q, rfl, upd_same⟩

/-! ### the words of deeds -/
theorem key_at {es : List DictEntry} {w : World} {ks : List Str} (h : es.map He.keyOf = He.keysIn w.params ks) : ∀ e, e ∈ es → ∃ k t, k ∈ ks ∧ e.key = .str k t := by
  intro e he
  have hm : He.keyOf e ∈ He.keysIn w.params ks := by
    rw [← h]
    exact List.mem_map_of_mem he
  unfold He.keysIn at hm
  obtain ⟨k, hk, e1⟩ := List.mem_map.mp hm
  unfold He.keyOf at e1
  split at e1
  · rename_i x t q
    have e2 := congrArg Prod.fst (Option.some.inj e1)
    have e3 : k = x := e2
    subst e3
    exact ⟨k, t, hk, q⟩
  · cases e1
theorem lookup_mem {ks : List (Str × Int)} {z : Str} {n : Int} (h : ks.lookup z = some n) : (z, n) ∈ ks := by
  induction ks with
  | nil => cases h
  | cons a r ih =>
    obtain ⟨k, m⟩ := a
    rw [List.lookup_cons] at h
    by_cases c : z = k
    · subst c
      rw [beq_self_eq_true] at h
      cases h
      exact List.mem_cons_self
    · have q : (z == k) = false := by simpa using c
      rw [q] at h
      exact List.mem_cons_of_mem _ (ih h)
theorem lookup_no {ks : List (Str × Int)} {z : Str} (h : ks.lookup z = none) : ¬ z ∈ ks.map (·.1) := by
  induction ks with
  | nil => simp
  | cons a r ih =>
    obtain ⟨k, m⟩ := a
    rw [List.lookup_cons] at h
    by_cases c : z = k
    · subst c
      rw [beq_self_eq_true] at h
      cases h
    · have q : (z == k) = false := by simpa using c
      rw [q] at h
      intro hm
      rcases List.mem_cons.mp hm with e | e
      · exact c e
      · exact ih h e
theorem Tx.pt {w : World} {K : PySem.W.Frag} {mg : Str → Option Value} (T : Tx w K mg) (z : Str) :
    (∃ n, parts.lookup z = some n ∧ ∃ u, PySem.W.nsIn K (He.ga K "PARTS") z = some (some u) ∧ RelV (.int n) u) ∨ (parts.lookup z = none ∧ PySem.W.nsIn K (He.ga K "PARTS") z = some none) := by
  cases e : parts.lookup z with
  | some n =>
    refine .inl ⟨n, rfl, ?_⟩
    have hm : (z, He.Dv.int n) ∈ parts.map fun p => (p.1, He.Dv.int p.2) := List.mem_map.mpr ⟨(z, n), lookup_mem e, rfl⟩
    exact He.valsB_ok T.kv hm
  | none =>
    refine .inr ⟨rfl, ?_⟩
    obtain ⟨es, m, lk, lit, ky, low⟩ := T.kd
    have hk := key_at ky
    have no := lookup_no e
    unfold PySem.W.nsIn
    rw [lk]
    have f : es.toList.find? (fun e => e.key.isStr z) = none := by
      rw [List.find?_eq_none]
      intro d hd
      obtain ⟨k, t, hm, q⟩ := hk d hd
      rw [q]
      show ¬ (k == z) = true
      intro y
      have y2 : k = z := by simpa using y
      rw [← y2] at no
      exact no hm
    have g : es.toList.any (fun e => e.refKey) = false := by
      rw [List.any_eq_false]
      intro d hd
      obtain ⟨k, t, hm, q⟩ := hk d hd
      simp [DictEntry.refKey, q]
    dsimp only
    rw [f]
    dsimp only
    rw [g]
    rfl
section
variable {X : Cx} {d : Addr} {ks : List Str}
theorem op_notIn_pt (D : ∃ es n, X.K.lookup d = some ⟨.type "dict", none, .dict es n, #[]⟩ ∧ PySem.W.KeysLit X.w.params es.toList ∧ es.toList.map He.keyOf = He.keysIn X.w.params ks ∧ (d == sysModules) = false) :
    OpR X (compareOp .NotIn) (fun x y H Q => ∃ (z : Str) (r : Option Value), x = .str z ∧ y = .ref d ∧ PySem.W.nsIn X.K d z = some r ∧ Q (.bl (!r.isSome)) H) := by
  obtain ⟨es, n, h1, h2, _, h4⟩ := D
  exact op_notIn_kd ⟨h1, h2, h4⟩
end

/-! ### a text read -/
def mapO {α β : Type} (f : α → Option β) : List α → Option (List β)
  | [] => some []
  | a :: r => match f a, mapO f r with
    | some b, some bs => some (b :: bs)
    | _, _ => none
theorem mapO_app {α β : Type} {f : α → Option β} : ∀ {l : List α} {m : List α}, mapO f (l ++ m) = match mapO f l, mapO f m with
    | some bs, some cs => some (bs ++ cs)
    | _, _ => none
  | [], m => by
    show mapO f m = _
    cases mapO f m <;> rfl
  | a :: r, m => by
    have ih := mapO_app (f := f) (l := r) (m := m)
    show (match f a, mapO f (r ++ m) with | some b, some bs => some (b :: bs) | _, _ => none) = _
    rw [ih]
    show _ = match (match f a, mapO f r with | some b, some bs => some (b :: bs) | _, _ => none), mapO f m with
      | some bs, some cs => some (bs ++ cs)
      | _, _ => none
    cases f a <;> cases mapO f r <;> cases mapO f m <;> rfl
theorem mapO_len {α β : Type} {f : α → Option β} : ∀ {l : List α} {bs : List β}, mapO f l = some bs → bs.length = l.length
  | [], bs, h => by cases h; rfl
  | a :: r, bs, h => by
    have h' : (match f a, mapO f r with | some b, some bs => some (b :: bs) | _, _ => none) = some bs := h
    cases e1 : f a with
    | none => rw [e1] at h'; cases h'
    | some b =>
      cases e2 : mapO f r with
      | none => rw [e1, e2] at h'; cases h'
      | some cs =>
        rw [e1, e2] at h'
        cases h'
        rw [List.length_cons, List.length_cons, mapO_len e2]
theorem mapO_mem {α β : Type} {f : α → Option β} : ∀ {l : List α} {bs : List β} {b : β}, mapO f l = some bs → b ∈ bs → ∃ a, a ∈ l ∧ f a = some b
  | [], bs, b, h, hb => by cases h; cases hb
  | a :: r, bs, b, h, hb => by
    have h' : (match f a, mapO f r with | some b, some bs => some (b :: bs) | _, _ => none) = some bs := h
    cases e1 : f a with
    | none => rw [e1] at h'; cases h'
    | some b' =>
      cases e2 : mapO f r with
      | none => rw [e1, e2] at h'; cases h'
      | some cs =>
        rw [e1, e2] at h'
        cases h'
        rcases List.mem_cons.mp hb with rfl | hb
        · exact ⟨a, List.mem_cons_self, e1⟩
        · obtain ⟨x, hx, e⟩ := mapO_mem e2 hb
          exact ⟨x, List.mem_cons_of_mem _ hx, e⟩
theorem mapO_snoc {α β : Type} {f : α → Option β} {l : List α} {bs : List β} {i : Nat} {a : α} {b : β} (h : mapO f (l.take i) = some bs) (ha : l[i]? = some a) (e : f a = some b) : mapO f (l.take (i + 1)) = some (bs ++ [b]) := by
  rw [take_snoc ha, mapO_app, h]
  show (match (some bs : Option (List β)), (match f a, mapO f [] with | some b, some bs => some (b :: bs) | _, _ => none) with | some bs, some cs => some (bs ++ cs) | _, _ => none) = _
  rw [e]
  rfl
theorem mapO_bad {α β : Type} {f : α → Option β} : ∀ {l : List α} {i : Nat} {a : α}, l[i]? = some a → f a = none → mapO f l = none
  | [], i, a, h, _ => by simp at h
  | x :: r, 0, a, h, e => by
    cases h
    show (match f x, mapO f r with | some b, some bs => some (b :: bs) | _, _ => none) = none
    rw [e]
  | x :: r, i + 1, a, h, e => by
    have ih := mapO_bad (l := r) (i := i) (by simpa using h) e
    show (match f x, mapO f r with | some b, some bs => some (b :: bs) | _, _ => none) = none
    rw [ih]
    cases f x <;> rfl
/-- elements that may fail -/
theorem lcp_opt {K : PySem.W.Frag} {te : TE} {j : Nat} {σ : L2.St} {H1 : Hp} {Q : VK} {p : Addr} {α β : Type} {ps : List α} {g : α → V} {f : α → Option β} {R : Hp → V → β → Prop} {F : Hp → Prop} (hs : SqL K H1 p (ps.map g)) (hz : ps.length ≤ 100000)
    (stab : ∀ H H' v z, R H v z → (∀ b ys, H b = some (.tup ys) → H' b = some (.tup ys)) → R H' v z)
    (he : ∀ (i : Nat) (x : α) (H' : Hp) (W : VK), ps[i]? = some x → Same H1 H' → (∀ b, f x = some b → ∀ y H'', Same H' H'' → R H'' y b → W y H'') → (f x = none → ∀ H'', Same H' H'' → F H'') → te ((wipe σ [j]).set j (some (g x))) H' W)
    (kF : mapO f ps = none → ∀ H', Same H1 H' → F H')
    (k : ∀ bs, mapO f ps = some bs → ∀ (D : Addr) (H' : Hp) (acc : List V), H1 D = none → Same H1 H' → H' D = some (.lst acc) → Paired (R H') acc bs → Q (.ref D) H') : ∃ a', V.ref p = V.ref a' ∧ (∃ xs, SqL K H1 a' xs) ∧ Lcs (Itl K a') (gName j) tYes te [j] σ H1 Q := by
  refine ⟨p, rfl, ⟨_, hs⟩, fun D hD => ?_⟩
  refine lc_list (K := K) (a := p) (xs := ps.map g) (fun i H' => Same H1 H' ∧ ∃ acc bs, H' D = some (.lst acc) ∧ mapO f (ps.take i) = some bs ∧ Paired (R H') acc bs) ⟨same_upd hD, [], [], upd_same, rfl, .nil⟩ (fun i H' _ q => q.1.seq hs) ?_ ?_
  · rintro i x H' hi ⟨s, acc, bs, e, m, pr⟩
    rw [List.getElem?_map] at hi
    cases ea : ps[i]? with
    | none => rw [ea] at hi; cases hi
    | some a =>
      rw [ea] at hi
      cases hi
      have il := (List.getElem?_eq_some_iff.mp ea).1
      refine ⟨wipe1, r_yes (r_itT ?_)⟩
      refine he i a H' _ ea s (fun b eb y H'' s2 r => ⟨acc, s2 _ _ e, ?_, ?_, acc ++ [y], bs ++ [b], upd_same, mapO_snoc m ea eb, ?_⟩) fun eb H'' s2 => kF (mapO_bad ea eb) _ (s.trans s2)
      · have l1 := pr.length
        have l2 := mapO_len m
        rw [List.length_take] at l2
        exact sz5l (by omega)
      · exact fun b o q => by
          rw [upd_ne (ne_of_none q hD)]
          exact s2 _ _ (s _ _ q)
      · have bt : ∀ b ys, H'' b = some (.tup ys) → upd H'' D (.lst (acc ++ [y])) b = some (.tup ys) := fun b ys q => by
          rw [upd_ne (ne_of q (s2 _ _ e) (by intro z; cases z))]; exact q
        exact Paired.snoc (Paired.mapP pr fun v z q => stab _ _ v z q fun b ys w => bt b ys (s2 _ _ w)) (stab _ _ _ _ r bt)
  · rintro H' ⟨s, acc, bs, e, m, pr⟩
    rw [List.length_map, List.take_length] at m
    exact k bs m D H' acc hD s e pr
def rdOf (z : Str) : Option Td :=
  if cutS z none (some 6) = "order " then (mapO ltOf (Txt.split (cutS z (some 6) none) ", ")).map Td.ord
  else match Txt.split z " " with
    | w :: ws => if w ≠ "order" ∧ parts.lookup w = some ((ws.length : Int) + 1) then (mapO numOf ws).map (Td.nums w) else none
    | [] => none
def numV (_ : Hp) (v : V) (n : Nat) : Prop := v = .int (n : Int)
theorem numV_all {H : Hp} : ∀ {acc : List V} {ns : List Nat}, Paired (numV H) acc ns → acc = numsOf ns
  | _, _, .nil => rfl
  | _, _, .cons h r => by
    have h' : _ = V.int _ := h
    rw [h', numV_all r]; rfl
theorem part_len {w : Str} {n : Int} (h : parts.lookup w = some n) (no : w ≠ "order") : n = 4 ∨ n = 3 := by
  have hm := lookup_mem h
  unfold parts at hm
  simp only [List.mem_cons, Prod.mk.injEq, List.not_mem_nil, or_false] at hm
  rcases hm with h | h | h | h | h | h | h | h
  · exact absurd h.1 no
  all_goals first | exact .inl h.2 | exact .inr h.2
def spRead (K : PySem.W.Frag) : Sp := fun vs H Q E => ∃ z : Str, vs = [.str z] ∧ z.length ≤ 90000 ∧ (∀ d, rdOf z = some d → ∀ v H', Same H H' → TdA H' v d → (∀ t l, v = .ref t → H' t = some (.tup [.str "order", .ref l]) → H l = none) → Q v H') ∧ (rdOf z = none → ∀ H', Same H H' → E (errN K) none H')
theorem len_Read {K : PySem.W.Frag} {vs : List V} {H : Hp} {Q : VK} {E : XK} (h : spRead K vs H Q E) : vs.length = 1 := by
  obtain ⟨_, rfl, _⟩ := h; rfl
theorem ok_Read {P : Program} {w : World} {K : PySem.W.Frag} {mg : Str → Option Value} {base : Heap} (T : Tx w K mg) : FnOk P w K mg base (L2.CX P w) 3 (He.fAd K dRead.at_) (fdO K dRead.at_) P_Read (spRead K) := by
  refine T.f_Read.ok sc_Read (fun vs H Q E h => len_Read h) (fun cdv A outer s H vs Q E hr h => ⟨_, ((pss_cons (ps_if (pt_cmpR op_eq (pe_slice sl_str (pv 0) po_none (po_some pe_int)) pe_str (nomark _)) (pss_one (ps_ret (pe_tup (pa_cons pe_str (pa_cons (pe_lcX (E := E) (own := [("line", 1)]) (g := gName 1) rfl sc_Read.nd rfl rfl (takes_of rfl rfl rfl rfl) (pi_list (pe_bm PySem.F.plainAttrs_str PySem.F.slot_str_split PySem.F.type_str_split mt_split (pe_slice sl_str (pv 0) (po_some pe_int) po_none) (pa_cons pe_str pa_nil))) (blkOk_by (N := N_Read) (sc := defScope sRead) (by decide +kernel)) (fun _ _ _ _ _ => pg_name (i := 1) sc_Read.nd rfl (Or.inl rfl)) (fun _ _ _ _ _ => (pe_call (ok_LineIn T) (hr.mono (by decide)) rfl T.g_LineIn T.f_LineIn.kp T.b_LineIn .nil fly_pass (pa_cons (pv 1) pa_nil)))) pa_nil))))) pss_nil)
      (pss_cons (ps_set (i := 2) sc_Read.nd rfl (Or.inl rfl) (pe_bm PySem.F.plainAttrs_str PySem.F.slot_str_split PySem.F.type_str_split mt_split (pv 0) (pa_cons pe_str pa_nil)))
      (pss_cons (ps_if (PW.pt (pw_or (pt_cmpR op_eq (pe_ix ix_list (pv 2) pe_int (fun _ _ => rfl)) pe_str (nomark _)) (pw_or (pt_cmpR (op_notIn_pt T.kd) (pe_ix ix_list (pv 2) pe_int (fun _ _ => rfl)) (pe_glob rfl T.c_PARTS (v := .ref (He.ga K "PARTS")) rfl) (by rfl)) (pw_or1 (pt_cmpR op_ne (pe_callB call_len_seq (by rfl) T.b_len (by decide +kernel) (pa_cons (pv 2) pa_nil)) (pe_ix ix_kdict (pe_glob rfl T.c_PARTS (v := .ref (He.ga K "PARTS")) rfl) (pe_ix ix_list (pv 2) pe_int (fun _ _ => rfl)) (fun _ _ => rfl)) (nomark _)))))) (pss_one (ps_raise rfl (takes_of rfl rfl rfl rfl) (pmk_own PySem.F.excBase_ValueError T.x_NoDeed.1 T.g_NoDeed T.x_NoDeed.2.1 (raises_own T.x_NoDeed.2.2.1 T.x_NoDeed.2.2.2) rfl))) pss_nil)
      (pss_cons (ps_setLcX (i := 4) (E := E) (own := [("part", 3)]) (g := gName 3) rfl sc_Read.nd rfl rfl (takes_of rfl rfl rfl rfl) rfl rfl (sw_true rfl rfl rfl (by decide +kernel)) (pi_list (pe_slice sl_list (pv 2) (po_some pe_int) po_none)) (blkOk_by (N := N_Read) (sc := defScope sRead) (by decide +kernel)) (fun _ _ _ _ _ => pg_name (i := 3) sc_Read.nd rfl (Or.inl rfl)) (fun _ _ _ _ _ => (pe_call (ok_NumberIn T) (hr.mono (by decide)) rfl T.g_NumberIn T.f_NumberIn.kp T.b_NumberIn .nil fly_pass (pa_cons (pv 3) pa_nil))))
      (pss_cons (ps_if (pt_cmpR op_eq (pe_callB call_len_seq (by rfl) T.b_len (by decide +kernel) (pa_cons (pv 4) pa_nil)) pe_int (nomark _)) (pss_one (ps_ret (pe_tup (pa_cons (pe_ix ix_list (pv 2) pe_int (fun _ _ => rfl)) (pa_cons (pe_ix ix_list (pv 4) pe_int (fun _ _ => rfl)) (pa_cons (pe_ix ix_list (pv 4) pe_int (fun _ _ => rfl)) pa_nil)))))) pss_nil)
      (pss_one (ps_ret (pe_tup (pa_cons (pe_ix ix_list (pv 2) pe_int (fun _ _ => rfl)) (pa_cons (pe_ix ix_list (pv 4) pe_int (fun _ _ => rfl)) (pa_cons (pe_ix ix_list (pv 4) pe_int (fun _ _ => rfl)) (pa_cons (pe_ix ix_list (pv 4) pe_int (fun _ _ => rfl)) pa_nil))))))))))))), ?_⟩)
  obtain ⟨z, rfl, hz, k, kE⟩ := h
  walk_at "rd"
  refine ⟨_, rfl, sz5 (by omega), ?_⟩
  walk_at "rd"
  refine r_itd (fun ho => ?_) (fun ho => ?_)
  · have rd : rdOf z = (mapO ltOf (Txt.split (cutS z (some 6) none) ", ")).map Td.ord := if_pos ho
    have tl : (cutS z (some 6) none).length ≤ 90000 := Nat.le_trans (cutS_length z _ _) hz
    walk_at "rd"
    refine ⟨_, rfl, sz5 (by omega), ?_⟩
    refine ⟨rfl, ?_⟩
    walk_at "rd"
    refine ⟨_, _, rfl, rfl, by decide +kernel, sz5 (by omega), fun p hp => ?_⟩
    have sl := fun p hp => split_len (z := cutS z (some 6) none) (y := ", ") (by decide +kernel) p hp
    have sm := split_many (z := cutS z (some 6) none) (y := ", ") (by decide +kernel)
    revert rd sl sm
    generalize Txt.split (cutS z (some 6) none) ", " = ps
    intro rd sl sm
    have s1 := same_upd (o := .lst (ps.map V.str)) hp
    refine lcp_opt (ps := ps) (g := V.str) (f := ltOf) (R := fun H v t => TupAt H v t.row) (F := fun H' => E (errN K) none H') (SqL.of upd_same) (by omega) (fun H H' v t ⟨q, e, h⟩ st => ⟨q, e, st _ _ h⟩) ?_ (fun m H' s => kE (by rw [rd, m]; rfl) _ (s1.trans s)) ?_
    · intro i x H' W ex s q qF
      walk_at "rd"
      exact ⟨x, rfl, by have := sl x (List.mem_of_getElem? ex); omega, fun t et v H2 s2 hv => q t et v H2 s2 hv, fun et H2 s2 => qF et H2 s2⟩
    · intro bs m D H' acc hD s e pr
      walk_at "rd"
      refine r_mk (by simp) fun t ht => ?_
      have s2 := same_upd (o := .tup [.str "order", .ref D]) ht
      have pr' : Paired (TupAt H') acc (bs.map Tl.row) := by
        clear m rd k kE e
        induction pr with
        | nil => exact .nil
        | cons h r ih => exact .cons h ih
      exact k (.ord bs) (by rw [rd, m]; rfl) _ _ ((s1.trans s).trans s2) ⟨t, D, acc, rfl, upd_same, s2 _ _ e, tup_keep (But.of (S := fun _ => False) s2) pr'⟩ fun t' l' e1 e2 => by
        cases e1
        rw [upd_same] at e2
        cases e2
        exact Same.free s1 hD
  · have rd : rdOf z = match Txt.split z " " with
      | w :: ws => if w ≠ "order" ∧ parts.lookup w = some ((ws.length : Int) + 1) then (mapO numOf ws).map (Td.nums w) else none
      | [] => none := if_neg ho
    walk_at "rd"
    refine ⟨rfl, ?_⟩
    walk_at "rd"
    refine ⟨_, _, rfl, rfl, by decide +kernel, sz5 (by omega), fun p hp => ?_⟩
    have sl := fun p hp => split_len (z := z) (y := " ") (by decide +kernel) p hp
    have sm := split_many (z := z) (y := " ") (by decide +kernel)
    obtain ⟨w', ws, ew⟩ := split_ne (z := z) (y := " ")
    rw [ew] at rd sl sm ⊢
    have s1 := same_upd (o := .lst ((w' :: ws).map V.str)) hp
    have ep : upd H p (.lst ((w' :: ws).map V.str)) p = some (.lst ((w' :: ws).map V.str)) := upd_same
    revert s1 ep
    generalize upd H p (.lst ((w' :: ws).map V.str)) = H1
    intro s1 ep
    walk_at "rd"
    refine r_ixL (SqL.of ep) (atI_get (j := 0) rfl rfl) ?_
    walk_at "rd"
    have no : ¬ (w' ≠ "order" ∧ parts.lookup w' = some ((ws.length : Int) + 1)) → ∀ H', Same H1 H' → E (errN K) none H' := fun c H' s => kE (by rw [rd]; exact if_neg c) _ (s1.trans s)
    refine r_itd (fun c => ?_) (fun c => ?_)
    · exact no (fun q => q.1 c) _ (Same.refl _)
    walk_at "rd"
    refine r_ixL (SqL.of ep) (atI_get (j := 0) rfl rfl) ?_
    walk_at "rd"
    rcases T.pt w' with ⟨n, e1, u, e2, ru⟩ | ⟨e1, e2⟩
    rotate_left
    · refine ⟨w', _, rfl, rfl, e2, ?_⟩
      walk_at "rd"
      exact no (fun q => by rw [e1] at q; cases q.2) _ (Same.refl _)
    refine ⟨w', _, rfl, rfl, e2, ?_⟩
    walk_at "rd"
    refine r_itnT ?_
    walk_at "rd"
    refine ⟨_, _, rfl, .inl (SqL.of ep), ?_⟩
    walk_at "rd"
    refine r_ixL (SqL.of ep) (atI_get (j := 0) rfl rfl) ?_
    obtain ⟨es, m, lk, lit, ky, low⟩ := T.kd
    refine ⟨_, w', .int n, rfl, rfl, ⟨es, m, u, lk, lit, e2, ru⟩, ?_⟩
    walk_at "rd"
    have lw : ((((w' :: ws).map V.str).length : Nat) : Int) = (ws.length : Int) + 1 := by simp
    rw [lw]
    refine r_itn (fun q => ?_) (fun q => ?_)
    · exact no (fun y => by rw [e1] at y; exact q (Option.some.inj y.2).symm) _ (Same.refl _)
    have yes : w' ≠ "order" ∧ parts.lookup w' = some ((ws.length : Int) + 1) := ⟨c, by rw [e1, q]⟩
    have rd2 : rdOf z = (mapO numOf ws).map (Td.nums w') := by rw [rd]; exact if_pos yes
    have ln := part_len yes.2 c
    walk_at "rd"
    refine r_sll (SqL.of ep) fun p2 hp2 => ?_
    have cut : cutV ((w' :: ws).map V.str) (some 1) none = ws.map V.str := cut_from (k := 1)
    rw [cut]
    have s2 := same_upd (o := .lst (ws.map V.str)) hp2
    refine lcp_opt (ps := ws) (g := V.str) (f := numOf) (R := numV) (F := fun H' => E (errN K) none H') (SqL.of upd_same) (by simp at sm; omega) (fun _ _ _ _ h _ => h) ?_ (fun m H' s => kE (by rw [rd2, m]; rfl) _ ((s1.trans s2).trans s)) ?_
    · intro i x H' W ex s q qF
      walk_at "rd"
      exact ⟨x, rfl, by have := sl x (List.mem_cons_of_mem _ (List.mem_of_getElem? ex)); omega, fun n en => q n en _ _ (Same.refl _) rfl, fun en => qF en _ (Same.refl _)⟩
    · intro ns m D H' acc hD s e pr
      have ea := numV_all pr
      subst ea
      have ll := mapO_len m
      have s3 := (s1.trans s2).trans s
      have ep3 := s _ _ (s2 _ _ ep)
      have fin : ∀ t, H' t = none → Q (.ref t) (upd H' t (.tup (.str w' :: numsOf ns))) := fun t ht => k (.nums w' ns) (by rw [rd2, m]; rfl) _ _ (s3.trans (same_upd ht)) ⟨t, rfl, upd_same⟩ fun t' l' e1 e2 => by
        cases e1
        rw [upd_same] at e2
        have e3 := HO.tup.inj (Option.some.inj e2)
        exact absurd (V.str.inj (List.cons.inj e3).1) c
      walk_at "rd"
      refine ⟨D, _, rfl, .inl (SqL.of e), ?_⟩
      have ln2 : ((numsOf ns).length : Nat) = ws.length := by unfold numsOf; rw [List.length_map, ll]
      rw [ln2]
      walk_at "rd"
      refine r_itd (fun c2 => ?_) (fun c2 => ?_)
      · have l2 : ns.length = 2 := by omega
        match ns, l2 with
        | [a, b], _ =>
        walk_at "rd"
        refine r_ixL (SqL.of ep3) (atI_get (j := 0) rfl rfl) ?_
        walk_at "rd"
        refine r_ixL (SqL.of e) (atI_get (j := 0) rfl rfl) ?_
        walk_at "rd"
        refine r_ixL (SqL.of e) (atI_get (j := 1) rfl rfl) ?_
        walk_at "rd"
        exact r_mk (by simp) fun t ht => fin t ht
      · have l3 : ns.length = 3 := by omega
        match ns, l3 with
        | [a, b, d], _ =>
        walk_at "rd"
        refine r_ixL (SqL.of ep3) (atI_get (j := 0) rfl rfl) ?_
        walk_at "rd"
        refine r_ixL (SqL.of e) (atI_get (j := 0) rfl rfl) ?_
        walk_at "rd"
        refine r_ixL (SqL.of e) (atI_get (j := 1) rfl rfl) ?_
        walk_at "rd"
        refine r_ixL (SqL.of e) (atI_get (j := 2) rfl rfl) ?_
        walk_at "rd"
        exact r_mk (by simp) fun t ht => fin t ht

/-! ### the law's helpers -/
def Script (K : PySem.W.Frag) (H : Hp) (a : Addr) : Prop := ∃ ns : List Int, SqL K H a (ns.map V.int) ∧ ns.length ≤ 63
theorem SqL.keep {K : PySem.W.Frag} {H H' : Hp} {a : Addr} {xs : List V} (h : SqL K H a xs) (k : ∀ o, H a = some o → H' a = some o) : SqL K H' a xs := by
  rcases h with (h | ⟨o, h⟩) | h
  · exact .inl (.inl (k _ h))
  · exact .inl (.inr ⟨o, k _ h⟩)
  · exact .inr h
theorem Script.keep {K : PySem.W.Frag} {H H' : Hp} {a : Addr} (S : Script K H a) (k : ∀ o, H a = some o → H' a = some o) : Script K H' a := by
  obtain ⟨ns, h, l⟩ := S
  exact ⟨ns, SqL.keep h k, l⟩
theorem Script.same {K : PySem.W.Frag} {H H' : Hp} {a : Addr} (S : Script K H a) (s : Same H H') : Script K H' a := S.keep fun o e => s _ _ e
theorem int_at {ns : List Int} {i : Nat} (h : i < ns.length) : (ns.map V.int)[i]? = some (V.int ns[i]) := by
  rw [List.getElem?_map, List.getElem?_eq_getElem h]; rfl
def spLCellAt (K : PySem.W.Frag) : Sp := fun vs H Q _ => ∃ (a : Addr) (k : Int), vs = [.ref a, .int k] ∧ Script K H a ∧ 0 ≤ k ∧ ∀ n : Int, Q (.int n) H
theorem len_LCellAt {K : PySem.W.Frag} {vs : List V} {H : Hp} {Q : VK} {E : XK} (h : spLCellAt K vs H Q E) : vs.length = 2 := by
  obtain ⟨_, _, rfl, _⟩ := h; rfl
theorem ok_LCellAt {P : Program} {w : World} {K : PySem.W.Frag} {mg : Str → Option Value} {base : Heap} (T : Tx w K mg) : FnOk P w K mg base CX0 1 (He.fAd K dLCellAt.at_) (fdO K dLCellAt.at_) P_LCellAt (spLCellAt K) := by
  refine T.f_LCellAt.ok sc_LCellAt (fun vs H Q E h => len_LCellAt h) (fun cdv A outer s H vs Q E hr h => ⟨_, PSs.nox ((pss_cons (ps_if (pt_cmpR op_lt (pv 1) (pe_callB call_len_seq (by rfl) T.b_len (by decide +kernel) (pa_cons (pv 0) pa_nil)) (nomark _)) (pss_one (ps_ret (pe_ix ix_list (pv 0) (pv 1) (fun _ _ => rfl)))) pss_nil)
      (pss_one (ps_ret pe_int)))), ?_⟩)
  obtain ⟨a, i, rfl, ⟨ns, hs, _⟩, hi, k⟩ := h
  walk_at "rd"
  refine ⟨a, _, rfl, .inl hs, ?_⟩
  rw [List.length_map]
  walk_at "rd"
  refine r_itd (fun c => ?_) (fun c => ?_)
  · walk_at "rd"
    exact r_ixL hs (atI_get (j := i.toNat) (by omega) (int_at (by omega))) (k _)
  · walk_at "rd"
    exact k 0
def spLWhole (_ : PySem.W.Frag) : Sp := fun vs H Q _ => ∃ i : Int, vs = [.int i] ∧ Q (.bl true) H
theorem len_LWhole {K : PySem.W.Frag} {vs : List V} {H : Hp} {Q : VK} {E : XK} (h : spLWhole K vs H Q E) : vs.length = 1 := by
  obtain ⟨_, rfl, _⟩ := h; rfl
theorem ok_LWhole {P : Program} {w : World} {K : PySem.W.Frag} {mg : Str → Option Value} {base : Heap} (T : Tx w K mg) : FnOk P w K mg base CX0 1 (He.fAd K dLWhole.at_) (fdO K dLWhole.at_) P_LWhole (spLWhole K) := by
  refine T.f_LWhole.ok sc_LWhole (fun vs H Q E h => len_LWhole h) (fun cdv A outer s H vs Q E hr h => ⟨_, PSs.nox ((pss_one (ps_ret (pe_and (pe_callB call_isi (by rfl) T.b_isinstance (by decide +kernel) (pa_cons (pv 0) (pa_cons (pe_bltn (v := .ty "int") (by rfl) T.b_int (by decide +kernel) rfl) pa_nil))) (pe_one (pe_not (pe_callB call_isi (by rfl) T.b_isinstance (by decide +kernel) (pa_cons (pv 0) (pa_cons (pe_bltn (v := .ty "bool") (by rfl) T.b_bool (by decide +kernel) rfl) pa_nil))))))))), ?_⟩)
  obtain ⟨i, rfl, k⟩ := h
  walk_at "rd"
  exact k
theorem emb {i j : Int} (h : 0 < j) : 0 ≤ i % j ∧ i % j < j := ⟨Int.emod_nonneg _ (by omega), Int.emod_lt_of_pos _ h⟩

/-! ### a deed that is made -/
def spLNumberBy (_ : PySem.W.Frag) : Sp := fun vs H Q _ => ∃ c w : Int, vs = [.int c, .int w] ∧ ∀ (n : Nat) H', n < 10 ^ 30 → Same H H' → Q (.int (n : Int)) H'
theorem len_LNumberBy {K : PySem.W.Frag} {vs : List V} {H : Hp} {Q : VK} {E : XK} (h : spLNumberBy K vs H Q E) : vs.length = 2 := by
  obtain ⟨_, _, rfl, _⟩ := h; rfl
theorem p30 : (0 : Int) < 10 ^ (30 : Int).toNat := by decide
theorem nat_of {z : Int} {m : Nat} (h0 : 0 ≤ z) (h1 : z < (m : Int)) : ∃ n : Nat, z = (n : Int) ∧ n < m := ⟨z.toNat, by omega, by omega⟩
theorem ok_LNumberBy {P : Program} {w : World} {K : PySem.W.Frag} {mg : Str → Option Value} {base : Heap} (T : Tx w K mg) : FnOk P w K mg base CX0 1 (He.fAd K dLNumberBy.at_) (fdO K dLNumberBy.at_) P_LNumberBy (spLNumberBy K) := by
  refine T.f_LNumberBy.ok sc_LNumberBy (fun vs H Q E h => len_LNumberBy h) (fun cdv A outer s H vs Q E hr h => ⟨_, PSs.nox ((pss_cons (ps_if (pt_cmpR op_eq (pe_op op_mod (pv 1) pe_int) pe_int (nomark _)) (pss_one (ps_ret (pe_op op_mod (pv 0) (pe_op op_pow pe_int pe_int)))) pss_nil)
      (pss_cons (ps_if (pt_cmpR op_eq (pe_op op_mod (pv 1) pe_int) pe_int (nomark _)) (pss_one (ps_ret (pe_ix ix_list (pe_lst (pa_cons pe_int (pa_cons (pe_op op_sub (pe_op op_pow pe_int pe_int) pe_int) (pa_cons pe_int (pa_cons pe_int (pa_cons (pe_op op_pow pe_int pe_int) pa_nil)))))) (pe_op op_mod (pv 0) pe_int) (fun _ _ => rfl)))) pss_nil)
      (pss_one (ps_ret (pe_op op_mod (pv 0) pe_int)))))), ?_⟩)
  obtain ⟨c, w', rfl, k⟩ := h
  walk_at "rd"
  walk_at "md"
  walk_at "rd"
  refine r_itd (fun _ => ?_) (fun _ => ?_)
  · walk_at "rd"
    refine r_I (C := CPow) ⟨by decide, by decide, by decide⟩ ?_
    refine r_I p30 ?_
    obtain ⟨n, e, hn⟩ := nat_of (z := c % 10 ^ (30 : Int).toNat) (m := 10 ^ 30) (Int.emod_nonneg _ (by decide)) (Int.emod_lt_of_pos _ p30)
    rw [e]
    exact k n _ hn (Same.refl _)
  · walk_at "rd"
    walk_at "md"
    walk_at "rd"
    refine r_itd (fun _ => ?_) (fun _ => ?_)
    · walk_at "rd"
      refine r_I (C := CPow) ⟨by decide, by decide, by decide⟩ ?_
      walk_at "rd"
      refine r_I (C := CPow) ⟨by decide, by decide, by decide⟩ ?_
      walk_at "rd"
      refine r_mk (by simp) fun l hl => ?_
      walk_at "rd"
      walk_at "md"
      walk_at "rd"
      have b : c % 5 = ((0 : Nat) : Int) ∨ c % 5 = ((1 : Nat) : Int) ∨ c % 5 = ((2 : Nat) : Int) ∨ c % 5 = ((3 : Nat) : Int) ∨ c % 5 = ((4 : Nat) : Int) := by omega
      have fin : ∀ n : Nat, n < 10 ^ 30 → Q (.int (n : Int)) (upd H l (.lst [.int 0, .int (10 ^ (30 : Int).toNat - 1), .int 9, .int 10, .int (10 ^ (29 : Int).toNat)])) := fun n hn => k n _ hn (same_upd hl)
      rcases b with b | b | b | b | b
      · exact r_ixL (SqL.of upd_same) (atI_get b rfl) (fin 0 (by decide))
      · exact r_ixL (SqL.of upd_same) (atI_get b rfl) (fin (10 ^ 30 - 1) (by decide))
      · exact r_ixL (SqL.of upd_same) (atI_get b rfl) (fin 9 (by decide))
      · exact r_ixL (SqL.of upd_same) (atI_get b rfl) (fin 10 (by decide))
      · exact r_ixL (SqL.of upd_same) (atI_get b rfl) (fin (10 ^ 29) (by decide))
    · walk_at "rd"
      walk_at "md"
      obtain ⟨n, e, hn⟩ := nat_of (z := c % 1000) (m := 1000) (by omega) (by omega)
      rw [e]
      exact k n _ (Nat.lt_of_lt_of_le hn (by decide)) (Same.refl _)
def spLItemBy (_ : PySem.W.Frag) : Sp := fun vs H Q _ => ∃ c : Int, vs = [.int c] ∧ ∀ z H', isItem z = true → Same H H' → Q (.str z) H'
theorem len_LItemBy {K : PySem.W.Frag} {vs : List V} {H : Hp} {Q : VK} {E : XK} (h : spLItemBy K vs H Q E) : vs.length = 1 := by
  obtain ⟨_, rfl, _⟩ := h; rfl
theorem ok_LItemBy {P : Program} {w : World} {K : PySem.W.Frag} {mg : Str → Option Value} {base : Heap} (T : Tx w K mg) : FnOk P w K mg base CX0 1 (He.fAd K dLItemBy.at_) (fdO K dLItemBy.at_) P_LItemBy (spLItemBy K) := by
  refine T.f_LItemBy.ok sc_LItemBy (fun vs H Q E h => len_LItemBy h) (fun cdv A outer s H vs Q E hr h => ⟨_, PSs.nox ((pss_cons (ps_set (i := 1) sc_LItemBy.nd rfl (Or.inr rfl) pe_str)
      (pss_one (ps_ret (pe_bm PySem.F.plainAttrs_str PySem.F.slot_str_join PySem.F.type_str_join mt_join pe_str (pa_cons (pe_lc (own := [("_law_k", 2)]) (g := gName 2) (tt := tYes) rfl sc_LItemBy.nd (pi_range1 (by rfl) T.b_range (pa_cons (pe_op op_add pe_int (pe_op op_mod (pv 0) pe_int)) pa_nil)) (blkOk_by (N := N_LItemBy) (sc := defScope sLItemBy) (by decide +kernel)) (fun _ _ _ _ _ => pg_name (i := 2) sc_LItemBy.nd rfl (Or.inl rfl)) (fun _ _ _ _ _ => pts_nil) (fun _ _ _ _ _ => (pe_ix ix_str (pv 1) (pe_op op_mod (pe_op op_add (pe_op op_add (pe_op op_fdiv (pv 0) pe_int) (pe_op op_mul (pe_op op_fdiv (pe_op op_fdiv (pv 0) pe_int) pe_int) (pv 2))) (pe_op op_mul pe_int (pv 2))) pe_int) (fun _ _ => rfl)))) pa_nil)))))), ?_⟩)
  obtain ⟨c, rfl, k⟩ := h
  walk_at "rd"
  refine ⟨rfl, ?_⟩
  walk_at "rd"
  walk_at "md"
  walk_at "rd"
  have b1 : 0 ≤ c % 12 ∧ c % 12 < 12 := by omega
  revert b1
  generalize c % 12 = m
  intro b1
  obtain ⟨cs, hl, hc⟩ := each_of (n := (1 + m).toNat) (P := fun i x => x ∈ letters.cps.toList ∧ atI letters.cps.toList ((c / 12 + c / 12 / 26 * (i : Int) + 5 * (i : Int)) % 26) = some x) fun i _ => letter_at
  refine lcp_range (ys := cs.map fun x => V.str ⟨#[x]⟩) (by simp [hl]) (by omega) (by omega) ?_ ?_
  · intro i y H' R ey s q
    rw [List.getElem?_map] at ey
    cases ec : cs[i]? with
    | none => rw [ec] at ey; cases ey
    | some x =>
      rw [ec] at ey
      cases ey
      have hi : i < 100 := by
        have := (List.getElem?_eq_some_iff.mp ec).1
        omega
      walk_at "rd"
      walk_at "md"
      walk_at "rd"
      walk_at "md"
      walk_at "rd"
      walk_at "md"
      walk_at "rd"
      refine r_I (.inr ⟨by omega, by omega⟩) ?_
      walk_at "rd"
      walk_at "ml"
      walk_at "rd"
      walk_at "md"
      refine ⟨letters, _, x, rfl, rfl, sz5 (by decide +kernel), (hc i x ec).2, q _ (Same.refl _)⟩
  · intro D H' hD s e
    walk_at "rd"
    refine ⟨"", D, cs.map fun x => (⟨#[x]⟩ : Str), rfl, rfl, .inl (SqL.of (by rw [e, List.map_map]; rfl)), ?_, ?_⟩
    · rw [sum_ones]
      show cs.length + (cs.map _).length * 0 ≤ _
      omega
    · refine k _ _ (item_join (fun x hx => ?_) (by omega)) s
      obtain ⟨i, hi⟩ := List.getElem?_of_mem hx
      exact (hc i x hi).1
theorem lcp_ints {te : TE} {j : Nat} {σ : L2.St} {H1 : Hp} {Q : VK} {n : Nat} (P : Nat → Prop) (hz : n ≤ 1000)
    (he : ∀ (i : Nat) (H' : Hp) (W : VK), i < n → Same H1 H' → (∀ (m : Nat) H'', P m → Same H' H'' → W (.int (m : Int)) H'') → te ((wipe σ [j]).set j (some (.int (i : Int)))) H' W)
    (k : ∀ (D : Addr) (H' : Hp) (ms : List Nat), H1 D = none → Same H1 H' → ms.length = n → (∀ m, m ∈ ms → P m) → H' D = some (.lst (numsOf ms)) → Q (.ref D) H') :
    ∃ m : Int, [V.int (n : Int)] = [V.int m] ∧ -(2 ^ 62) ≤ m ∧ m < 2 ^ 62 ∧ Lcs (Itr 0 m.toNat) (gName j) tYes te [j] σ H1 Q := by
  refine ⟨n, rfl, by omega, by omega, fun D hD => ?_⟩
  refine lc_range (lo := 0) (n := n) (fun i H' => Same H1 H' ∧ ∃ ms : List Nat, ms.length = i ∧ (∀ m, m ∈ ms → P m) ∧ H' D = some (.lst (numsOf ms))) ⟨same_upd hD, [], rfl, (fun m h => by cases h), upd_same⟩ ?_ ?_
  · rintro i H' hi ⟨s, ms, l, hp, e⟩
    refine ⟨wipe1, r_yes (r_itT ?_)⟩
    rw [Int.zero_add]
    refine he i _ _ hi s fun m H'' pm s2 => ⟨_, s2 _ _ e, ?_, ?_, ms ++ [m], by simp [l], fun x hx => ?_, ?_⟩
    · refine sz5l ?_
      unfold numsOf
      rw [List.length_map]
      omega
    · exact fun b o q => by
        rw [upd_ne (ne_of_none q hD)]
        exact s2 _ _ (s _ _ q)
    · rcases List.mem_append.mp hx with z | z
      · exact hp x z
      · rw [List.mem_singleton.mp z]; exact pm
    · rw [upd_same]
      unfold numsOf
      rw [List.map_append]; rfl
  · rintro H' ⟨s, ms, l, hp, e⟩
    exact k D H' ms hD s l hp e
def Wd (w : Str) : Prop := w = "order" ∨ (w = "pay" ∨ w = "refund") ∨ (w = "deliver" ∨ w = "back" ∨ w = "swap" ∨ w = "credit" ∨ w = "move")
theorem word10 (z : Int) : ∃ w : Str, Wd w ∧ atI [V.str "deliver", .str "back", .str "swap", .str "credit", .str "move", .str "pay", .str "refund", .str "order", .str "order", .str "order"] (z % 10) = some (.str w) := by
  have h : z % 10 = ((0 : Nat) : Int) ∨ z % 10 = ((1 : Nat) : Int) ∨ z % 10 = ((2 : Nat) : Int) ∨ z % 10 = ((3 : Nat) : Int) ∨ z % 10 = ((4 : Nat) : Int) ∨ z % 10 = ((5 : Nat) : Int) ∨ z % 10 = ((6 : Nat) : Int) ∨ z % 10 = ((7 : Nat) : Int) ∨ z % 10 = ((8 : Nat) : Int) ∨ z % 10 = ((9 : Nat) : Int) := by omega
  rcases h with h | h | h | h | h | h | h | h | h | h
  · exact ⟨"deliver", .inr (.inr (.inl rfl)), atI_get h rfl⟩
  · exact ⟨"back", .inr (.inr (.inr (.inl rfl))), atI_get h rfl⟩
  · exact ⟨"swap", .inr (.inr (.inr (.inr (.inl rfl)))), atI_get h rfl⟩
  · exact ⟨"credit", .inr (.inr (.inr (.inr (.inr (.inl rfl))))), atI_get h rfl⟩
  · exact ⟨"move", .inr (.inr (.inr (.inr (.inr (.inr rfl))))), atI_get h rfl⟩
  · exact ⟨"pay", .inr (.inl (.inl rfl)), atI_get h rfl⟩
  · exact ⟨"refund", .inr (.inl (.inr rfl)), atI_get h rfl⟩
  · exact ⟨"order", .inl rfl, atI_get h rfl⟩
  · exact ⟨"order", .inl rfl, atI_get h rfl⟩
  · exact ⟨"order", .inl rfl, atI_get h rfl⟩
def spLAnyDeed (K : PySem.W.Frag) : Sp := fun vs H Q _ => ∃ s : Addr, vs = [.ref s] ∧ Script K H s ∧ ∀ v d H', Same H H' → TdA H' v d → d.ok → Q v H'
theorem len_LAnyDeed {K : PySem.W.Frag} {vs : List V} {H : Hp} {Q : VK} {E : XK} (h : spLAnyDeed K vs H Q E) : vs.length = 1 := by
  obtain ⟨_, rfl, _⟩ := h; rfl
theorem ok_LAnyDeed {P : Program} {w : World} {K : PySem.W.Frag} {mg : Str → Option Value} {base : Heap} (T : Tx w K mg) : FnOk P w K mg base CX0 2 (He.fAd K dLAnyDeed.at_) (fdO K dLAnyDeed.at_) P_LAnyDeed (spLAnyDeed K) := by
  refine T.f_LAnyDeed.ok sc_LAnyDeed (fun vs H Q E h => len_LAnyDeed h) (fun cdv A outer s H vs Q E hr h => ⟨_, PSs.nox ((pss_cons (ps_set (i := 1) sc_LAnyDeed.nd rfl (Or.inl rfl) (pe_lst (pa_cons pe_str (pa_cons pe_str (pa_cons pe_str (pa_cons pe_str (pa_cons pe_str (pa_cons pe_str (pa_cons pe_str (pa_cons pe_str (pa_cons pe_str (pa_cons pe_str pa_nil))))))))))))
      (pss_cons (ps_set (i := 2) sc_LAnyDeed.nd rfl (Or.inl rfl) (pe_ix ix_list (pv 1) (pe_op op_mod (pe_call (ok_LCellAt T) (hr.mono (by decide)) rfl T.g_LCellAt T.f_LCellAt.kp T.b_LCellAt .nil pass0 (pa_cons (pv 0) (pa_cons pe_int pa_nil))) pe_int) (fun _ _ => rfl)))
      (pss_cons (ps_set (i := 3) sc_LAnyDeed.nd rfl (Or.inr rfl) (pe_call (ok_LCellAt T) (hr.mono (by decide)) rfl T.g_LCellAt T.f_LCellAt.kp T.b_LCellAt .nil pass0 (pa_cons (pv 0) (pa_cons pe_int pa_nil))))
      (pss_cons (ps_if (pt_cmpR op_eq (pv 2) pe_str (nomark _)) (pss_cons (ps_set (i := 4) sc_LAnyDeed.nd rfl (Or.inl rfl) (pe_lst pa_nil))
      (pss_cons (ps_for PassesOwn.never rfl (pi_range1 (by rfl) T.b_range (pa_cons (pe_op op_add pe_int (pe_op op_mod (pe_call (ok_LCellAt T) (hr.mono (by decide)) rfl T.g_LCellAt T.f_LCellAt.kp T.b_LCellAt .nil pass0 (pa_cons (pv 0) (pa_cons pe_int pa_nil))) pe_int)) pa_nil)) (pg_name (i := 5) sc_LAnyDeed.nd rfl (Or.inl rfl)) (pss_cons (ps_set (i := 6) sc_LAnyDeed.nd rfl (Or.inr rfl) (pe_op op_add (pe_op op_mul (pe_call (ok_LCellAt T) (hr.mono (by decide)) rfl T.g_LCellAt T.f_LCellAt.kp T.b_LCellAt .nil pass0 (pa_cons (pv 0) (pa_cons (pe_op op_add pe_int (pe_op op_mod (pv 5) pe_int)) pa_nil))) (pe_op op_add (pv 5) pe_int)) (pv 5)))
      (pss_cons (ps_setLc (i := 8) (own := [("_law_n", 7)]) (g := gName 7) (tt := tYes) rfl sc_LAnyDeed.nd rfl rfl (sw_true rfl rfl rfl (by decide +kernel)) (pi_range1 (by rfl) T.b_range (pa_cons pe_int pa_nil)) (blkOk_by (N := N_LAnyDeed) (sc := defScope sLAnyDeed) (by decide +kernel)) (fun _ _ _ _ _ => pg_name (i := 7) sc_LAnyDeed.nd rfl (Or.inl rfl)) (fun _ _ _ _ _ => pts_nil) (fun _ _ _ _ _ => (pe_call (ok_LNumberBy T) (hr.mono (by decide)) rfl T.g_LNumberBy T.f_LNumberBy.kp T.b_LNumberBy .nil pass0 (pa_cons (pe_op op_fdiv (pv 6) (pe_op op_add (pv 7) pe_int)) (pa_cons (pe_op op_fdiv (pv 3) (pe_op op_add (pv 7) pe_int)) pa_nil)))))
      (pss_one (ps_expr (pe_bm PySem.F.plainAttrs_list PySem.F.slot_list_append PySem.F.type_list_append mt_append (pv 4) (pa_cons (pe_tup (pa_cons (pe_call (ok_LItemBy T) (hr.mono (by decide)) rfl T.g_LItemBy T.f_LItemBy.kp T.b_LItemBy .nil pass0 (pa_cons (pv 6) pa_nil)) (pa_cons (pe_ix ix_list (pv 8) pe_int (fun _ _ => rfl)) (pa_cons (pe_ix ix_list (pv 8) pe_int (fun _ _ => rfl)) (pa_cons (pe_ix ix_list (pv 8) pe_int (fun _ _ => rfl)) pa_nil))))) pa_nil)))))))
      (pss_one (ps_ret (pe_tup (pa_cons pe_str (pa_cons (pv 4) pa_nil))))))) pss_nil)
      (pss_cons (ps_setLc (i := 8) (own := [("_law_n", 7)]) (g := gName 7) (tt := tYes) rfl sc_LAnyDeed.nd rfl rfl (sw_true rfl rfl rfl (by decide +kernel)) (pi_range1 (by rfl) T.b_range (pa_cons pe_int pa_nil)) (blkOk_by (N := N_LAnyDeed) (sc := defScope sLAnyDeed) (by decide +kernel)) (fun _ _ _ _ _ => pg_name (i := 7) sc_LAnyDeed.nd rfl (Or.inl rfl)) (fun _ _ _ _ _ => pts_nil) (fun _ _ _ _ _ => (pe_call (ok_LNumberBy T) (hr.mono (by decide)) rfl T.g_LNumberBy T.f_LNumberBy.kp T.b_LNumberBy .nil pass0 (pa_cons (pe_call (ok_LCellAt T) (hr.mono (by decide)) rfl T.g_LCellAt T.f_LCellAt.kp T.b_LCellAt .nil pass0 (pa_cons (pv 0) (pa_cons (pe_op op_add pe_int (pv 7)) pa_nil))) (pa_cons (pe_op op_fdiv (pv 3) (pe_op op_add (pv 7) pe_int)) pa_nil)))))
      (pss_cons (ps_if (PW.pt (pw_or (pt_cmpR op_eq (pv 2) pe_str (nomark _)) (pw_or1 (pt_cmpR op_eq (pv 2) pe_str (nomark _))))) (pss_one (ps_ret (pe_tup (pa_cons (pv 2) (pa_cons (pe_ix ix_list (pv 8) pe_int (fun _ _ => rfl)) (pa_cons (pe_ix ix_list (pv 8) pe_int (fun _ _ => rfl)) pa_nil)))))) pss_nil)
      (pss_one (ps_ret (pe_tup (pa_cons (pv 2) (pa_cons (pe_ix ix_list (pv 8) pe_int (fun _ _ => rfl)) (pa_cons (pe_ix ix_list (pv 8) pe_int (fun _ _ => rfl)) (pa_cons (pe_ix ix_list (pv 8) pe_int (fun _ _ => rfl)) pa_nil)))))))))))))), ?_⟩)
  obtain ⟨s, rfl, scr, k⟩ := h
  walk_at "rd"
  refine r_mk (by simp) fun w1 hw1 => ?_
  have s1 := same_upd (o := .lst [.str "deliver", .str "back", .str "swap", .str "credit", .str "move", .str "pay", .str "refund", .str "order", .str "order", .str "order"]) hw1
  walk_at "rd"
  refine ⟨s, _, rfl, scr.same s1, by decide, fun c0 => ?_⟩
  walk_at "rd"
  walk_at "md"
  walk_at "rd"
  obtain ⟨w', hw, ew⟩ := word10 c0
  refine r_ixL (SqL.of upd_same) ew ?_
  revert s1
  generalize upd H w1 _ = H1
  intro s1
  have scr1 := scr.same s1
  walk_at "rd"
  refine ⟨s, _, rfl, scr1, by decide, fun c1 => ?_⟩
  walk_at "rd"
  refine r_itd (fun cw => ?_) (fun cw => ?_)
  · walk_at "rd"
    refine r_mk (by simp) fun l hl => ?_
    have s2 := same_upd (o := .lst []) hl
    have e2 : upd H1 l (.lst []) l = some (.lst []) := upd_same
    revert s2 e2
    generalize upd H1 l (.lst []) = H2
    intro s2 e2
    walk_at "rd"
    refine ⟨s, _, rfl, scr1.same s2, by decide, fun c2 => ?_⟩
    walk_at "rd"
    walk_at "md"
    walk_at "rd"
    have b2 : 0 ≤ c2 % 4 ∧ c2 % 4 < 4 := by omega
    refine ⟨_, rfl, by omega, by omega, for_range (lo := 0) (n := (1 + c2 % 4).toNat) (fun i σ H' => ∃ (v4 v5 v7 : Option V) (ls : List Tl) (xs : List V), σ = [some (.ref s), some (.ref w1), some (.str w'), some (.int c1), some (.ref l), v4, v5, none, v7] ∧ ls.length = i ∧ (∀ t, t ∈ ls → t.ok) ∧ H' l = some (.lst xs) ∧ Paired (TupAt H') xs (ls.map Tl.row) ∧ But (· = l) H2 H')
      ⟨none, none, none, [], [], rfl, rfl, (fun t h => by cases h), e2, .nil, But.refl⟩ ?_ ?_⟩
    · rintro i σ H3 hi ⟨v4, v5, v7, ls, xs, rfl, ll, okl, e3, p3, b3⟩
      rw [Int.zero_add]
      have sH : Same H H3 := fun x o e => b3.keep _ _ (s2 _ _ (s1 _ _ e)) (ne_of_none (s1 _ _ e) hl)
      have scr3 := scr.same sH
      have lx : xs.length = i := by rw [p3.length, List.length_map, ll]
      walk_at "rd"
      walk_at "md"
      walk_at "rd"
      refine ⟨s, _, rfl, scr3, by omega, fun c3 => ?_⟩
      walk_at "rd"
      refine r_I (.inr ⟨by omega, by omega⟩) ?_
      walk_at "rd"
      refine lcp_ints (n := 3) (fun m => m < 10 ^ 30) (by decide) ?_ ?_
      · intro n H' W hn s' q
        walk_at "rd"
        refine r_I ⟨by omega, by omega⟩ ?_
        walk_at "rd"
        refine r_I ⟨by omega, by omega⟩ ?_
        walk_at "rd"
        exact ⟨_, _, rfl, fun m H'' hm s'' => q m _ hm s''⟩
      · intro D H4 ms hD s4 lm hms eD
        match ms, lm with
        | [a, b, c], _ =>
        walk_at "rd"
        refine r_tyL (SqL.of (s4 _ _ e3)) ?_
        walk_at "rd"
        refine ⟨_, rfl, fun z H5 hz s5 => ?_⟩
        walk_at "rd"
        refine r_ixL (SqL.of (s5 _ _ eD)) (atI_get (j := 0) rfl rfl) ?_
        walk_at "rd"
        refine r_ixL (SqL.of (s5 _ _ eD)) (atI_get (j := 1) rfl rfl) ?_
        walk_at "rd"
        refine r_ixL (SqL.of (s5 _ _ eD)) (atI_get (j := 2) rfl rfl) ?_
        walk_at "rd"
        refine r_mk (by simp) fun t ht => ?_
        have s6 := same_upd (o := .tup [.str z, .int (a : Int), .int (b : Int), .int (c : Int)]) ht
        have s36 := (s4.trans s5).trans s6
        walk_at "rd"
        refine r_app (s36 _ _ e3) (by rw [lx]; exact sz5l (by omega)) ?_
        have b6 := (But.of (S := (· = l)) s36).trans (But.lst (o := .lst (xs ++ [.ref t])) (s36 _ _ e3) rfl)
        walk_at "rd"
        refine ⟨_, _, _, ls ++ [⟨z, a, b, c⟩], _, rfl, by simp [ll], fun u hu => ?_, upd_same, ?_, b3.trans b6⟩
        · rcases List.mem_append.mp hu with y | y
          · exact okl u y
          · rw [List.mem_singleton.mp y]
            exact ⟨hz, hms a (by simp), hms b (by simp), hms c (by simp)⟩
        · rw [List.map_append]
          refine Paired.snoc (tup_keep b6 p3) ⟨t, rfl, ?_⟩
          rw [upd_ne (fun y => by rw [y, s5 _ _ (s4 _ _ e3)] at ht; cases ht)]
          exact upd_same
    · rintro σ H3 ⟨v4, v5, v7, ls, xs, rfl, ll, okl, e3, p3, b3⟩
      have sH : Same H H3 := fun x o e => b3.keep _ _ (s2 _ _ (s1 _ _ e)) (ne_of_none (s1 _ _ e) hl)
      walk_at "rd"
      refine r_mk (by simp) fun t ht => ?_
      have s4 := same_upd (o := .tup [.str "order", .ref l]) ht
      exact k _ (.ord ls) _ (sH.trans s4) ⟨t, l, xs, rfl, upd_same, s4 _ _ e3, tup_keep (But.of (S := fun _ => False) s4) p3⟩ ⟨⟨by omega, by omega⟩, okl⟩
  · walk_at "rd"
    refine lcp_ints (n := 3) (fun m => m < 10 ^ 30) (by decide) ?_ ?_
    · intro n H' W hn s' q
      walk_at "rd"
      refine ⟨s, _, rfl, scr1.same s', by omega, fun c3 => ?_⟩
      walk_at "rd"
      refine r_I ⟨by omega, by omega⟩ ?_
      walk_at "rd"
      exact ⟨_, _, rfl, fun m H'' hm s'' => q m _ hm s''⟩
    · intro D H4 ms hD s4 lm hms eD
      have s04 := s1.trans s4
      have hw' : (w' = "pay" ∨ w' = "refund") ∨ (w' = "deliver" ∨ w' = "back" ∨ w' = "swap" ∨ w' = "credit" ∨ w' = "move") := hw.resolve_left cw
      match ms, lm with
      | [a, b, c], _ =>
      have fin2 : (w' = "pay" ∨ w' = "refund") → ∀ t, H4 t = none → Q (.ref t) (upd H4 t (.tup [.str w', .int (a : Int), .int (b : Int)])) := fun hp t ht =>
        k _ (.nums w' [a, b]) _ (s04.trans (same_upd ht)) ⟨t, rfl, upd_same⟩ ⟨fun n hn => hms n (by simp at hn ⊢; omega), .inl ⟨rfl, hp⟩⟩
      walk_at "rd"
      refine r_itd (fun c1 => ?_) (fun c1 => ?_)
      · walk_at "rd"
        refine r_ixL (SqL.of eD) (atI_get (j := 0) rfl rfl) ?_
        walk_at "rd"
        refine r_ixL (SqL.of eD) (atI_get (j := 1) rfl rfl) ?_
        walk_at "rd"
        exact r_mk (by simp) fun t ht => fin2 (.inl c1) t ht
      walk_at "rd"
      refine r_itd (fun c2 => ?_) (fun c2 => ?_)
      · walk_at "rd"
        refine r_ixL (SqL.of eD) (atI_get (j := 0) rfl rfl) ?_
        walk_at "rd"
        refine r_ixL (SqL.of eD) (atI_get (j := 1) rfl rfl) ?_
        walk_at "rd"
        exact r_mk (by simp) fun t ht => fin2 (.inr c2) t ht
      walk_at "rd"
      refine r_ixL (SqL.of eD) (atI_get (j := 0) rfl rfl) ?_
      walk_at "rd"
      refine r_ixL (SqL.of eD) (atI_get (j := 1) rfl rfl) ?_
      walk_at "rd"
      refine r_ixL (SqL.of eD) (atI_get (j := 2) rfl rfl) ?_
      walk_at "rd"
      exact r_mk (by simp) fun t ht => k _ (.nums w' [a, b, c]) _ (s04.trans (same_upd ht)) ⟨t, rfl, upd_same⟩ ⟨fun n hn => hms n hn, .inr ⟨rfl, hw'.resolve_left fun z => z.elim c1 c2⟩⟩

/-! ### the text of it, by the law -/
def spLTextOf (_ : PySem.W.Frag) : Sp := fun vs H Q _ => ∃ (v : V) (d : Td), vs = [v] ∧ TdA H v d ∧ d.ok ∧ ∀ H', Same H H' → Q (.str d.str) H'
theorem len_LTextOf {K : PySem.W.Frag} {vs : List V} {H : Hp} {Q : VK} {E : XK} (h : spLTextOf K vs H Q E) : vs.length = 1 := by
  obtain ⟨_, _, rfl, _⟩ := h; rfl
theorem ok_LTextOf {P : Program} {w : World} {K : PySem.W.Frag} {mg : Str → Option Value} {base : Heap} (T : Tx w K mg) : FnOk P w K mg base CX0 1 (He.fAd K dLTextOf.at_) (fdO K dLTextOf.at_) P_LTextOf (spLTextOf K) := by
  refine T.f_LTextOf.ok sc_LTextOf (fun vs H Q E h => len_LTextOf h) (fun cdv A outer s H vs Q E hr h => ⟨_, PSs.nox ((pss_cons (ps_if (pt_cmpR op_eq (pe_ix ix_tup (pv 0) pe_int (fun _ _ => rfl)) pe_str (nomark _)) (pss_cons (ps_set (i := 1) sc_LTextOf.nd rfl (Or.inl rfl) (pe_lst pa_nil))
      (pss_cons (ps_for PassesOwn.never rfl (pi_list (pe_ix ix_tup (pv 0) pe_int (fun _ _ => rfl))) (pg_name (i := 2) sc_LTextOf.nd rfl (Or.inl rfl)) (pss_cons (ps_setLc (i := 4) (own := [("_law_number", 3)]) (g := gName 3) (tt := tYes) rfl sc_LTextOf.nd rfl rfl (sw_true rfl rfl rfl (by decide +kernel)) (pi_tup (pe_slice sl_tup (pv 2) (po_some pe_int) po_none)) (blkOk_by (N := N_LTextOf) (sc := defScope sLTextOf) (by decide +kernel)) (fun _ _ _ _ _ => pg_name (i := 3) sc_LTextOf.nd rfl (Or.inl rfl)) (fun _ _ _ _ _ => pts_nil) (fun _ _ _ _ _ => (pe_callTy call_str_int (by rfl) T.b_str (by decide +kernel) (pa_cons (pv 3) pa_nil))))
      (pss_one (ps_expr (pe_bm PySem.F.plainAttrs_list PySem.F.slot_list_append PySem.F.type_list_append mt_append (pv 1) (pa_cons (pe_op op_add_str (pe_op op_add_str (pe_ix ix_tup (pv 2) pe_int (fun _ _ => rfl)) pe_str) (pe_bm PySem.F.plainAttrs_str PySem.F.slot_str_join PySem.F.type_str_join mt_join pe_str (pa_cons (pv 4) pa_nil))) pa_nil))))))
      (pss_one (ps_ret (pe_op op_add_str pe_str (pe_bm PySem.F.plainAttrs_str PySem.F.slot_str_join PySem.F.type_str_join mt_join pe_str (pa_cons (pv 1) pa_nil))))))) pss_nil)
      (pss_one (ps_ret (pe_op op_add_str (pe_op op_add_str (pe_ix ix_tup (pv 0) pe_int (fun _ _ => rfl)) pe_str) (pe_bm PySem.F.plainAttrs_str PySem.F.slot_str_join PySem.F.type_str_join mt_join pe_str (pa_cons (pe_lc (own := [("_law_number", 3)]) (g := gName 3) (tt := tYes) rfl sc_LTextOf.nd (pi_tup (pe_slice sl_tup (pv 0) (po_some pe_int) po_none)) (blkOk_by (N := N_LTextOf) (sc := defScope sLTextOf) (by decide +kernel)) (fun _ _ _ _ _ => pg_name (i := 3) sc_LTextOf.nd rfl (Or.inl rfl)) (fun _ _ _ _ _ => pts_nil) (fun _ _ _ _ _ => (pe_callTy call_str_int (by rfl) T.b_str (by decide +kernel) (pa_cons (pv 3) pa_nil)))) pa_nil))))))), ?_⟩)
  obtain ⟨v, d, rfl, hd, ok, k⟩ := h
  have dl := Td.len ok
  cases d with
  | ord ls =>
    obtain ⟨t, l, xs, rfl, ht, hl, pt⟩ := hd
    have e1 : (", " : Str).length = 2 := by decide +kernel
    have e2 : (" " : Str).length = 1 := by decide +kernel
    have ll := ok.1.2
    have pl : xs.length = ls.length := by rw [pt.length, List.length_map]
    walk_at "rd"
    refine r_ixT (SqT.of ht) (atI_get (j := 0) rfl rfl) ?_
    walk_at "rd"
    refine r_ity rfl ?_
    walk_at "rd"
    refine r_mk (by simp) fun q hq => ?_
    have s1 := same_upd (o := .lst []) hq
    have eq : upd H q (.lst []) q = some (.lst []) := upd_same
    revert s1 eq
    generalize upd H q (.lst []) = H1
    intro s1 eq
    walk_at "rd"
    refine r_ixT (SqT.of (s1 _ _ ht)) (atI_get (j := 1) rfl rfl) ?_
    walk_at "rd"
    have lq : l ≠ q := ne_of_none hl hq
    refine ⟨l, rfl, ⟨xs, SqL.of (s1 _ _ hl)⟩, for_list (K := K) (a := l) (xs := xs) (fun i σ H' => ∃ v2 v4, σ = [some (.ref t), some (.ref q), v2, none, v4] ∧ H' q = some (.lst (((ls.take i).map Tl.str).map V.str)) ∧ But (· = q) H1 H')
      ⟨none, none, rfl, eq, But.refl⟩ (fun i σ H' _ ⟨_, _, _, _, b⟩ => SqL.of (b.keep _ _ (s1 _ _ hl) lq)) ?_ ?_⟩
    · rintro i x σ H2 hi ⟨v2, v4, rfl, eq2, b2⟩
      obtain ⟨row, er, u, rfl, hu⟩ := pr_ex pt hi
      rw [List.getElem?_map] at er
      cases em : ls[i]? with
      | none => rw [em] at er; cases er
      | some m =>
        rw [em] at er
        cases er
        have hu2 := b2.tup _ _ (s1 _ _ hu)
        have okm := ok.2 m (List.mem_of_getElem? em)
        have zl := item_len okm.z
        have l3 : ∀ q, q ∈ [numS m.a, numS m.b, numS m.c] → q.length ≤ 30 := fun q hq => okm.part_len q (List.mem_cons_of_mem _ hq)
        have il : i < 25 := by
          have := (List.getElem?_eq_some_iff.mp em).1
          omega
        walk_at "rd"
        refine ⟨u, _, rfl, SqT.of hu2, (by rintro ⟨z, _⟩; revert z; show ¬ (min 1 4 = 0); decide), fun p hp => ?_⟩
        have s3 := same_upd (o := .tup (numsOf [m.a, m.b, m.c])) hp
        have cut : cutV m.row (some 1) none = numsOf [m.a, m.b, m.c] := cut_from (k := 1)
        rw [cut]
        refine lcp_tup (ys := [numS m.a, numS m.b, numS m.c].map V.str) upd_same rfl (by show 3 ≤ 100000; decide) ?_ ?_
        · intro i x y H' R ex ey s q
          have hi : i < 3 := (List.getElem?_eq_some_iff.mp ex).1
          obtain ⟨n, hn, rfl, rfl⟩ : ∃ n, n < 10 ^ 30 ∧ x = .int (n : Nat) ∧ y = .str (numS n) := by
            have : i = 0 ∨ i = 1 ∨ i = 2 := by omega
            rcases this with rfl | rfl | rfl <;> (cases ex; cases ey)
            · exact ⟨m.a, okm.a, rfl, rfl⟩
            · exact ⟨m.b, okm.b, rfl, rfl⟩
            · exact ⟨m.c, okm.c, rfl, rfl⟩
          walk_at "rd"
          exact ⟨_, rfl, log_num hn, q _ (Same.refl _)⟩
        · intro D H3 hD s4 eD
          have s34 := s3.trans s4
          walk_at "rd"
          refine r_tyL (SqL.of (s34 _ _ eq2)) ?_
          walk_at "rd"
          refine r_ixT (SqT.of (s34 _ _ hu2)) (atI_get (j := 0) rfl rfl) ?_
          walk_at "rd"
          refine ⟨_, _, rfl, rfl, sz5 (by rw [e2]; omega), ?_⟩
          walk_at "rd"
          refine ⟨rfl, ?_⟩
          walk_at "rd"
          have jl := join_len (y := " ") l3
          rw [e2] at jl
          simp only [List.length_cons, List.length_nil] at jl
          refine ⟨" ", D, [numS m.a, numS m.b, numS m.c], rfl, rfl, .inl (SqL.of eD), ?_, ?_⟩
          · have := sum_len l3
            rw [e2]
            simp only [List.length_cons, List.length_nil] at this ⊢
            omega
          walk_at "rd"
          refine ⟨_, _, rfl, rfl, sz5 (by rw [cat_len, e2]; omega), ?_⟩
          have ej : m.z ++ (" " : Str) ++ Txt.join " " [numS m.a, numS m.b, numS m.c] = m.str := join_cons.symm
          rw [ej]
          walk_at "rd"
          refine r_app (s34 _ _ eq2) (by simp; exact sz5l (by omega)) ?_
          walk_at "rd"
          refine ⟨_, _, rfl, ?_, (b2.trans (But.of s34)).trans (But.lst (s34 _ _ eq2) rfl)⟩
          rw [upd_same, take_snoc em, List.map_append, List.map_append]
          rfl
    · rintro σ H2 ⟨v2, v4, rfl, eq2, b2⟩
      rw [pl, List.take_length] at eq2
      have sH : Same H H2 := fun x o e => b2.keep _ _ (s1 _ _ e) (ne_of_none e hq)
      walk_at "rd"
      refine ⟨rfl, ?_⟩
      walk_at "rd"
      refine ⟨", ", q, ls.map Tl.str, rfl, rfl, .inl (SqL.of eq2), ?_, ?_⟩
      · have := sum_len (ord_parts ok.2)
        rw [e1, List.length_map]
        rw [List.length_map] at this
        omega
      walk_at "rd"
      refine ⟨_, _, rfl, rfl, sz5 ?_, k _ sH⟩
      have : (("order " : Str) ++ Txt.join ", " (ls.map Tl.str)).length ≤ 90000 := dl
      rw [cat_len] at this
      omega
  | nums w' ns =>
    obtain ⟨t, rfl, ht⟩ := hd
    obtain ⟨W, ln⟩ := word_ok ok
    have e1 : (" " : Str).length = 1 := by decide +kernel
    have wl := W.len
    walk_at "rd"
    refine r_ixT (SqT.of ht) (atI_get (j := 0) rfl rfl) ?_
    walk_at "rd"
    refine r_itz W.no ?_
    walk_at "rd"
    refine r_ixT (SqT.of ht) (atI_get (j := 0) rfl rfl) ?_
    walk_at "rd"
    refine ⟨_, _, rfl, rfl, sz5 (by rw [e1]; omega), ?_⟩
    walk_at "rd"
    refine ⟨rfl, ?_⟩
    walk_at "rd"
    refine ⟨t, _, rfl, SqT.of ht, ?_, fun p hp => ?_⟩
    · rintro ⟨z, _⟩
      revert z
      have : HT.sIx ((V.str w' :: numsOf ns).length) 0 (some (1 : Int)) = min 1 ((V.str w' :: numsOf ns).length) := HT.sIx_nat _ _ 1
      rw [this, List.length_cons]
      omega
    have cut : cutV (V.str w' :: numsOf ns) (some 1) none = numsOf ns := cut_from (k := 1)
    rw [cut]
    have s1 := same_upd (o := .tup (numsOf ns)) hp
    refine lcp_tup (ys := (ns.map numS).map V.str) upd_same (by unfold numsOf; simp) (by unfold numsOf; rw [List.length_map]; omega) ?_ ?_
    · intro i x y H' R ex ey s q
      unfold numsOf at ex
      rw [List.getElem?_map] at ex ey
      rw [List.getElem?_map] at ey
      cases em : ns[i]? with
      | none => rw [em] at ex; cases ex
      | some n =>
        rw [em] at ex ey
        cases ex
        cases ey
        walk_at "rd"
        exact ⟨_, rfl, log_num (ok.1 n (List.mem_of_getElem? em)), q _ (Same.refl _)⟩
    · intro D H' hD s e
      walk_at "rd"
      have sl := sum_len (nums_parts ok.1)
      have jl : (w' ++ (" " : Str) ++ Txt.join " " (ns.map numS)).length ≤ 90000 := dl
      refine ⟨" ", D, ns.map numS, rfl, rfl, .inl (SqL.of e), ?_, ?_⟩
      · rw [e1, List.length_map]
        rw [List.length_map] at sl
        omega
      walk_at "rd"
      refine ⟨_, _, rfl, rfl, sz5 ?_, k _ (s1.trans s)⟩
      rw [cat_len] at jl
      omega

/-! ### the law reads it -/
theorem starts_cut {z : Str} : Txt.startswith z "order " = decide (cutS z none (some 6) = "order ") := by
  have l6 : ("order " : Str).length = 6 := by decide +kernel
  have hl : z.cps.toList.length = z.length := Array.length_toList
  have t6 : ("order " : Str).cps.toList = [111, 114, 100, 101, 114, 32] := six
  unfold Txt.startswith
  rw [StrLaws.subAt_eq, l6, List.drop_zero, t6]
  by_cases h : cutS z none (some 6) = "order "
  · rw [decide_eq_true h]
    have q := congrArg TL.tl h
    rw [cut_to6, six] at q
    have q' : z.cps.toList.take 6 = [111, 114, 100, 101, 114, 32] := q
    have l := congrArg List.length q'
    rw [List.length_take] at l
    have l' : min 6 z.cps.toList.length = 6 := l
    rw [q', decide_eq_true (by omega)]
    rfl
  · rw [decide_eq_false h]
    cases e : (z.cps.toList.take 6 == [111, 114, 100, 101, 114, 32]) with
    | false => rw [Bool.and_false]
    | true =>
      exfalso
      refine h (TL.ext_tl ?_)
      rw [cut_to6, six]
      exact eq_of_beq e
def numI (z : Str) : Int := match numOf z with
  | some n => (n : Int)
  | none => -1
def spLNumberIn (K : PySem.W.Frag) : Sp := fun vs H Q _ => ∃ z : Str, vs = [.str z] ∧ z.length ≤ 90000 ∧ Q (.int (numI z)) H
theorem len_LNumberIn {K : PySem.W.Frag} {vs : List V} {H : Hp} {Q : VK} {E : XK} (h : spLNumberIn K vs H Q E) : vs.length = 1 := by
  obtain ⟨_, rfl, _⟩ := h; rfl
theorem ok_LNumberIn {P : Program} {w : World} {K : PySem.W.Frag} {mg : Str → Option Value} {base : Heap} (T : Tx w K mg) : FnOk P w K mg base CX0 1 (He.fAd K dLNumberIn.at_) (fdO K dLNumberIn.at_) P_LNumberIn (spLNumberIn K) := by
  refine T.f_LNumberIn.ok sc_LNumberIn (fun vs H Q E h => len_LNumberIn h) (fun cdv A outer s H vs Q E hr h => ⟨_, PSs.nox ((pss_cons (ps_if (PW.pt (pw_or (pt_not (pt_chain op_lt op_lt pe_int (pe_callB call_len_str (by rfl) T.b_len (by decide +kernel) (pa_cons (pv 0) pa_nil)) pe_int)) (pw_or1 (PW.pt (pw_and (pt_cmpR op_eq (pe_ix ix_str (pv 0) pe_int (fun _ _ => rfl)) pe_str (nomark _)) (pw_and1 (pt_cmpR op_gt (pe_callB call_len_str (by rfl) T.b_len (by decide +kernel) (pa_cons (pv 0) pa_nil)) pe_int (nomark _)))))))) (pss_one (ps_ret (pe_un un_neg pe_int))) pss_nil)
      (pss_cons (ps_for PassesOwn.never rfl (pi_str (pv 0)) (pg_name (i := 1) sc_LNumberIn.nd rfl (Or.inl rfl)) (pss_one (ps_if (pt_cmpR op_notIn_sign (pv 1) pe_str (by rfl)) (pss_one (ps_ret (pe_un un_neg pe_int))) pss_nil)))
      (pss_one (ps_ret (pe_callTy call_int_str (by rfl) T.b_int (by decide +kernel) (pa_cons (pv 0) pa_nil))))))), ?_⟩)
  obtain ⟨z, rfl, hz, k⟩ := h
  have no : figs z = false → Q (.int (-1)) H := fun f => by
    have e : numI z = -1 := by
      unfold numI numOf
      rw [f]; rfl
    rw [e] at k
    exact k
  have lens : ¬ (1 ≤ z.length ∧ z.length ≤ 30) → figs z = false := fun c => by
    unfold figs
    rw [decide_eq_false c, Bool.false_and, Bool.and_false]
  with_reducible refine r_join (fun σ' H' => H = H' ∧ (1 ≤ z.length ∧ z.length ≤ 30) ∧ (decide (z.cps.toList.head? = some 48) && decide (1 < z.length)) = false ∧ σ' = [some (.str z), none]) ?_ fun N hN => ?_
  rotate_left
  · walk_at "rd"
    refine ⟨_, rfl, sz5 (by omega), ?_⟩
    walk_at "rd"
    refine r_itd (fun c1 => ?_) (fun c1 => ?_)
    rotate_left
    · walk_at "rd"
      exact no (lens (by omega))
    walk_at "rd"
    refine r_itn (fun c2 => ?_) (fun c2 => ?_)
    · walk_at "rd"
      exact no (lens (by omega))
    have l : 1 ≤ z.length ∧ z.length ≤ 30 := ⟨by omega, by omega⟩
    obtain ⟨c, e1, e2⟩ := head_at l.1
    walk_at "rd"
    refine ⟨_, _, c, rfl, rfl, sz5 (by omega), e1, ?_⟩
    walk_at "rd"
    rw [one_sign]
    refine r_itd (fun c3 => ?_) (fun c3 => ?_)
    · walk_at "rd"
      refine ⟨_, rfl, sz5 (by omega), ?_⟩
      walk_at "rd"
      refine r_itd (fun c4 => ?_) (fun c4 => ?_)
      · walk_at "rd"
        refine no ?_
        unfold figs
        rw [e2, decide_eq_true (p := some c = some 48) (by rw [c3]), decide_eq_true (p := 1 < z.length) (by omega)]
        simp
      · walk_at "rd"
        exact hN _ _ ⟨rfl, l, by rw [decide_eq_false (p := 1 < z.length) (by omega), Bool.and_false], rfl⟩
    · walk_at "rd"
      exact hN _ _ ⟨rfl, l, by rw [e2, decide_eq_false (p := some c = some 48) (fun w => c3 (Option.some.inj w)), Bool.false_and], rfl⟩
  rintro σ' _ ⟨rfl, l, nz, rfl⟩
  walk_at "rd"
  refine ⟨z, rfl, for_it walk_str (fun i σ H' => ∃ v, σ = [some (.str z), v] ∧ H' = H ∧ ∀ j c, j < i → z.cps[j]? = some c → c ∈ figures.cps.toList) ⟨none, rfl, rfl, fun j c hj => absurd hj (Nat.not_lt_zero _)⟩ (fun _ _ _ _ _ => trivial) ?_ ?_⟩
  · rintro i x σ H1 H2 hi ⟨v, rfl, rfl, hp⟩ ⟨rfl, c, hc, rfl⟩
    walk_at "rd"
    refine ⟨c, _, rfl, rfl, ?_⟩
    walk_at "rd"
    refine r_itn (fun hn => ?_) (fun hy => ?_)
    · walk_at "rd"
      exact no (figs_sign hc hn)
    · walk_at "rd"
      refine ⟨_, rfl, rfl, fun j c' hj e => ?_⟩
      by_cases h : j = i
      · subst h
        rw [hc] at e
        rw [← Option.some.inj e]
        exact hy
      · exact hp j c' (by omega) e
  · rintro σ H1 ⟨v, rfl, rfl, hp⟩
    have all := figs_all hp
    have fi : figs z = true := by rw [figs_if all, decide_eq_true l, nz]; rfl
    have e : numI z = ((NumText.digitsVal z.cps.toList : Nat) : Int) := by
      unfold numI numOf
      rw [fi]; rfl
    rw [e] at k
    walk_at "rd"
    exact ⟨z, _, rfl, figs_int all l, by omega, k⟩
def spLLineIn (K : PySem.W.Frag) : Sp := fun vs H Q _ => ∃ z : Str, vs = [.str z] ∧ z.length ≤ 90000 ∧ (∀ t, ltOf z = some t → ∀ v H', Same H H' → TupAt H' v t.row → Q v H') ∧ (ltOf z = none → ∀ H', Same H H' → Q .non H')
theorem len_LLineIn {K : PySem.W.Frag} {vs : List V} {H : Hp} {Q : VK} {E : XK} (h : spLLineIn K vs H Q E) : vs.length = 1 := by
  obtain ⟨_, rfl, _⟩ := h; rfl
theorem numI_cases (z : Str) : (∃ n, numOf z = some n ∧ numI z = (n : Int)) ∨ (numOf z = none ∧ numI z = -1) := by
  unfold numI
  cases numOf z with
  | none => exact .inr ⟨rfl, rfl⟩
  | some n => exact .inl ⟨n, rfl, rfl⟩
theorem ok_LLineIn {P : Program} {w : World} {K : PySem.W.Frag} {mg : Str → Option Value} {base : Heap} (T : Tx w K mg) : FnOk P w K mg base CX0 2 (He.fAd K dLLineIn.at_) (fdO K dLLineIn.at_) P_LLineIn (spLLineIn K) := by
  refine T.f_LLineIn.ok sc_LLineIn (fun vs H Q E h => len_LLineIn h) (fun cdv A outer s H vs Q E hr h => ⟨_, PSs.nox ((pss_cons (ps_set (i := 1) sc_LLineIn.nd rfl (Or.inl rfl) (pe_bm PySem.F.plainAttrs_str PySem.F.slot_str_split PySem.F.type_str_split mt_split (pv 0) (pa_cons pe_str pa_nil)))
      (pss_cons (ps_if (PW.pt (pw_or (pt_cmpR op_ne (pe_callB call_len_seq (by rfl) T.b_len (by decide +kernel) (pa_cons (pv 1) pa_nil)) pe_int (nomark _)) (pw_or1 (pt_not (pt_chain op_lt op_lt pe_int (pe_callB call_len_str (by rfl) T.b_len (by decide +kernel) (pa_cons (pe_ix ix_list (pv 1) pe_int (fun _ _ => rfl)) pa_nil)) pe_int))))) (pss_one (ps_ret pe_non)) pss_nil)
      (pss_cons (ps_for PassesOwn.never rfl (pi_str (pe_ix ix_list (pv 1) pe_int (fun _ _ => rfl))) (pg_name (i := 2) sc_LLineIn.nd rfl (Or.inl rfl)) (pss_one (ps_if (pt_cmpR op_notIn_sign (pv 2) pe_str (by rfl)) (pss_one (ps_ret pe_non)) pss_nil)))
      (pss_cons (ps_setLc (i := 4) (own := [("_law_word", 3)]) (g := gName 3) (tt := tYes) rfl sc_LLineIn.nd rfl rfl (sw_true rfl rfl rfl (by decide +kernel)) (pi_list (pe_slice sl_list (pv 1) (po_some pe_int) po_none)) (blkOk_by (N := N_LLineIn) (sc := defScope sLLineIn) (by decide +kernel)) (fun _ _ _ _ _ => pg_name (i := 3) sc_LLineIn.nd rfl (Or.inl rfl)) (fun _ _ _ _ _ => pts_nil) (fun _ _ _ _ _ => (pe_call (ok_LNumberIn T) (hr.mono (by decide)) rfl T.g_LNumberIn T.f_LNumberIn.kp T.b_LNumberIn .nil pass0 (pa_cons (pv 3) pa_nil))))
      (pss_cons (ps_if (pt_cmpR op_lt (pe_callB (cr_min rfl) (by rfl) T.b_min (by decide +kernel) (pa_cons (pv 4) pa_nil)) pe_int (nomark _)) (pss_one (ps_ret pe_non)) pss_nil)
      (pss_one (ps_ret (pe_tup (pa_cons (pe_ix ix_list (pv 1) pe_int (fun _ _ => rfl)) (pa_cons (pe_ix ix_list (pv 4) pe_int (fun _ _ => rfl)) (pa_cons (pe_ix ix_list (pv 4) pe_int (fun _ _ => rfl)) (pa_cons (pe_ix ix_list (pv 4) pe_int (fun _ _ => rfl)) pa_nil))))))))))))), ?_⟩)
  obtain ⟨z, rfl, hz, k, kN⟩ := h
  walk_at "rd"
  refine ⟨rfl, ?_⟩
  walk_at "rd"
  refine ⟨_, _, rfl, rfl, by decide +kernel, sz5 (by omega), fun p hp => ?_⟩
  have sl := fun p hp => split_len (z := z) (y := " ") (by decide +kernel) p hp
  obtain ⟨ps, eps⟩ : ∃ ps, ps = Txt.split z " " := ⟨_, rfl⟩
  rw [← eps] at sl ⊢
  have s1 := same_upd (o := .lst (ps.map V.str)) hp
  have ep : upd H p (.lst (ps.map V.str)) p = some (.lst (ps.map V.str)) := upd_same
  revert s1 ep
  generalize upd H p (.lst (ps.map V.str)) = H1
  intro s1 ep
  walk_at "rs"
  with_reducible refine r_join (fun σ' H' => H1 = H' ∧ (∃ a b c d, ps = [a, b, c, d] ∧ 1 ≤ a.length ∧ a.length ≤ 12) ∧ σ' = [some (.str z), some (.ref p), none, none, none]) ?_ fun N hN => ?_
  rotate_left
  · walk_at "rd"
    refine ⟨p, _, rfl, .inl (SqL.of ep), ?_⟩
    rw [List.length_map]
    walk_at "rd"
    refine r_itn (fun c => ?_) (fun c => ?_)
    · walk_at "rd"
      refine kN ?_ _ s1
      unfold ltOf
      rw [← eps]
      split
      · exact absurd rfl c
      · rfl
    match ps, sl, eps, ep, c, hN with
    | [a, b, c', d], sl, eps, ep, _, hN =>
    have la := sl a (by simp)
    have no : isItem a = false → Q .non H1 := fun it => kN (by
      unfold ltOf
      rw [← eps]
      show (if isItem a = true then _ else none) = none
      rw [it, if_neg (by decide)]) _ s1
    walk_at "rd"
    refine r_ixL (SqL.of ep) (atI_get (j := 0) rfl rfl) ?_
    walk_at "rd"
    refine ⟨a, rfl, sz5 (by omega), ?_⟩
    walk_at "rd"
    refine r_itd (fun c1 => ?_) (fun c1 => ?_)
    rotate_left
    · walk_at "rd"
      exact no (by unfold isItem; rw [decide_eq_false (p := 1 ≤ a.length ∧ a.length ≤ 12) (by omega), Bool.and_false])
    walk_at "rd"
    refine r_itn (fun c2 => ?_) (fun c2 => ?_)
    · walk_at "rd"
      exact no (by unfold isItem; rw [decide_eq_false (p := 1 ≤ a.length ∧ a.length ≤ 12) (by omega), Bool.and_false])
    · walk_at "rd"
      exact hN _ _ ⟨rfl, ⟨a, b, c', d, rfl, by omega, by omega⟩, rfl⟩
  rintro σ' _ ⟨rfl, ⟨a, b, c', d, rfl, la1, la2⟩, rfl⟩
  have lb := sl b (by simp)
  have lc := sl c' (by simp)
  have ld := sl d (by simp)
  have lt : ltOf z = if isItem a = true then (match numOf b, numOf c', numOf d with
    | some x, some y, some u => some ⟨a, x, y, u⟩
    | _, _, _ => none) else none := by
    unfold ltOf
    rw [← eps]
    try rfl
  walk_at "rd"
  refine r_ixL (SqL.of ep) (atI_get (j := 0) rfl rfl) ?_
  refine ⟨a, rfl, for_it walk_str (fun i σ H' => ∃ v, σ = [some (.str z), some (.ref p), v, none, none] ∧ H' = H1 ∧ ∀ j c, j < i → a.cps[j]? = some c → c ∈ letters.cps.toList) ⟨none, rfl, rfl, fun j c hj => absurd hj (Nat.not_lt_zero _)⟩ (fun _ _ _ _ _ => trivial) ?_ ?_⟩
  · rintro i x σ H2 H3 hi ⟨v, rfl, rfl, hp⟩ ⟨rfl, c, hc, rfl⟩
    walk_at "rd"
    refine ⟨c, _, rfl, rfl, ?_⟩
    walk_at "rd"
    refine r_itn (fun hn => ?_) (fun hy => ?_)
    · walk_at "rd"
      exact kN (by rw [lt, isItem_no hc hn]; rfl) _ s1
    · walk_at "rd"
      refine ⟨_, rfl, rfl, fun j c' hj e => ?_⟩
      by_cases h : j = i
      · subst h
        rw [hc] at e
        rw [← Option.some.inj e]
        exact hy
      · exact hp j c' (by omega) e
  · rintro σ H2 ⟨v, rfl, rfl, hp⟩
    have it : isItem a = true := by rw [isItem_yes hp]; exact decide_eq_true ⟨la1, la2⟩
    rw [it, if_pos rfl] at lt
    walk_at "rd"
    refine r_sll (SqL.of ep) fun p2 hp2 => ?_
    have cut : cutV ([a, b, c', d].map V.str) (some 1) none = [b, c', d].map V.str := cut_from (k := 1)
    rw [cut]
    have s2 := same_upd (o := .lst ([b, c', d].map V.str)) hp2
    refine lcp_list (ys := [b, c', d].map fun q => V.int (numI q)) (SqL.of upd_same) rfl (by show 3 ≤ 100000; decide) ?_ ?_
    · intro i x y H' R ex ey s q
      have hi : i < 3 := (List.getElem?_eq_some_iff.mp ex).1
      obtain ⟨w', hw, rfl, rfl⟩ : ∃ w', w'.length ≤ 90000 ∧ x = .str w' ∧ y = .int (numI w') := by
        have : i = 0 ∨ i = 1 ∨ i = 2 := by omega
        rcases this with rfl | rfl | rfl <;> (cases ex; cases ey)
        · exact ⟨b, by omega, rfl, rfl⟩
        · exact ⟨c', by omega, rfl, rfl⟩
        · exact ⟨d, by omega, rfl, rfl⟩
      walk_at "rd"
      exact ⟨w', rfl, hw, q _ (Same.refl _)⟩
    · intro D H3 hD s3 eD
      have s13 := (s1.trans s2).trans s3
      walk_at "rd"
      refine ⟨D, [numI b, numI c', numI d], rfl, SqL.of eD, (by show 0 < 3; decide), fun mn hm hmin => ?_⟩
      have h1 := hmin (numI b) (by simp)
      have h2 := hmin (numI c') (by simp)
      have h3 := hmin (numI d) (by simp)
      walk_at "rd"
      refine r_itd (fun c1 => ?_) (fun c1 => ?_)
      · walk_at "rd"
        refine kN ?_ _ s13
        rw [lt]
        simp only [List.mem_cons, List.not_mem_nil, or_false] at hm
        rcases numI_cases b with ⟨x, e1, f1⟩ | ⟨e1, f1⟩
        · rcases numI_cases c' with ⟨y, e2, f2⟩ | ⟨e2, f2⟩
          · rcases numI_cases d with ⟨u, e3, f3⟩ | ⟨e3, f3⟩
            · exfalso
              rcases hm with hm | hm | hm <;> omega
            · rw [e1, e2, e3]
          · rw [e1, e2]
        · rw [e1]
      · rcases numI_cases b with ⟨x, e1, f1⟩ | ⟨e1, f1⟩
        rotate_left
        · exfalso; omega
        rcases numI_cases c' with ⟨y, e2, f2⟩ | ⟨e2, f2⟩
        rotate_left
        · exfalso; omega
        rcases numI_cases d with ⟨u, e3, f3⟩ | ⟨e3, f3⟩
        rotate_left
        · exfalso; omega
        rw [e1, e2, e3] at lt
        walk_at "rd"
        refine r_ixL (SqL.of (s3 _ _ (s2 _ _ ep))) (atI_get (j := 0) rfl rfl) ?_
        walk_at "rd"
        refine r_ixL (SqL.of eD) (atI_get (j := 0) rfl rfl) ?_
        walk_at "rd"
        refine r_ixL (SqL.of eD) (atI_get (j := 1) rfl rfl) ?_
        walk_at "rd"
        refine r_ixL (SqL.of eD) (atI_get (j := 2) rfl rfl) ?_
        walk_at "rd"
        dsimp only
        rw [f1, f2, f3]
        exact r_mk (by simp) fun q hq => k _ lt _ _ (s13.trans (same_upd hq)) ⟨q, rfl, upd_same⟩
/-- what words of deeds there are -/
theorem words7 {w : Str} (no : w ≠ "order") : (parts.lookup w = none ∧ w ∉ (["deliver", "back", "swap", "credit", "move", "pay", "refund"] : List Str)) ∨
    (inV (.str w) [.str "deliver", .str "back", .str "swap", .str "credit", .str "move", .str "pay", .str "refund"] = true ∧ PyData.strOk w = true ∧ ((parts.lookup w = some 4 ∧ inV (.str w) [.str "pay", .str "refund"] = false) ∨ (parts.lookup w = some 3 ∧ inV (.str w) [.str "pay", .str "refund"] = true))) := by
  by_cases h : w ∈ (["deliver", "back", "swap", "credit", "move", "pay", "refund"] : List Str)
  · refine .inr ?_
    simp only [List.mem_cons, List.not_mem_nil, or_false] at h
    rcases h with rfl | rfl | rfl | rfl | rfl | rfl | rfl
    · exact ⟨by decide +kernel, by decide +kernel, .inl ⟨by decide +kernel, by decide +kernel⟩⟩
    · exact ⟨by decide +kernel, by decide +kernel, .inl ⟨by decide +kernel, by decide +kernel⟩⟩
    · exact ⟨by decide +kernel, by decide +kernel, .inl ⟨by decide +kernel, by decide +kernel⟩⟩
    · exact ⟨by decide +kernel, by decide +kernel, .inl ⟨by decide +kernel, by decide +kernel⟩⟩
    · exact ⟨by decide +kernel, by decide +kernel, .inl ⟨by decide +kernel, by decide +kernel⟩⟩
    · exact ⟨by decide +kernel, by decide +kernel, .inr ⟨by decide +kernel, by decide +kernel⟩⟩
    · exact ⟨by decide +kernel, by decide +kernel, .inr ⟨by decide +kernel, by decide +kernel⟩⟩
  · refine .inl ⟨?_, h⟩
    cases e : parts.lookup w with
    | none => rfl
    | some n =>
      exfalso
      have hm := lookup_mem e
      unfold parts at hm
      simp only [List.mem_cons, Prod.mk.injEq, List.not_mem_nil, or_false] at hm
      simp only [List.mem_cons, List.not_mem_nil, or_false, not_or] at h
      rcases hm with q | q | q | q | q | q | q | q
      · exact no q.1
      · exact h.1 q.1
      · exact h.2.1 q.1
      · exact h.2.2.1 q.1
      · exact h.2.2.2.1 q.1
      · exact h.2.2.2.2.2.1 q.1
      · exact h.2.2.2.2.2.2 q.1
      · exact h.2.2.2.2.1 q.1
theorem inV_out {w : Str} {ws : List Str} (h : w ∉ ws) : inV (.str w) (ws.map V.str) = false := by
  unfold inV
  rw [List.any_eq_false]
  intro v hv
  obtain ⟨z, hz, rfl⟩ := List.mem_map.mp hv
  show ¬ (z == w) = true
  intro e
  have : z = w := by simpa using e
  exact h (this ▸ hz)
theorem mapO_all {α β : Type} {f : α → Option β} : ∀ {l : List α}, (∀ a, a ∈ l → f a ≠ none) → ∃ bs, mapO f l = some bs
  | [], _ => ⟨[], rfl⟩
  | a :: r, h => by
    obtain ⟨bs, e⟩ := mapO_all (f := f) (l := r) fun x hx => h x (List.mem_cons_of_mem _ hx)
    cases q : f a with
    | none => exact absurd q (h a List.mem_cons_self)
    | some b =>
      refine ⟨b :: bs, ?_⟩
      show (match f a, mapO f r with | some b, some bs => some (b :: bs) | _, _ => none) = _
      rw [q, e]
def optV (H : Hp) (v : V) (z : Str) : Prop := (∃ t, ltOf z = some t ∧ TupAt H v t.row) ∨ (ltOf z = none ∧ v = .non)
theorem mapO_some {α β : Type} {f : α → Option β} {a : α} {r : List α} {bs : List β} (h : mapO f (a :: r) = some bs) : ∃ b cs, f a = some b ∧ mapO f r = some cs ∧ bs = b :: cs := by
  have h' : (match f a, mapO f r with | some b, some bs => some (b :: bs) | _, _ => none) = some bs := h
  cases e1 : f a with
  | none => rw [e1] at h'; cases h'
  | some b =>
    cases e2 : mapO f r with
    | none => rw [e1, e2] at h'; cases h'
    | some cs =>
      rw [e1, e2] at h'
      cases h'
      exact ⟨b, cs, rfl, rfl, rfl⟩
theorem opt_pair {H : Hp} : ∀ {acc : List V} {ps : List Str} {bs : List Tl}, Paired (optV H) acc ps → mapO ltOf ps = some bs → Paired (TupAt H) acc (bs.map Tl.row)
  | _, _, bs, .nil, h => by
    cases h
    exact .nil
  | _, _, bs, .cons q r, h => by
    obtain ⟨b, cs, e1, e2, rfl⟩ := mapO_some h
    rcases q with ⟨t, e, q⟩ | ⟨e, _⟩
    · rw [e1] at e
      cases e
      exact .cons q (opt_pair r e2)
    · rw [e1] at e
      cases e
theorem nums_all : ∀ {ws : List Str} {ns : List Nat}, mapO numOf ws = some ns → (ws.map fun q => V.int (numI q)) = numsOf ns
  | [], ns, h => by cases h; rfl
  | w :: ws, ns, h => by
    obtain ⟨b, cs, e1, e2, rfl⟩ := mapO_some h
    have : numI w = (b : Int) := by
      unfold numI
      rw [e1]
    rw [List.map_cons, nums_all e2, this]
    rfl
def spLDeedIn (K : PySem.W.Frag) : Sp := fun vs H Q _ => ∃ z : Str, vs = [.str z] ∧ z.length ≤ 90000 ∧ (∀ d, rdOf z = some d → ∀ v H', Same H H' → TdA H' v d → Q v H') ∧ (rdOf z = none → ∀ H', Same H H' → Q .non H')
theorem len_LDeedIn {K : PySem.W.Frag} {vs : List V} {H : Hp} {Q : VK} {E : XK} (h : spLDeedIn K vs H Q E) : vs.length = 1 := by
  obtain ⟨_, rfl, _⟩ := h; rfl
theorem ok_LDeedIn {P : Program} {w : World} {K : PySem.W.Frag} {mg : Str → Option Value} {base : Heap} (T : Tx w K mg) : FnOk P w K mg base CX0 3 (He.fAd K dLDeedIn.at_) (fdO K dLDeedIn.at_) P_LDeedIn (spLDeedIn K) := by
  refine T.f_LDeedIn.ok sc_LDeedIn (fun vs H Q E h => len_LDeedIn h) (fun cdv A outer s H vs Q E hr h => ⟨_, PSs.nox ((pss_cons (ps_if (pt_val (pe_bm PySem.F.plainAttrs_str PySem.F.slot_str_startswith PySem.F.type_str_startswith mt_startswith (pv 0) (pa_cons pe_str pa_nil))) (pss_cons (ps_setLc (i := 2) (own := [("_law_part", 1)]) (g := gName 1) (tt := tYes) rfl sc_LDeedIn.nd rfl rfl (sw_true rfl rfl rfl (by decide +kernel)) (pi_list (pe_bm PySem.F.plainAttrs_str PySem.F.slot_str_split PySem.F.type_str_split mt_split (pe_slice sl_str (pv 0) (po_some pe_int) po_none) (pa_cons pe_str pa_nil))) (blkOk_by (N := N_LDeedIn) (sc := defScope sLDeedIn) (by decide +kernel)) (fun _ _ _ _ _ => pg_name (i := 1) sc_LDeedIn.nd rfl (Or.inl rfl)) (fun _ _ _ _ _ => pts_nil) (fun _ _ _ _ _ => (pe_call (ok_LLineIn T) (hr.mono (by decide)) rfl T.g_LLineIn T.f_LLineIn.kp T.b_LLineIn .nil pass0 (pa_cons (pv 1) pa_nil))))
      (pss_cons (ps_for PassesOwn.never rfl (pi_list (pv 2)) (pg_name (i := 3) sc_LDeedIn.nd rfl (Or.inl rfl)) (pss_one (ps_if (pt_cmpR op_isN (pv 3) pe_non (nomark _)) (pss_one (ps_ret pe_non)) pss_nil)))
      (pss_one (ps_ret (pe_tup (pa_cons pe_str (pa_cons (pv 2) pa_nil))))))) pss_nil)
      (pss_cons (ps_set (i := 4) sc_LDeedIn.nd rfl (Or.inl rfl) (pe_bm PySem.F.plainAttrs_str PySem.F.slot_str_split PySem.F.type_str_split mt_split (pv 0) (pa_cons pe_str pa_nil)))
      (pss_cons (ps_set (i := 5) sc_LDeedIn.nd rfl (Or.inl rfl) (pe_op op_sub pe_int (pe_callTy call_int1 (by rfl) T.b_int (by decide +kernel) (pa_cons (pe_cmpR op_in_seq (pe_ix ix_list (pv 4) pe_int (fun _ _ => rfl)) (pe_lst (pa_cons pe_str (pa_cons pe_str pa_nil))) (by rfl)) pa_nil))))
      (pss_cons (ps_if (PW.pt (pw_or (pt_cmpR op_notIn_seq (pe_ix ix_list (pv 4) pe_int (fun _ _ => rfl)) (pe_lst (pa_cons pe_str (pa_cons pe_str (pa_cons pe_str (pa_cons pe_str (pa_cons pe_str (pa_cons pe_str (pa_cons pe_str pa_nil)))))))) (by rfl)) (pw_or1 (pt_cmpR op_ne (pe_callB call_len_seq (by rfl) T.b_len (by decide +kernel) (pa_cons (pv 4) pa_nil)) (pv 5) (nomark _))))) (pss_one (ps_ret pe_non)) pss_nil)
      (pss_cons (ps_setLc (i := 7) (own := [("_law_word", 6)]) (g := gName 6) (tt := tYes) rfl sc_LDeedIn.nd rfl rfl (sw_true rfl rfl rfl (by decide +kernel)) (pi_list (pe_slice sl_list (pv 4) (po_some pe_int) po_none)) (blkOk_by (N := N_LDeedIn) (sc := defScope sLDeedIn) (by decide +kernel)) (fun _ _ _ _ _ => pg_name (i := 6) sc_LDeedIn.nd rfl (Or.inl rfl)) (fun _ _ _ _ _ => pts_nil) (fun _ _ _ _ _ => (pe_call (ok_LNumberIn T) (hr.mono (by decide)) rfl T.g_LNumberIn T.f_LNumberIn.kp T.b_LNumberIn .nil pass0 (pa_cons (pv 6) pa_nil))))
      (pss_cons (ps_if (pt_cmpR op_lt (pe_callB (cr_min rfl) (by rfl) T.b_min (by decide +kernel) (pa_cons (pv 7) pa_nil)) pe_int (nomark _)) (pss_one (ps_ret pe_non)) pss_nil)
      (pss_one (ps_ret (pe_callTy call_tuple_of (by rfl) T.b_tuple (by decide +kernel) (pa_cons (pe_op op_cat (pe_lst (pa_cons (pe_ix ix_list (pv 4) pe_int (fun _ _ => rfl)) pa_nil)) (pv 7)) pa_nil))))))))))), ?_⟩)
  obtain ⟨z, rfl, hz, k, kN⟩ := h
  walk_at "rd"
  refine ⟨rfl, ?_⟩
  walk_at "rd"
  refine ⟨z, _, rfl, rfl, ?_⟩
  rw [starts_cut]
  walk_at "rd"
  refine r_itd (fun ho => ?_) (fun ho => ?_)
  · have rd : rdOf z = (mapO ltOf (Txt.split (cutS z (some 6) none) ", ")).map Td.ord := if_pos ho
    have tl : (cutS z (some 6) none).length ≤ 90000 := Nat.le_trans (cutS_length z _ _) hz
    walk_at "rd"
    refine ⟨_, rfl, sz5 (by omega), ?_⟩
    refine ⟨rfl, ?_⟩
    walk_at "rd"
    refine ⟨_, _, rfl, rfl, by decide +kernel, sz5 (by omega), fun p hp => ?_⟩
    have sl := fun p hp => split_len (z := cutS z (some 6) none) (y := ", ") (by decide +kernel) p hp
    have sm := split_many (z := cutS z (some 6) none) (y := ", ") (by decide +kernel)
    revert rd sl sm
    generalize Txt.split (cutS z (some 6) none) ", " = ps
    intro rd sl sm
    have s1 := same_upd (o := .lst (ps.map V.str)) hp
    refine lcp_rel (xs := ps.map V.str) (zs := ps) (R := optV) (SqL.of upd_same) (by simp) (by simp; omega) (fun H H' v t h st => h.elim (fun ⟨x, e, q, e2, h⟩ => .inl ⟨x, e, q, e2, st _ _ h⟩) .inr) ?_ ?_
    · intro i x y H' W ex ey s q
      rw [List.getElem?_map, ey] at ex
      cases ex
      walk_at "rd"
      exact ⟨y, rfl, by have := sl y (List.mem_of_getElem? ey); omega, fun t et v H2 s2 hv => q v H2 s2 (.inl ⟨t, et, hv⟩), fun et H2 s2 => q .non H2 s2 (.inr ⟨et, rfl⟩)⟩
    · intro D H2 acc hD s2 eD pr
      have s12 := s1.trans s2
      walk_at "rd"
      refine ⟨D, rfl, ⟨_, SqL.of eD⟩, for_list (K := K) (a := D) (xs := acc) (fun i σ H' => ∃ v, σ = [some (.str z), none, some (.ref D), v, none, none, none, none] ∧ H' = H2 ∧ ∀ (j : Nat) w, j < i → ps[j]? = some w → ltOf w ≠ none) ⟨none, rfl, rfl, fun j w hj => absurd hj (Nat.not_lt_zero _)⟩ (fun i σ H' _ ⟨_, _, e, _⟩ => by rw [e]; exact SqL.of eD) ?_ ?_⟩
      · rintro i x σ H' hi ⟨v, rfl, rfl, ok⟩
        obtain ⟨w', ew, hw⟩ := pr_ex pr hi
        rcases hw with ⟨t, et, q, rfl, hq⟩ | ⟨et, rfl⟩
        · walk_at "rd"
          refine ⟨rfl, ?_⟩
          walk_at "rd"
          refine r_itz (fun q => by cases q) ?_
          walk_at "rd"
          refine ⟨_, rfl, rfl, fun j u hj eu => ?_⟩
          by_cases ej : j = i
          · subst ej
            rw [ew] at eu
            cases eu
            rw [et]
            exact fun q => nomatch q
          · exact ok j u (by omega) eu
        · walk_at "rd"
          refine ⟨rfl, ?_⟩
          walk_at "rd"
          refine r_ity rfl ?_
          walk_at "rd"
          exact kN (by rw [rd, mapO_bad ew et]; rfl) _ s12
      · rintro σ H' ⟨v, rfl, rfl, ok⟩
        have lp := pr.length
        obtain ⟨bs, m⟩ := mapO_all (f := ltOf) (l := ps) fun a ha => by
          obtain ⟨j, hj⟩ := List.getElem?_of_mem ha
          exact ok j a (by rw [lp]; exact (List.getElem?_eq_some_iff.mp hj).1) hj
        walk_at "rd"
        refine r_mk (by simp) fun t ht => ?_
        have s3 := same_upd (o := .tup [.str "order", .ref D]) ht
        exact k (.ord bs) (by rw [rd, m]; rfl) _ _ (s12.trans s3) ⟨t, D, acc, rfl, upd_same, s3 _ _ eD, tup_keep (But.of (S := fun _ => False) s3) (opt_pair pr m)⟩
  · have rd : rdOf z = match Txt.split z " " with
      | w :: ws => if w ≠ "order" ∧ parts.lookup w = some ((ws.length : Int) + 1) then (mapO numOf ws).map (Td.nums w) else none
      | [] => none := if_neg ho
    walk_at "rd"
    refine ⟨rfl, ?_⟩
    walk_at "rd"
    refine ⟨_, _, rfl, rfl, by decide +kernel, sz5 (by omega), fun p hp => ?_⟩
    have sl := fun p hp => split_len (z := z) (y := " ") (by decide +kernel) p hp
    have sm := split_many (z := z) (y := " ") (by decide +kernel)
    obtain ⟨w', ws, ew⟩ := split_ne (z := z) (y := " ")
    rw [ew] at rd sl sm ⊢
    have s1 := same_upd (o := .lst ((w' :: ws).map V.str)) hp
    have ep : upd H p (.lst ((w' :: ws).map V.str)) p = some (.lst ((w' :: ws).map V.str)) := upd_same
    revert s1 ep
    generalize upd H p (.lst ((w' :: ws).map V.str)) = H1
    intro s1 ep
    have no : ¬ (w' ≠ "order" ∧ parts.lookup w' = some ((ws.length : Int) + 1)) → ∀ H', Same H1 H' → Q .non H' := fun c H' s => kN (by rw [rd]; exact if_neg c) _ (s1.trans s)
    have lw : ((((w' :: ws).map V.str).length : Nat) : Int) = (ws.length : Int) + 1 := by simp
    walk_at "rd"
    refine r_ixL (SqL.of ep) (atI_get (j := 0) rfl rfl) ?_
    walk_at "rd"
    refine r_mk (by simp) fun l2 hl2 => ?_
    have s2 := same_upd (o := .lst [.str "pay", .str "refund"]) hl2
    walk_at "rd"
    refine ⟨l2, _, rfl, .inl (SqL.of upd_same), rfl, rfl, ?_⟩
    revert s2
    generalize upd H1 l2 _ = H2
    intro s2
    walk_at "rd"
    refine .inr ⟨_, rfl, ?_⟩
    walk_at "rd"
    refine r_ixL (SqL.of (s2 _ _ ep)) (atI_get (j := 0) rfl rfl) ?_
    walk_at "rd"
    refine r_mk (by simp) fun l3 hl3 => ?_
    have s3 := same_upd (o := .lst [.str "deliver", .str "back", .str "swap", .str "credit", .str "move", .str "pay", .str "refund"]) hl3
    walk_at "rd"
    refine ⟨l3, _, rfl, .inl (SqL.of upd_same), rfl, rfl, ?_⟩
    revert s3
    generalize upd H2 l3 _ = H3
    intro s3
    have s23 := s2.trans s3
    have ep3 := s23 _ _ ep
    have cls : (inV (.str w') [.str "deliver", .str "back", .str "swap", .str "credit", .str "move", .str "pay", .str "refund"] = false ∧ ∀ n : Int, ¬ (w' ≠ "order" ∧ parts.lookup w' = some n)) ∨
      (inV (.str w') [.str "deliver", .str "back", .str "swap", .str "credit", .str "move", .str "pay", .str "refund"] = true ∧ w' ≠ "order" ∧ ∃ bw : Bool, inV (.str w') [.str "pay", .str "refund"] = bw ∧ parts.lookup w' = some (4 - (if bw = true then 1 else 0))) := by
      by_cases c : w' = "order"
      · subst c
        exact .inl ⟨by decide +kernel, fun n q => q.1 rfl⟩
      rcases words7 c with ⟨e, h⟩ | ⟨i7, _, ⟨e, b⟩ | ⟨e, b⟩⟩
      · exact .inl ⟨inV_out h, fun n q => by rw [e] at q; cases q.2⟩
      · exact .inr ⟨i7, c, false, b, e⟩
      · exact .inr ⟨i7, c, true, b, e⟩
    rcases cls with ⟨e, bad⟩ | ⟨i7, nord, bw, eb, e⟩
    · rw [e]
      walk_at "rd"
      exact no (bad _) _ s23
    rw [i7]
    walk_at "rd"
    refine r_itnT ?_
    walk_at "rd"
    refine ⟨_, _, rfl, .inl (SqL.of ep3), ?_⟩
    rw [lw]
    walk_at "rd"
    have size : (4 - (if (if false = true then !inV (V.str w') [V.str "pay", V.str "refund"] else inV (V.str w') [V.str "pay", V.str "refund"]) = true then 1 else 0) : Int) = 4 - (if bw = true then 1 else 0) := by
      rw [if_neg (show ¬ false = true by decide), eb]
    rw [size]
    refine r_itn (fun c => ?_) (fun c => ?_)
    · walk_at "rd"
      exact no (fun q => by rw [e] at q; exact c (Option.some.inj q.2).symm) _ s23
    have yes : w' ≠ "order" ∧ parts.lookup w' = some ((ws.length : Int) + 1) := ⟨nord, by rw [e, c]⟩
    have rd2 : rdOf z = (mapO numOf ws).map (Td.nums w') := by rw [rd]; exact if_pos yes
    have ln := part_len yes.2 nord
    walk_at "rd"
    refine r_sll (SqL.of ep3) fun p2 hp2 => ?_
    have cut : cutV ((w' :: ws).map V.str) (some 1) none = ws.map V.str := cut_from (k := 1)
    rw [cut]
    have s4 := same_upd (o := .lst (ws.map V.str)) hp2
    refine lcp_list (ys := ws.map fun q => V.int (numI q)) (SqL.of upd_same) (by simp) (by simp; omega) ?_ ?_
    · intro i x y H' R ex ey s q
      rw [List.getElem?_map] at ex ey
      cases ea : ws[i]? with
      | none => rw [ea] at ex; cases ex
      | some a =>
        rw [ea] at ex ey
        cases ex
        cases ey
        walk_at "rd"
        exact ⟨a, rfl, by have := sl a (List.mem_cons_of_mem _ (List.mem_of_getElem? ea)); omega, q _ (Same.refl _)⟩
    · intro D H5 hD s5 eD
      have s25 := (s23.trans s4).trans s5
      have ep5 := s5 _ _ (s4 _ _ ep3)
      walk_at "rd"
      refine ⟨D, ws.map numI, rfl, SqL.of (by rw [eD, List.map_map]; rfl), by rw [List.length_map]; omega, fun mn hm hmin => ?_⟩
      walk_at "rd"
      refine r_itd (fun c1 => ?_) (fun c1 => ?_)
      · walk_at "rd"
        refine kN ?_ _ (s1.trans s25)
        obtain ⟨a, ha, ea⟩ := List.mem_map.mp hm
        obtain ⟨j, hj⟩ := List.getElem?_of_mem ha
        have bad : numOf a = none := by
          rcases numI_cases a with ⟨n, _, f⟩ | ⟨f, _⟩
          · exfalso; omega
          · exact f
        rw [rd2, mapO_bad hj bad]; rfl
      · obtain ⟨ns, m⟩ := mapO_all (f := numOf) (l := ws) fun a ha q => by
          have h1 := hmin (numI a) (List.mem_map_of_mem ha)
          rcases numI_cases a with ⟨n, f, _⟩ | ⟨_, f⟩
          · rw [q] at f; cases f
          · omega
        rw [nums_all m] at eD
        have ll := mapO_len m
        walk_at "rd"
        refine r_ixL (SqL.of ep5) (atI_get (j := 0) rfl rfl) ?_
        walk_at "rd"
        refine r_mk (by simp) fun l6 hl6 => ?_
        have s6 := same_upd (o := .lst [.str w']) hl6
        walk_at "rd"
        refine ⟨l6, D, _, _, rfl, rfl, upd_same, s6 _ _ eD, by show 1 + (numsOf ns).length ≤ sizeLine; unfold numsOf; exact sz5 (by rw [List.length_map]; omega), fun l7 hl7 => ?_⟩
        have s7 := same_upd (o := .lst ([.str w'] ++ numsOf ns)) hl7
        walk_at "rd"
        refine ⟨l7, _, rfl, .inl ⟨SqL.of upd_same, fun t ht => ?_⟩⟩
        have s8 := same_upd (o := .tup ([.str w'] ++ numsOf ns)) ht
        exact k (.nums w' ns) (by rw [rd2, m]; rfl) _ _ ((((s1.trans s25).trans s6).trans s7).trans s8) ⟨t, rfl, upd_same⟩

theorem letters_small : ∀ c, c ∈ letters.cps.toList → c < 0x110000 := by decide +kernel
theorem item_str {z : Str} (h : isItem z = true) : PyData.strOk z = true := by
  unfold isItem at h
  have q := of_decide_eq_true (Bool.and_eq_true_iff.mp h).1
  unfold PyData.strOk
  rw [← Array.all_toList, List.all_eq_true]
  intro c hc
  exact decide_eq_true (letters_small c (q c hc))
/-! ### alike -/
theorem Tl.ok.scs {t : Tl} (h : t.ok) : Scs t.row := .cons (.inr ⟨_, rfl, item_str h.z⟩) (.cons .int (.cons .int (.cons .int .nil)))
theorem nums_scs {w : Str} {ns : List Nat} (h : PyData.strOk w = true) : Scs (.str w :: numsOf ns) := .cons (.inr ⟨_, rfl, h⟩) fun v hv => by
  obtain ⟨n, _, rfl⟩ := List.mem_map.mp hv
  exact .int
def spLPartsAlike (_ : PySem.W.Frag) : Sp := fun vs H Q _ => ∃ (t u : Addr) (r : List V), vs = [.ref t, .ref u] ∧ H t = some (.tup r) ∧ H u = some (.tup r) ∧ Scs r ∧ Q (.bl true) H
theorem len_LPartsAlike {K : PySem.W.Frag} {vs : List V} {H : Hp} {Q : VK} {E : XK} (h : spLPartsAlike K vs H Q E) : vs.length = 2 := by
  obtain ⟨_, _, _, rfl, _⟩ := h; rfl
theorem ok_LPartsAlike {P : Program} {w : World} {K : PySem.W.Frag} {mg : Str → Option Value} {base : Heap} (T : Tx w K mg) : FnOk P w K mg base CX0 2 (He.fAd K dLPartsAlike.at_) (fdO K dLPartsAlike.at_) P_LPartsAlike (spLPartsAlike K) := by
  refine T.f_LPartsAlike.ok sc_LPartsAlike (fun vs H Q E h => len_LPartsAlike h) (fun cdv A outer s H vs Q E hr h => ⟨_, PSs.nox ((pss_cons (ps_if (PW.pt (pw_or (pt_not (pt_val (pe_callB call_isi (by rfl) T.b_isinstance (by decide +kernel) (pa_cons (pv 0) (pa_cons (pe_bltn (v := .ty "tuple") (by rfl) T.b_tuple (by decide +kernel) rfl) pa_nil))))) (pw_or1 (pt_cmpR (op_neD hr.units) (pv 0) (pv 1) (nomark _))))) (pss_one (ps_ret pe_bl)) pss_nil)
      (pss_cons (ps_for PassesOwn.never rfl (pi_tup (pv 0)) (pg_name (i := 2) sc_LPartsAlike.nd rfl (Or.inl rfl)) (pss_one (ps_if (PW.pt (pw_and (pt_not (pt_val (pe_callB call_isi (by rfl) T.b_isinstance (by decide +kernel) (pa_cons (pv 2) (pa_cons (pe_bltn (v := .ty "str") (by rfl) T.b_str (by decide +kernel) rfl) pa_nil))))) (pw_and1 (pt_not (pt_val (pe_call (ok_LWhole T) (hr.mono (by decide)) rfl T.g_LWhole T.f_LWhole.kp T.b_LWhole .nil pass0 (pa_cons (pv 2) pa_nil))))))) (pss_one (ps_ret pe_bl)) pss_nil)))
      (pss_one (ps_ret pe_bl))))), ?_⟩)
  obtain ⟨t, u, r, rfl, ht, hu, sc, k⟩ := h
  walk_at "rd"
  refine r_is_tup_tuple ht ?_
  walk_at "rd"
  refine r_neTT (SqT.of ht) (SqT.of hu) sc sc ?_
  walk_at "rd"
  refine r_itn (fun c => absurd rfl c) (fun _ => ?_)
  walk_at "rd"
  refine ⟨t, rfl, ⟨_, SqT.of ht⟩, for_tup (K := K) (a := t) (xs := r) (fun i σ H' => ∃ v, σ = [some (.ref t), some (.ref u), v] ∧ H' = H) ⟨none, rfl, rfl⟩ (fun i σ H' _ ⟨_, _, e⟩ => by rw [e]; exact SqT.of ht) ?_ ?_⟩
  · rintro i x σ H' hi ⟨v, rfl, rfl⟩
    rcases sc x (List.mem_of_getElem? hi) with ⟨n, rfl⟩ | ⟨z, rfl, _⟩
    · walk_at "rd"
      refine ⟨n, rfl, ?_⟩
      walk_at "rd"
      exact ⟨_, rfl, rfl⟩
    · walk_at "rd"
      exact ⟨_, rfl, rfl⟩
  · rintro σ H' ⟨v, rfl, rfl⟩
    walk_at "rd"
    exact k
def Td.fine : Td → Prop
  | .ord ls => ls.length ≤ 90001 ∧ ∀ t, t ∈ ls → t.ok
  | .nums w _ => w ≠ "order" ∧ PyData.strOk w = true
theorem rd_fine {z : Str} {d : Td} (h : rdOf z = some d) (hz : z.length ≤ 90000) : d.fine := by
  unfold rdOf at h
  split at h
  · cases e : mapO ltOf (Txt.split (cutS z (some 6) none) ", ") with
    | none => rw [e] at h; cases h
    | some ls =>
      rw [e] at h
      cases h
      refine ⟨?_, fun t ht => ?_⟩
      · rw [mapO_len e]
        have := split_many (z := cutS z (some 6) none) (y := ", ") (by decide +kernel)
        have := cutS_length z (some 6) none
        omega
      · obtain ⟨a, _, ea⟩ := mapO_mem e ht
        exact ltOf_ok ea
  · split at h
    · split at h
      · rename_i w ws _ c
        cases e : mapO numOf ws with
        | none => rw [e] at h; cases h
        | some ns =>
          rw [e] at h
          cases h
          refine ⟨c.1, ?_⟩
          rcases words7 c.1 with ⟨q, _⟩ | ⟨_, q, _⟩
          · rw [q] at c; cases c.2
          · exact q
      · cases h
    · cases h
def spLDeedAlike (_ : PySem.W.Frag) : Sp := fun vs H Q _ => ∃ (v u : V) (d : Td), vs = [v, u] ∧ TdA H v d ∧ TdA H u d ∧ d.fine ∧ Q (.bl true) H
theorem len_LDeedAlike {K : PySem.W.Frag} {vs : List V} {H : Hp} {Q : VK} {E : XK} (h : spLDeedAlike K vs H Q E) : vs.length = 2 := by
  obtain ⟨_, _, _, rfl, _⟩ := h; rfl
theorem ok_LDeedAlike {P : Program} {w : World} {K : PySem.W.Frag} {mg : Str → Option Value} {base : Heap} (T : Tx w K mg) : FnOk P w K mg base CX0 3 (He.fAd K dLDeedAlike.at_) (fdO K dLDeedAlike.at_) P_LDeedAlike (spLDeedAlike K) := by
  refine T.f_LDeedAlike.ok sc_LDeedAlike (fun vs H Q E h => len_LDeedAlike h) (fun cdv A outer s H vs Q E hr h => ⟨_, PSs.nox ((pss_cons (ps_if (pt_cmpR op_ne (pe_ix ix_tup (pv 1) pe_int (fun _ _ => rfl)) pe_str (nomark _)) (pss_one (ps_ret (pe_call (ok_LPartsAlike T) (hr.mono (by decide)) rfl T.g_LPartsAlike T.f_LPartsAlike.kp T.b_LPartsAlike .nil pass0 (pa_cons (pv 0) (pa_cons (pv 1) pa_nil))))) pss_nil)
      (pss_cons (ps_if (PW.pt (pw_or (pt_not (pt_val (pe_callB call_isi (by rfl) T.b_isinstance (by decide +kernel) (pa_cons (pv 0) (pa_cons (pe_bltn (v := .ty "tuple") (by rfl) T.b_tuple (by decide +kernel) rfl) pa_nil))))) (pw_or (pt_cmpR op_ne (pe_callB call_len_seq (by rfl) T.b_len (by decide +kernel) (pa_cons (pv 0) pa_nil)) pe_int (nomark _)) (pw_or1 (pt_cmpR (op_neD hr.units) (pe_ix ix_tup (pv 0) pe_int (fun _ _ => rfl)) pe_str (nomark _)))))) (pss_one (ps_ret pe_bl)) pss_nil)
      (pss_cons (ps_if (PW.pt (pw_or (pt_not (pt_val (pe_callB call_isi (by rfl) T.b_isinstance (by decide +kernel) (pa_cons (pe_ix ix_tup (pv 0) pe_int (fun _ _ => rfl)) (pa_cons (pe_bltn (v := .ty "list") (by rfl) T.b_list (by decide +kernel) rfl) pa_nil))))) (pw_or1 (pt_cmpR op_ne (pe_callB call_len_seq (by rfl) T.b_len (by decide +kernel) (pa_cons (pe_ix ix_tup (pv 0) pe_int (fun _ _ => rfl)) pa_nil)) (pe_callB call_len_seq (by rfl) T.b_len (by decide +kernel) (pa_cons (pe_ix ix_tup (pv 1) pe_int (fun _ _ => rfl)) pa_nil)) (nomark _))))) (pss_one (ps_ret pe_bl)) pss_nil)
      (pss_cons (ps_for PassesOwn.never rfl (pi_range1 (by rfl) T.b_range (pa_cons (pe_callB call_len_seq (by rfl) T.b_len (by decide +kernel) (pa_cons (pe_ix ix_tup (pv 1) pe_int (fun _ _ => rfl)) pa_nil)) pa_nil)) (pg_name (i := 2) sc_LDeedAlike.nd rfl (Or.inl rfl)) (pss_one (ps_if (pt_not (pt_val (pe_call (ok_LPartsAlike T) (hr.mono (by decide)) rfl T.g_LPartsAlike T.f_LPartsAlike.kp T.b_LPartsAlike .nil pass0 (pa_cons (pe_ix ix_list (pe_ix ix_tup (pv 0) pe_int (fun _ _ => rfl)) (pv 2) (fun _ _ => rfl)) (pa_cons (pe_ix ix_list (pe_ix ix_tup (pv 1) pe_int (fun _ _ => rfl)) (pv 2) (fun _ _ => rfl)) pa_nil))))) (pss_one (ps_ret pe_bl)) pss_nil)))
      (pss_one (ps_ret pe_bl))))))), ?_⟩)
  obtain ⟨v, u, d, rfl, hv, hu, ok, k⟩ := h
  cases d with
  | nums w' ns =>
    obtain ⟨t, rfl, ht⟩ := hv
    obtain ⟨q, rfl, hq⟩ := hu
    walk_at "rd"
    refine r_ixT (SqT.of hq) (atI_get (j := 0) rfl rfl) ?_
    walk_at "rd"
    refine r_itn (fun _ => ?_) (fun c => absurd c ok.1)
    walk_at "rd"
    exact ⟨t, q, _, rfl, ht, hq, nums_scs ok.2, k⟩
  | ord ls =>
    obtain ⟨t, l, xs, rfl, ht, hl, pt⟩ := hv
    obtain ⟨q, m, ys, rfl, hq, hm, pq⟩ := hu
    have l25 := ok.1
    have lx : xs.length = ls.length := by rw [pt.length, List.length_map]
    have ly : ys.length = ls.length := by rw [pq.length, List.length_map]
    walk_at "rd"
    refine r_ixT (SqT.of hq) (atI_get (j := 0) rfl rfl) ?_
    walk_at "rd"
    refine r_itn (fun c => absurd rfl c) (fun _ => ?_)
    walk_at "rd"
    refine r_is_tup_tuple ht ?_
    walk_at "rd"
    refine ⟨t, _, rfl, .inr (SqT.of ht), ?_⟩
    walk_at "rd"
    refine r_itn (fun c => absurd rfl c) (fun _ => ?_)
    walk_at "rd"
    refine r_ixT (SqT.of ht) (atI_get (j := 0) rfl rfl) ?_
    walk_at "rd"
    refine r_neSS (.inr ⟨_, rfl, by decide +kernel⟩) (.inr ⟨_, rfl, by decide +kernel⟩) ?_
    walk_at "rd"
    refine r_itn (fun c => absurd rfl c) (fun _ => ?_)
    walk_at "rd"
    refine r_ixT (SqT.of ht) (atI_get (j := 1) rfl rfl) ?_
    walk_at "rd"
    refine r_is_lst_list hl ?_
    walk_at "rd"
    refine r_ixT (SqT.of ht) (atI_get (j := 1) rfl rfl) ?_
    walk_at "rd"
    refine ⟨l, _, rfl, .inl (SqL.of hl), ?_⟩
    walk_at "rd"
    refine r_ixT (SqT.of hq) (atI_get (j := 1) rfl rfl) ?_
    walk_at "rd"
    refine ⟨m, _, rfl, .inl (SqL.of hm), ?_⟩
    walk_at "rd"
    refine r_itn (fun c => absurd (by rw [lx, ly]) c) (fun _ => ?_)
    walk_at "rd"
    refine r_ixT (SqT.of hq) (atI_get (j := 1) rfl rfl) ?_
    walk_at "rd"
    refine ⟨m, _, rfl, .inl (SqL.of hm), ?_⟩
    rw [ly]
    walk_at "rd"
    refine ⟨_, rfl, by omega, by omega, for_range (lo := 0) (n := ls.length) (fun i σ H' => ∃ v, σ = [some (.ref t), some (.ref q), v] ∧ H' = H) ⟨none, rfl, rfl⟩ ?_ ?_⟩
    · rintro i σ H' hi ⟨v, rfl, rfl⟩
      rw [Int.zero_add]
      have em : ls[i]? = some ls[i] := List.getElem?_eq_getElem hi
      obtain ⟨x, ex⟩ : ∃ x, xs[i]? = some x := ⟨_, List.getElem?_eq_getElem (by omega)⟩
      obtain ⟨y, ey⟩ : ∃ y, ys[i]? = some y := ⟨_, List.getElem?_eq_getElem (by omega)⟩
      obtain ⟨r1, e1, a, rfl, ha⟩ := pr_ex pt ex
      obtain ⟨r2, e2, b, rfl, hb⟩ := pr_ex pq ey
      rw [List.getElem?_map, em] at e1 e2
      cases e1
      cases e2
      walk_at "rd"
      refine r_ixT (SqT.of ht) (atI_get (j := 1) rfl rfl) ?_
      walk_at "rd"
      refine r_ixL (SqL.of hl) (atI_get (j := i) rfl ex) ?_
      walk_at "rd"
      refine r_ixT (SqT.of hq) (atI_get (j := 1) rfl rfl) ?_
      walk_at "rd"
      refine r_ixL (SqL.of hm) (atI_get (j := i) rfl ey) ?_
      walk_at "rd"
      refine ⟨a, b, _, rfl, ha, hb, (ok.2 _ (List.getElem_mem hi)).scs, ?_⟩
      walk_at "rd"
      exact ⟨_, rfl, rfl⟩
    · rintro σ H' ⟨v, rfl, rfl⟩
      walk_at "rd"
      exact k

/-! ### a text repeated -/
section
open PySem PySem.Spec PyProof.Rows L2
def ones : Str := ⟨(List.replicate 31 ("1" : Str).cps).foldl (· ++ ·) #[]⟩
theorem op_mulS {X : Cx} : OpR X (binaryOp .Mult) (fun x y H Q => x = .str "1" ∧ y = .int 31 ∧ Q (.str ones) H) := by
  intro pins s σ H x y v u Q I rx ry h
  obtain ⟨rfl, rfl, q⟩ := h
  obtain ⟨t, rfl⟩ := rx
  obtain ⟨t', rfl⟩ := ry
  refine P.mul_str (by decide) (fun _ _ => by decide) (fun _ _ => by decide +kernel) ?_
  rw [if_neg (by decide), if_neg (by decide +kernel)]
  exact ⟨by decide +kernel, .str ones, H, I.tok _, ⟨_, rfl⟩, q⟩
end

/-! ### texts changed -/
theorem sign_at {z : Str} (n : Nat) (h : z.cps.toList.length = n) (hn : 0 < n) (i : Int) : ∃ c : Nat, atI z.cps.toList (i % (n : Int)) = some c := by
  have h0 : 0 ≤ i % (n : Int) := Int.emod_nonneg _ (by omega)
  have h1 : i % (n : Int) < (n : Int) := Int.emod_lt_of_pos _ (by omega)
  have hj : (i % (n : Int)).toNat < z.cps.toList.length := by omega
  refine ⟨z.cps.toList[(i % (n : Int)).toNat], ?_⟩
  unfold atI ixN
  rw [if_pos h0, if_pos (by omega)]
  exact List.getElem?_eq_getElem hj
theorem r_sign {z : Str} (n : Nat) (h : z.cps.toList.length = n) (hn : 0 < n) {i : Int} {H : Hp} {Q : VK} (hz : z.length ≤ sizeLine := by exact sz5 (by decide +kernel)) (k : ∀ c : Nat, Q (.str ⟨#[c]⟩) H) : rIxS (.str z) (.int (i % (n : Int))) H Q := by
  obtain ⟨c, e⟩ := sign_at n h hn i
  exact ⟨_, _, c, rfl, rfl, hz, e, k c⟩
def spLChangedBy (K : PySem.W.Frag) : Sp := fun vs H Q _ => ∃ (z : Str) (c : Int), vs = [.str z, .int c] ∧ z.length ≤ 40000 ∧ ∀ y : Str, y.length ≤ 2 * z.length + 2 → Q (.str y) H
theorem len_LChangedBy {K : PySem.W.Frag} {vs : List V} {H : Hp} {Q : VK} {E : XK} (h : spLChangedBy K vs H Q E) : vs.length = 2 := by
  obtain ⟨_, _, rfl, _⟩ := h; rfl
theorem ok_LChangedBy {P : Program} {w : World} {K : PySem.W.Frag} {mg : Str → Option Value} {base : Heap} (T : Tx w K mg) : FnOk P w K mg base CX0 1 (He.fAd K dLChangedBy.at_) (fdO K dLChangedBy.at_) P_LChangedBy (spLChangedBy K) := by
  refine T.f_LChangedBy.ok sc_LChangedBy (fun vs H Q E h => len_LChangedBy h) (fun cdv A outer s H vs Q E hr h => ⟨_, PSs.nox ((pss_cons (ps_set (i := 2) sc_LChangedBy.nd rfl (Or.inl rfl) pe_str)
      (pss_cons (ps_set (i := 2) sc_LChangedBy.nd rfl (Or.inl rfl) (pe_op op_add_str (pv 2) pe_str))
      (pss_cons (ps_set (i := 3) sc_LChangedBy.nd rfl (Or.inl rfl) (pe_ix ix_str (pv 2) (pe_op op_mod (pe_op op_mod (pe_op op_mul (pv 1) pe_int) pe_int) pe_int) (fun _ _ => rfl)))
      (pss_cons (ps_if (pt_cmpR op_eq (pe_op op_mod (pe_op op_mod (pe_op op_mul (pv 1) pe_int) pe_int) pe_int) pe_int (nomark _)) (pss_one (ps_set (i := 3) sc_LChangedBy.nd rfl (Or.inl rfl) (pe_ix ix_str pe_str (pe_op op_mod (pv 1) pe_int) (fun _ _ => rfl)))) pss_nil)
      (pss_cons (ps_set (i := 4) sc_LChangedBy.nd rfl (Or.inl rfl) (pe_op op_mod (pe_op op_mod (pe_op op_mul (pv 1) pe_int) pe_int) (pe_op op_add (pe_callB call_len_str (by rfl) T.b_len (by decide +kernel) (pa_cons (pv 0) pa_nil)) pe_int)))
      (pss_cons (ps_set (i := 5) sc_LChangedBy.nd rfl (Or.inl rfl) (pe_op op_mod (pv 1) pe_int))
      (pss_cons (ps_if (pt_cmpR op_eq (pv 5) pe_int (nomark _)) (pss_one (ps_ret (pe_op op_add_str (pe_op op_add_str (pe_slice sl_str (pv 0) po_none (po_some (pv 4))) (pv 3)) (pe_slice sl_str (pv 0) (po_some (pv 4)) po_none)))) pss_nil)
      (pss_cons (ps_if (pt_cmpR op_eq (pv 5) pe_int (nomark _)) (pss_one (ps_ret (pe_op op_add_str (pe_op op_add_str (pe_slice sl_str (pv 0) po_none (po_some (pv 4))) (pv 3)) (pe_slice sl_str (pv 0) (po_some (pe_op op_add (pv 4) pe_int)) po_none)))) pss_nil)
      (pss_cons (ps_if (pt_cmpR op_eq (pv 5) pe_int (nomark _)) (pss_one (ps_ret (pe_op op_add_str (pe_op op_add_str (pe_slice sl_str (pv 0) po_none (po_some (pv 4))) pe_str) (pe_slice sl_str (pv 0) (po_some (pv 4)) po_none)))) pss_nil)
      (pss_one (ps_ret (pe_op op_add_str (pe_slice sl_str (pv 0) po_none (po_some (pv 4))) (pe_slice sl_str (pv 0) (po_some (pe_op op_add (pv 4) pe_int)) po_none)))))))))))))), ?_⟩)
  obtain ⟨z, c, rfl, hz, k⟩ := h
  walk_at "rd"
  refine ⟨_, _, rfl, rfl, by exact sz5 (by decide +kernel), ?_⟩
  walk_at "rd"
  walk_at "ml"
  walk_at "rd"
  walk_at "md"
  walk_at "rd"
  walk_at "md"
  refine r_sign 94 (by decide +kernel) (by decide) (hz := by exact sz5 (by decide +kernel)) (k := fun c1 => ?_)
  walk_at "rs"
  with_reducible refine r_join (fun σ' H' => H = H' ∧ ∃ (v : V) (d : Nat), σ' = [some (.str z), some (.int c), some v, some (.str ⟨#[d]⟩), none, none]) ?_ fun N hN => ?_
  rotate_left
  · walk_at "rd"
    walk_at "ml"
    walk_at "rd"
    walk_at "md"
    walk_at "rd"
    walk_at "md"
    walk_at "rd"
    refine r_itd (fun _ => ?_) (fun _ => ?_)
    · walk_at "rd"
      walk_at "md"
      refine r_sign 7 (by decide +kernel) (by decide) (k := fun c2 => ?_)
      walk_at "rd"
      exact hN _ _ ⟨rfl, _, c2, rfl⟩
    · walk_at "rd"
      exact hN _ _ ⟨rfl, _, c1, rfl⟩
  rintro σ' _ ⟨rfl, v, d, rfl⟩
  have l1 : (⟨#[d]⟩ : Str).length = 1 := rfl
  have l2 : (" 7" : Str).length = 2 := by decide +kernel
  walk_at "rd"
  walk_at "ml"
  walk_at "rd"
  walk_at "md"
  walk_at "rd"
  refine ⟨_, rfl, sz5 (by omega), ?_⟩
  walk_at "rd"
  refine r_I (by show (0 : Int) < (z.length : Int) + 1; omega) ?_
  generalize c * 48271 % 10037 % ((z.length : Int) + 1) = at_
  walk_at "rd"
  walk_at "md"
  have a1 := cutS_length z none (some at_)
  have a2 := cutS_length z (some at_) none
  have a3 := cutS_length z (some (at_ + 1)) none
  walk_at "rd"
  refine r_itd (fun _ => ?_) (fun _ => ?_)
  · walk_at "rd"
    refine ⟨_, rfl, sz5 (by omega), ?_⟩
    walk_at "rd"
    refine ⟨_, _, rfl, rfl, sz5 (by omega), ?_⟩
    walk_at "rd"
    refine ⟨_, rfl, sz5 (by omega), ?_⟩
    walk_at "rd"
    refine ⟨_, _, rfl, rfl, sz5 (by rw [cat_len]; omega), ?_⟩
    walk_at "rd"
    exact k _ (by rw [cat_len, cat_len]; omega)
  walk_at "rd"
  refine r_itd (fun _ => ?_) (fun _ => ?_)
  · walk_at "rd"
    refine ⟨_, rfl, sz5 (by omega), ?_⟩
    walk_at "rd"
    refine ⟨_, _, rfl, rfl, sz5 (by omega), ?_⟩
    walk_at "rd"
    refine ⟨_, rfl, sz5 (by omega), ?_⟩
    walk_at "rd"
    refine ⟨_, _, rfl, rfl, sz5 (by rw [cat_len]; omega), ?_⟩
    walk_at "rd"
    exact k _ (by rw [cat_len, cat_len]; omega)
  walk_at "rd"
  refine r_itd (fun _ => ?_) (fun _ => ?_)
  · walk_at "rd"
    refine ⟨_, rfl, sz5 (by omega), ?_⟩
    walk_at "rd"
    refine ⟨_, _, rfl, rfl, sz5 (by omega), ?_⟩
    walk_at "rd"
    refine ⟨_, rfl, sz5 (by omega), ?_⟩
    walk_at "rd"
    refine ⟨_, _, rfl, rfl, sz5 (by rw [cat_len]; omega), ?_⟩
    walk_at "rd"
    exact k _ (by rw [cat_len, cat_len]; omega)
  walk_at "rd"
  refine ⟨_, rfl, sz5 (by omega), ?_⟩
  walk_at "rd"
  refine ⟨_, rfl, sz5 (by omega), ?_⟩
  walk_at "rd"
  refine ⟨_, _, rfl, rfl, sz5 (by omega), ?_⟩
  walk_at "rd"
  exact k _ (by rw [cat_len]; omega)
def spLOddText (K : PySem.W.Frag) : Sp := fun vs H Q _ => ∃ c : Int, vs = [.int c] ∧ ∀ (y : Str) H', y.length ≤ 100 → Same H H' → Q (.str y) H'
theorem len_LOddText {K : PySem.W.Frag} {vs : List V} {H : Hp} {Q : VK} {E : XK} (h : spLOddText K vs H Q E) : vs.length = 1 := by
  obtain ⟨_, rfl, _⟩ := h; rfl
theorem ix_mod {xs : List V} (n : Nat) (hl : xs.length = n) (hn : 0 < n) (i : Int) : ∃ v, v ∈ xs ∧ atI xs (i % (n : Int)) = some v := by
  have h0 : 0 ≤ i % (n : Int) := Int.emod_nonneg _ (by omega)
  have h1 : i % (n : Int) < (n : Int) := Int.emod_lt_of_pos _ (by omega)
  have hj : (i % (n : Int)).toNat < xs.length := by omega
  refine ⟨xs[(i % (n : Int)).toNat], List.getElem_mem hj, ?_⟩
  unfold atI ixN
  rw [if_pos h0, if_pos (by omega)]
  exact List.getElem?_eq_getElem hj
/-- some texts -/
def Txts (xs : List V) (n : Nat) : Prop := xs.length = n ∧ ∀ v, v ∈ xs → ∃ y : Str, v = .str y ∧ y.length ≤ 100
theorem Txts.app {xs ys : List V} {m n : Nat} (h : Txts xs m) (g : Txts ys n) : Txts (xs ++ ys) (m + n) := ⟨by rw [List.length_append, h.1, g.1], fun v hv => (List.mem_append.mp hv).elim (h.2 v) (g.2 v)⟩
def shortV : V → Bool
  | .str y => decide (y.length ≤ 100)
  | _ => false
theorem txts_of {xs : List V} {n : Nat} (h : (xs.all shortV && decide (xs.length = n)) = true) : Txts xs n := by
  obtain ⟨a, b⟩ := Bool.and_eq_true_iff.mp h
  refine ⟨of_decide_eq_true b, fun v hv => ?_⟩
  have q := List.all_eq_true.mp a v hv
  cases v with
  | str y => exact ⟨y, rfl, of_decide_eq_true q⟩
  | _ => cases q
theorem cat_gen {H : Hp} {Q : VK} {p q : Addr} {xs ys : List V} {m n : Nat} (hp : H p = some (.lst xs)) (hq : H q = some (.lst ys)) (tx : Txts xs m) (ty : Txts ys n) (hz : m + n ≤ 100) (k : ∀ r zs H', Same H H' → H' r = some (.lst zs) → Txts zs (m + n) → Q (.ref r) H') : rCat (.ref p) (.ref q) H Q :=
  ⟨p, q, xs, ys, rfl, rfl, hp, hq, sz5 (by rw [tx.1, ty.1]; omega), fun _ hr => k _ _ _ (same_upd hr) upd_same (tx.app ty)⟩
theorem ok_LOddText {P : Program} {w : World} {K : PySem.W.Frag} {mg : Str → Option Value} {base : Heap} (T : Tx w K mg) : FnOk P w K mg base CX0 1 (He.fAd K dLOddText.at_) (fdO K dLOddText.at_) P_LOddText (spLOddText K) := by
  refine T.f_LOddText.ok sc_LOddText (fun vs H Q E h => len_LOddText h) (fun cdv A outer s H vs Q E hr h => ⟨_, PSs.nox ((pss_cons (ps_set (i := 1) sc_LOddText.nd rfl (Or.inl rfl) (pe_lst (pa_cons pe_str (pa_cons pe_str (pa_cons pe_str (pa_cons pe_str (pa_cons pe_str (pa_cons pe_str (pa_cons pe_str (pa_cons pe_str pa_nil))))))))))
      (pss_cons (ps_set (i := 1) sc_LOddText.nd rfl (Or.inl rfl) (pe_op op_cat (pv 1) (pe_lst (pa_cons pe_str (pa_cons pe_str (pa_cons pe_str (pa_cons pe_str (pa_cons pe_str pa_nil))))))))
      (pss_cons (ps_set (i := 1) sc_LOddText.nd rfl (Or.inl rfl) (pe_op op_cat (pv 1) (pe_lst (pa_cons pe_str (pa_cons pe_str (pa_cons pe_str (pa_cons pe_str (pa_cons pe_str (pa_cons pe_str (pa_cons pe_str (pa_cons pe_str (pa_cons pe_str pa_nil))))))))))))
      (pss_cons (ps_set (i := 1) sc_LOddText.nd rfl (Or.inl rfl) (pe_op op_cat (pv 1) (pe_lst (pa_cons pe_str (pa_cons pe_str (pa_cons pe_str (pa_cons pe_str (pa_cons pe_str (pa_cons pe_str (pa_cons pe_str pa_nil))))))))))
      (pss_cons (ps_set (i := 1) sc_LOddText.nd rfl (Or.inl rfl) (pe_op op_cat (pv 1) (pe_lst (pa_cons (pe_op op_add_str pe_str (pe_op op_mulS pe_str pe_int)) (pa_cons pe_str pa_nil)))))
      (pss_one (ps_ret (pe_ix ix_list (pv 1) (pe_op op_mod (pv 0) pe_int) (fun _ _ => rfl)))))))))), ?_⟩)
  obtain ⟨c, rfl, k⟩ := h
  walk_at "rd"
  refine r_mk (by simp) fun l1 hl1 => ?_
  walk_at "rd"
  refine r_mk (by simp) fun l2 hl2 => ?_
  have s1 := same_upd (o := .lst [.str "", .str " ", .str "order", .str "order ", .str "orders a 1 1 1", .str "order a 1 1", .str "order a 1 1 1 1", .str "order a 1 1 1,b 1 1 1"]) hl1
  have s2 := same_upd (o := .lst [.str "order a 1 1 1,  b 1 1 1", .str "order a 1 1 1, ", .str "order , a 1 1 1", .str "order  a 1 1 1", .str "Order a 1 1 1"]) hl2
  walk_at "rd"
  refine cat_gen (m := 8) (n := 5) (s2 _ _ upd_same) upd_same (txts_of (by decide +kernel)) (txts_of (by decide +kernel)) (by decide) fun p3 z3 H3 s3 e3 t3 => ?_
  have s03 := (s1.trans s2).trans s3
  walk_at "rd"
  refine r_mk (by simp) fun l4 hl4 => ?_
  have s4 := same_upd (o := .lst [.str "pay 1", .str "pay", .str "pay 1 2 3", .str "pay 01 2", .str "pay 1 00", .str "pay -1 2", .str "pay +1 2", .str "pay 1 2 ", .str " pay 1 2"]) hl4
  walk_at "rd"
  refine cat_gen (m := 13) (n := 9) (s4 _ _ e3) upd_same t3 (txts_of (by decide +kernel)) (by decide) fun p5 z5 H5 s5 e5 t5 => ?_
  have s05 := (s03.trans s4).trans s5
  walk_at "rd"
  refine r_mk (by simp) fun l6 hl6 => ?_
  have s6 := same_upd (o := .lst [.str "pay  1 2", .str "pays 1 2", .str "move 1 2", .str "deliver 1 2 3 4", .str "deliver 1 2 x", .str "refund 1 1_0", .str "none"]) hl6
  walk_at "rd"
  refine cat_gen (m := 22) (n := 7) (s6 _ _ e5) upd_same t5 (txts_of (by decide +kernel)) (by decide) fun p7 z7 H7 s7 e7 t7 => ?_
  have s07 := (s05.trans s6).trans s7
  walk_at "rd"
  refine ⟨rfl, rfl, ?_⟩
  walk_at "rd"
  refine ⟨_, _, rfl, rfl, by exact sz5 (by decide +kernel), ?_⟩
  walk_at "rd"
  refine r_mk (by simp) fun l8 hl8 => ?_
  have s8 := same_upd (o := .lst [.str ("pay 0 " ++ ones), .str "order abcdefghijklm 1 1 1"]) hl8
  walk_at "rd"
  refine cat_gen (m := 29) (n := 2) (s8 _ _ e7) upd_same t7 (txts_of (by decide +kernel)) (by decide) fun p9 z9 H9 s9 e9 t9 => ?_
  have s09 := (s07.trans s8).trans s9
  walk_at "rd"
  walk_at "md"
  obtain ⟨v, mv, ev⟩ := ix_mod 31 t9.1 (by decide) c
  obtain ⟨y, rfl, ly⟩ := t9.2 v mv
  refine r_ixL (SqL.of e9) ev ?_
  exact k y _ ly s09

/-! ### an error handed to a def, in its handler -/
section
open PySem.Spec PyProof.Rows
/-- what a def promises of an error of the class D that its caller holds -/
structure FnE (P : Program) (w : World) (K : PySem.W.Frag) (mg : Str → Option Value) (base : Heap) (k : Nat) (f : Addr) (fd : FuncData) (ps : List Str) (D : Addr) (sp : Addr → Sp) : Prop where
  len : ∀ a vs H Q E, sp a vs H Q E → vs.length = ps.length
  run : ∀ (A : Around) (outer : List Env) (s : Shared) (H : Hp) (args : Args) (us : List Value) (vs : List V) (Q : VK) (E : XK) (p : Addr × Obj), L2H.RoomH k A → Zc (.ref D) none p.2 → (∃ vs, p.2.data = .fields vs) → L2H.PinOk outer H s p → Env0 P w K mg base A outer s H → BindsTo s fd args (ps.zip us) → Vals vs us → sp p.1 vs H Q E →
    codeAny (model P w) A (.call (.ref f) args) (CR CX0 outer P w H s Q E) s
theorem par_kinds {N ps : List Str} {scope : Scope} {us : List Value} {n : Nat} (S : FnScope N ps scope) : ∀ y ∈ ps.zip us, scope.names.lookup y.1 = some .local ∨
    (scope.names.lookup y.1 = some .cell ∧ ((cellsFrom n scope.names []).lookup y.1).isSome = true) := by
  intro y hy
  obtain ⟨name, val⟩ := y
  exact (S.par name (List.of_mem_zip hy).1).elim .inl fun c => .inr ⟨c, PySem.W.cellsFrom_some _ _ _ (.inl c)⟩
theorem fn_ofE {P : Program} {w : World} {K : PySem.W.Frag} {mg : Str → Option Value} {base : Heap} {k : Nat} {f D : Addr} {name qual : Str} {params : Arguments} {body : List Stmt} {scope : Scope} {dV kV doc pm cdv ct oc : Value} {an od : Option Addr}
    {osl : Array (Option Value)} {N ps : List Str} {sp : Addr → Sp} (lk : K.lookup f = some ⟨oc, od, .func (PySem.W.fnOf name qual params body scope dV kV doc pm an cdv ct), osl⟩) (hcd : PySem.W.codeIn K cdv qual = true) (S : FnScope N ps scope)
    (len : ∀ a vs H Q E, sp a vs H Q E → vs.length = ps.length)
    (hbody : ∀ (A : Around) (outer : List Env) (s : Shared) (H : Hp) (vs : List V) (Q : VK) (E : XK) (p : Addr × Obj), Zc (.ref D) none p.2 → (∃ vs, p.2.data = .fields vs) → L2H.RoomH k (A.deeper (envOfC qual scope s.heap.objs.size f cdv)) → sp p.1 vs H Q E →
      ∃ t, PSs (L2H.cxH CX0 P w K mg base N qual scope f cdv A outer s H E p) body t ∧ t { nx := fun _ H' => Q .non H', rt := Q } (L2.start N vs) H) :
    FnE P w K mg base (k + 1) f (PySem.W.fnOf name qual params body scope dV kV doc pm an cdv ct) ps D sp := by
  constructor
  · exact len
  intro A outer s H args us vs Q E p hr hz hf pinned e0 binds same says
  have nl : vs.length = ps.length := len _ _ _ _ _ says
  have base_in : K.In s.heap ∧ s.heap.NoLimit := ⟨e0.mod.kin.keeps fun _ _ e => (e0.bs _ _ e).1, e0.mod.nolimit.keeps fun _ _ e => (e0.bs _ _ e).1⟩
  refine codeAny_call_function hr.depth (base_in.1 _ _ lk) rfl S.co S.gen rfl (PySem.W.codeRec_of base_in.1 hcd) (binds _ _ _ _ ?_)
  refine wpAny_newFunctionEnv_cells S.kind (par_kinds S) fun env eEnv s1 called => ?_
  subst eEnv
  refine ⟨base_in.2.keeps called.toInCall.keep, codeAny_func ?_⟩
  obtain ⟨t, body_t, reads⟩ := hbody A outer s H vs Q E p hz hf (hr.deeper _) says
  refine wpAny_mono (body_t.run [] s1 (L2.start N vs) H _ (L2H.inv_startH S pinned e0 nl same called) reads) (fun flow s2 ends => ?_) fun _ _ q => q
  match flow, ends with
  | .ret u, ⟨v, _, H2, J, rv, q⟩ => exact ⟨v, H2, J.os, J.bare, J.base, J.hok, rv, q⟩
  | .next, ⟨_, H2, J, q⟩ => exact ⟨V.non, H2, J.os, J.bare, J.base, J.hok, rfl, q⟩
  | .brk, ⟨_, _, _, q⟩ => exact False.elim q
  | .cont, ⟨_, _, _, q⟩ => exact False.elim q
theorem funD_okE {P : Program} {w : World} {K : PySem.W.Frag} {mg : Str → Option Value} {base : Heap} {x qual : Str} {params : Arguments} {body : List Stmt} {scope : Scope} {dvs : List V} {kws : List (Str × V)} {f D : Addr} {fd : FuncData} {N ps : List Str} {k : Nat} {sp : Addr → Sp}
    (F : FunD K x qual params body scope dvs kws f fd) (S : FnScope N ps scope) (len : ∀ a vs H Q E, sp a vs H Q E → vs.length = ps.length)
    (hbody : ∀ (cdv : Value) (A : Around) (outer : List Env) (s : Shared) (H : Hp) (vs : List V) (Q : VK) (E : XK) (p : Addr × Obj), Zc (.ref D) none p.2 → (∃ vs, p.2.data = .fields vs) → L2H.RoomH k (A.deeper (envOfC qual scope s.heap.objs.size f cdv)) → sp p.1 vs H Q E →
      ∃ t, PSs (L2H.cxH CX0 P w K mg base N qual scope f cdv A outer s H E p) body t ∧ t { nx := fun _ H' => Q .non H', rt := Q } (L2.start N vs) H) : FnE P w K mg base (k + 1) f fd ps D sp := by
  obtain ⟨_, _, _, _, _, _, _, code, _, _, e, at_, coded, _⟩ := F.ex
  subst e
  exact fn_ofE at_ coded S len (hbody code)
/-- isinstance of it -/
def rIsF (K : PySem.W.Frag) (D a : Addr) : List V → Hp → VK → Prop := fun xs H Q => ∃ (c : V) (cv : Value) (b : Bool), ExcC K D ∧ xs = [.ref a, c] ∧ ClsV c cv ∧ PySem.W.kitOne K (.ref D) cv = some b ∧ Q (.bl b) H
theorem call_isF {X : Cx} {K : PySem.W.Frag} {D : Addr} {p : Addr × Obj} (eK : X.K = K) (hp : p ∈ X.pn) (hz : Zc (.ref D) none p.2) (hf : ∃ vs, p.2.data = .fields vs) : CallR X (.builtin "isinstance") (rIsF K D p.1) := by
  subst eK
  rintro pins s σ H xs us Q I given ⟨c, cv, b, C, rfl, hc, e, q⟩
  match us, given with
  | _ :: _ :: [], .cons r1 (.cons r2 .nil) =>
    obtain rfl := r1
    obtain rfl := hc.eq r2
    have there := (I.pin p (List.mem_append.mpr (.inl hp))).1
    obtain ⟨fs, efs⟩ := hf
    have inst : PySem.W.InstAt s.heap p.1 p.2 D none := by
      obtain ⟨a, k1, k2, k3, k4⟩ := p
      obtain ⟨z1, z2⟩ := hz
      dsimp only at z1 z2 efs
      subst z1 z2 efs
      exact .mk there rfl rfl trivial
    exact PySem.W.kia_one (PySem.W.handS_kitx_exc C.hg C.hk C.hs C.hd C.ha C.hn C.ht C.hm) I.kIn inst e (fun z => nomatch z) fun n => ⟨.bl b, H, I.kept (t' := n) (fun _ _ y => y), rfl, q⟩
/-- how often a flat value stands in a list -/
theorem vals_countP {x : V} : ∀ {xs : List V} {us : List Value}, Vals xs us → xs.all flatV = true → us.countP (eqU x) = xs.countP (fun y => eqV y x)
  | _, _, .nil, _ => rfl
  | y :: ys, u :: vs, .cons r1 r2, f => by
    have f2 : flatV y = true ∧ ys.all flatV = true := by simpa using f
    rw [List.countP_cons, List.countP_cons, eqU_of r1 f2.1, vals_countP r2 f2.2]
def rCntV (K : PySem.W.Frag) : V → List V → Hp → VK → Prop := fun l xs H Q => ∃ (p : Addr) (ys : List V) (x : V), l = .ref p ∧ xs = [x] ∧ SqL K H p ys ∧ flatV x = true ∧ ys.all flatV = true ∧ Q (.int ((ys.countP fun y => eqV y x : Nat) : Int)) H
theorem mt_lcountV {X : Cx} : MtR X "list.count" (rCntV X.K) := by
  rintro pins s σ H l xs v us Q I rl rargs ⟨p, ys, x, rfl, rfl, hs, fx, fs, q⟩
  obtain rfl := rl
  obtain ⟨u, e1, ru⟩ := rargs.one
  subst e1
  obtain ⟨items, vals, ⟨⟨c1, c2, c3, c4⟩, n, lies, e2, e3, e4⟩, _⟩ := I.list hs
  dsimp only at e2 e4
  subst e2 e4
  have cnt : items.toArray.toList.countP (eqU x) = ys.countP fun y => eqV y x := vals_countP vals fs
  have rule := SeqAt.list_countAt p items.toArray n c2 c4 u (eqU x)
  refine call_meets PySem.F.slot_list_count ⟨_, lies, rfl⟩ PySem.F.entry_list_count (PySem.F.args_list_count_2 _ _) rule ⟨lies, fun w hw => mem_eqAt ru fx vals fs w (by simpa using hw), ?_⟩
  exact ⟨.int ((ys.countP fun y => eqV y x : Nat) : Int), H, I.tok _, ⟨s.toks, by rw [← cnt]⟩, q⟩
/-- the call of a def by the error in hand -/
def tCallX (K : PySem.W.Frag) (names : List Str) (cls : Value) (d : Option Addr) (sp : Addr → Sp) (a : Addr) (t : TA) : TE := fun σ H Q => t σ H fun vs H1 => ∃ x, x ∈ names ∧ cls = .ref (He.ga K x) ∧ d = none ∧ sp a vs H1 Q E0
theorem r_callX {K : PySem.W.Frag} {names : List Str} {cls : Value} {d : Option Addr} {sp : Addr → Sp} {a : Addr} {t : TA} {σ : L2.St} {H : Hp} {Q : VK} (h : t σ H fun vs H1 => ∃ x, x ∈ names ∧ cls = .ref (He.ga K x) ∧ d = none ∧ sp a vs H1 Q E0) : tCallX K names cls d sp a t σ H Q := h
theorem pe_callX {X : Cx} {K : PySem.W.Frag} {names : List Str} {k : Nat} {f : Addr} {fd : FuncData} {ps : List Str} {sp : Addr → Sp} {x : Str} {q pos : Pos} {e : Expr} {es : List Expr} {t : TA} {a : Addr} {oe : Obj} {cls : Value} {d : Option Addr} (eK : X.K = K) (hp : (a, oe) ∈ X.pn) (hr : L2H.RoomH k X.A) (hz : Zc cls d oe) (hf : ∃ vs, oe.data = .fields vs)
    (F : ∀ n, n ∈ names → FnE X.prog X.w K X.mg X.base k f fd ps (He.ga K n) sp) (hg : Gl X x) (hm : X.mg x = some (.ref f)) (hk : PySem.W.keepIn K (.ref f) = true) (hb : Binds K fd ps [])
    (ha : PA X (e :: es) t) (hdb : (x == ("__debug__" : Str)) = false := by decide) (he : starEach (e :: es) X.env = (false, eval e X.env) :: starEach es X.env := by rfl) (hpl : (backTo pos (starEach es X.env)).any (·.1) = false := by rfl) :
    PE X (.Call (.Name x q) (e :: es) [] pos) (tCallX K names cls d sp a t) := by
  subst eK
  constructor
  intro pins s σ H Q I asks
  refine wpAny_Call_Name_kw (ld_glob I hg hm (PySem.W.callWith_K (h₀ := X.base) I.ok.mod.kin hk (thn (ha.run pos pins s σ H _ I asks) ?_) he hpl) hdb)
  rintro us s1 ⟨vs, H1, I1, rv, n, hn, ec, ed, says⟩
  refine ⟨I1.kIn, ?_⟩
  · subst ec ed
    have G := F n hn
    have same_len : us.length = ps.length := rv.length ▸ G.len _ _ _ _ _ says
    have binds := hb s1 us I1.kIn (by simpa using same_len)
    rw [List.append_nil] at binds
    obtain ⟨pin1, pin2, pin3, pin4, pin5⟩ := I1.pin (a, oe) (List.mem_append_left _ hp)
    have pinned : L2H.PinOk X.stack H1 s1 (a, oe) := ⟨pin1, pin2, fun hm => (List.mem_cons.mp (I1.stkSub a hm)).elim pin3 pin4, pin5⟩
    refine wpAny_call (codeAny_mono (G.run X.A X.stack s1 H1 ⟨us, []⟩ us vs _ E0 (a, oe) hr hz hf pinned I1.env0 binds rv says) fun out s2 ends => ?_)
    match out, ends with
    | .error _, q => exact False.elim q
    | .ok (.ret u), q => exact I1.after q
    | .ok .next, q => exact False.elim q
    | .ok .brk, q => exact False.elim q
    | .ok .cont, q => exact False.elim q
end

/-! ### of one class -/
def spLOfOneClass (_ : PySem.W.Frag) (a : Addr) : Sp := fun vs H Q _ => vs = [.ref a] ∧ ∀ H', Same H H' → Q (.bl true) H'
theorem len_LOfOneClass {K : PySem.W.Frag} {a : Addr} {vs : List V} {H : Hp} {Q : VK} {E : XK} (h : spLOfOneClass K a vs H Q E) : vs.length = 1 := by
  obtain ⟨rfl, _⟩ := h; rfl
def theTen (x : Str) : List V := [.bl (decide (x = "NoDeed")), .bl (decide (x = "NoLines")), .bl (decide (x = "NoItem")), .bl (decide (x = "NoNumber")), .bl (decide (x = "FullBook")), .bl (decide (x = "NoOrder")), .bl (decide (x = "SameOrder")), .bl (decide (x = "NoLine")), .bl (decide (x = "TooMuch")), .bl (decide (x = "NothingDone"))]
theorem ten_one {x : Str} (hx : x ∈ exNames) : (theTen x).countP (fun y => eqV y (.bl true)) = 1 := by
  have h : x = "NoDeed" ∨ x = "NoLines" ∨ x = "NoItem" ∨ x = "NoNumber" ∨ x = "FullBook" ∨ x = "NoOrder" ∨ x = "SameOrder" ∨ x = "NoLine" ∨ x = "TooMuch" ∨ x = "NothingDone" := by
    simpa [exNames] using hx
  rcases h with rfl | rfl | rfl | rfl | rfl | rfl | rfl | rfl | rfl | rfl <;> decide +kernel
theorem ok_LOfOneClass {P : Program} {w : World} {K : PySem.W.Frag} {mg : Str → Option Value} {base : Heap} (T : Tx w K mg) {x : Str} (hx : x ∈ exNames) : FnE P w K mg base 1 (He.fAd K dLOfOneClass.at_) (fdO K dLOfOneClass.at_) P_LOfOneClass (He.ga K x) (spLOfOneClass K) := by
  refine funD_okE T.f_LOfOneClass sc_LOfOneClass (fun a vs H Q E h => len_LOfOneClass h) (fun cdv A outer s H vs Q E p hz hf hr h => ⟨_, PSs.nox ((pss_cons (ps_set (i := 1) sc_LOfOneClass.nd rfl (Or.inl rfl) (pe_lst (pa_cons (pe_callB (call_isF (K := K) rfl List.mem_cons_self hz hf) (by rfl) T.b_isinstance (by decide +kernel) (pa_cons (pv 0) (pa_cons (pe_glob rfl T.g_NoDeed (v := .ref (He.ga K "NoDeed")) rfl) pa_nil))) (pa_cons (pe_callB (call_isF (K := K) rfl List.mem_cons_self hz hf) (by rfl) T.b_isinstance (by decide +kernel) (pa_cons (pv 0) (pa_cons (pe_glob rfl T.g_NoLines (v := .ref (He.ga K "NoLines")) rfl) pa_nil))) (pa_cons (pe_callB (call_isF (K := K) rfl List.mem_cons_self hz hf) (by rfl) T.b_isinstance (by decide +kernel) (pa_cons (pv 0) (pa_cons (pe_glob rfl T.g_NoItem (v := .ref (He.ga K "NoItem")) rfl) pa_nil))) (pa_cons (pe_callB (call_isF (K := K) rfl List.mem_cons_self hz hf) (by rfl) T.b_isinstance (by decide +kernel) (pa_cons (pv 0) (pa_cons (pe_glob rfl T.g_NoNumber (v := .ref (He.ga K "NoNumber")) rfl) pa_nil))) pa_nil))))))
      (pss_cons (ps_set (i := 1) sc_LOfOneClass.nd rfl (Or.inl rfl) (pe_op op_cat (pv 1) (pe_lst (pa_cons (pe_callB (call_isF (K := K) rfl List.mem_cons_self hz hf) (by rfl) T.b_isinstance (by decide +kernel) (pa_cons (pv 0) (pa_cons (pe_glob rfl T.g_FullBook (v := .ref (He.ga K "FullBook")) rfl) pa_nil))) (pa_cons (pe_callB (call_isF (K := K) rfl List.mem_cons_self hz hf) (by rfl) T.b_isinstance (by decide +kernel) (pa_cons (pv 0) (pa_cons (pe_glob rfl T.g_NoOrder (v := .ref (He.ga K "NoOrder")) rfl) pa_nil))) (pa_cons (pe_callB (call_isF (K := K) rfl List.mem_cons_self hz hf) (by rfl) T.b_isinstance (by decide +kernel) (pa_cons (pv 0) (pa_cons (pe_glob rfl T.g_SameOrder (v := .ref (He.ga K "SameOrder")) rfl) pa_nil))) pa_nil))))))
      (pss_cons (ps_set (i := 1) sc_LOfOneClass.nd rfl (Or.inl rfl) (pe_op op_cat (pv 1) (pe_lst (pa_cons (pe_callB (call_isF (K := K) rfl List.mem_cons_self hz hf) (by rfl) T.b_isinstance (by decide +kernel) (pa_cons (pv 0) (pa_cons (pe_glob rfl T.g_NoLine (v := .ref (He.ga K "NoLine")) rfl) pa_nil))) (pa_cons (pe_callB (call_isF (K := K) rfl List.mem_cons_self hz hf) (by rfl) T.b_isinstance (by decide +kernel) (pa_cons (pv 0) (pa_cons (pe_glob rfl T.g_TooMuch (v := .ref (He.ga K "TooMuch")) rfl) pa_nil))) (pa_cons (pe_callB (call_isF (K := K) rfl List.mem_cons_self hz hf) (by rfl) T.b_isinstance (by decide +kernel) (pa_cons (pv 0) (pa_cons (pe_glob rfl T.g_NothingDone (v := .ref (He.ga K "NothingDone")) rfl) pa_nil))) pa_nil))))))
      (pss_one (ps_ret (pe_and (pe_callB (call_isF (K := K) rfl List.mem_cons_self hz hf) (by rfl) T.b_isinstance (by decide +kernel) (pa_cons (pv 0) (pa_cons (pe_bltn (v := .ty "ValueError") (by rfl) T.b_ValueError (by decide +kernel) rfl) pa_nil))) (pe_one (pe_cmpR op_eq (pe_bm PySem.F.plainAttrs_list PySem.F.slot_list_count PySem.F.type_list_count mt_lcountV (pv 1) (pa_cons pe_bl pa_nil)) pe_int (nomark _)))))))))), ?_⟩)
  obtain ⟨rfl, k⟩ := h
  have X := excAll_ok T.xv hx
  walk_at "rd"
  refine ⟨_, _, _, X.1, rfl, .own _, X.2.2 "NoDeed" (by decide +kernel), ?_⟩
  walk_at "rd"
  refine ⟨_, _, _, X.1, rfl, .own _, X.2.2 "NoLines" (by decide +kernel), ?_⟩
  walk_at "rd"
  refine ⟨_, _, _, X.1, rfl, .own _, X.2.2 "NoItem" (by decide +kernel), ?_⟩
  walk_at "rd"
  refine ⟨_, _, _, X.1, rfl, .own _, X.2.2 "NoNumber" (by decide +kernel), ?_⟩
  walk_at "rd"
  refine r_mk (by simp) fun l1 hl1 => ?_
  walk_at "rd"
  refine ⟨_, _, _, X.1, rfl, .own _, X.2.2 "FullBook" (by decide +kernel), ?_⟩
  walk_at "rd"
  refine ⟨_, _, _, X.1, rfl, .own _, X.2.2 "NoOrder" (by decide +kernel), ?_⟩
  walk_at "rd"
  refine ⟨_, _, _, X.1, rfl, .own _, X.2.2 "SameOrder" (by decide +kernel), ?_⟩
  walk_at "rd"
  refine r_mk (by simp) fun l2 hl2 => ?_
  refine ⟨l1, l2, _, _, rfl, rfl, by rw [upd_ne (ne_of_none upd_same hl2)]; exact upd_same, upd_same, by show 4 + 3 ≤ sizeLine; rw [sizeLine_eq]; decide, fun l3 hl3 => ?_⟩
  walk_at "rd"
  refine ⟨_, _, _, X.1, rfl, .own _, X.2.2 "NoLine" (by decide +kernel), ?_⟩
  walk_at "rd"
  refine ⟨_, _, _, X.1, rfl, .own _, X.2.2 "TooMuch" (by decide +kernel), ?_⟩
  walk_at "rd"
  refine ⟨_, _, _, X.1, rfl, .own _, X.2.2 "NothingDone" (by decide +kernel), ?_⟩
  walk_at "rd"
  refine r_mk (by simp) fun l4 hl4 => ?_
  refine ⟨l3, l4, _, _, rfl, rfl, by rw [upd_ne (ne_of_none upd_same hl4)]; exact upd_same, upd_same, by show 7 + 3 ≤ sizeLine; rw [sizeLine_eq]; decide, fun l5 hl5 => ?_⟩
  have s5 := ((((same_upd hl1).trans (same_upd hl2)).trans (same_upd hl3)).trans (same_upd hl4)).trans (same_upd (o := .lst (theTen x)) hl5)
  walk_at "rd"
  refine ⟨_, _, _, X.1, rfl, .ty _, X.2.1, ?_⟩
  walk_at "rd"
  refine r_tyL (SqL.of upd_same) ?_
  walk_at "rd"
  refine ⟨l5, theTen x, _, rfl, rfl, SqL.of upd_same, rfl, rfl, ?_⟩
  walk_at "rd"
  rw [ten_one hx]
  exact k _ s5

/-! ### refused, and the law -/
theorem Td.len2 {d : Td} (h : d.ok) : d.str.length ≤ 6000 := by
  cases d with
  | ord ls =>
    have a := join_len (y := ", ") (ord_parts h.2)
    have e1 : (", " : Str).length = 2 := by decide +kernel
    have e2 : ("order " : Str).length = 6 := by decide +kernel
    have l := h.1.2
    show (("order " : Str) ++ _).length ≤ 6000
    rw [cat_len, e2]
    rw [e1, List.length_map] at a
    have : ls.length * (200 + 2) ≤ 25 * 202 := Nat.mul_le_mul_right _ l
    omega
  | nums w ns =>
    have a := join_len (y := " ") (nums_parts h.1)
    have e1 : (" " : Str).length = 1 := by decide +kernel
    obtain ⟨W, l⟩ := word_ok h
    have wl := W.len
    show (w ++ (" " : Str) ++ _).length ≤ 6000
    rw [cat_len, cat_len, e1]
    rw [e1, List.length_map] at a
    rcases l with l | l <;> rw [l] at a <;> omega
def spLRefusedByAny (K : PySem.W.Frag) : Sp := fun vs H Q _ => ∃ z : Str, vs = [.str z] ∧ z.length ≤ 90000 ∧ rdOf z = none ∧ ∀ H', Same H H' → Q (.bl true) H'
theorem len_LRefusedByAny {K : PySem.W.Frag} {vs : List V} {H : Hp} {Q : VK} {E : XK} (h : spLRefusedByAny K vs H Q E) : vs.length = 1 := by
  obtain ⟨_, rfl, _⟩ := h; rfl
theorem ok_LRefusedByAny {P : Program} {w : World} {K : PySem.W.Frag} {mg : Str → Option Value} {base : Heap} (T : Tx w K mg) : FnOk P w K mg base CX0 4 (He.fAd K dLRefusedByAny.at_) (fdO K dLRefusedByAny.at_) P_LRefusedByAny (spLRefusedByAny K) := by
  refine T.f_LRefusedByAny.ok sc_LRefusedByAny (fun vs H Q E h => len_LRefusedByAny h) (fun cdv A outer s H vs Q E hr h => ⟨_, PSs.nox ((pss_cons (ps_try_as (i := 1) rfl rfl sc_LRefusedByAny.nd rfl rfl ⟨rfl, by decide, .inl T.g_FlowError⟩ takes0 (fun W pn xe tk po => (pss_one (ps_expr (pe_callS (ok_Read T) (hr.mono (by decide)) rfl T.g_Read T.f_Read.kp T.b_Read (fun σ => passAt tk σ) (pa_cons (pv 0) pa_nil))))) (fun a oe cls d pn hz hf => (pss_one (ps_ret (pe_callX (k := 1) (K := K) (names := exNames) rfl List.mem_cons_self ⟨(hr.mono (j := 1) (by decide)).dp, (hr.mono (j := 1) (by decide)).un⟩ hz hf (fun n hn => ok_LOfOneClass T hn) rfl T.g_LOfOneClass T.f_LOfOneClass.kp T.b_LOfOneClass (pa_cons (pv 1) pa_nil))))))
      (pss_one (ps_ret pe_bl)))), ?_⟩)
  obtain ⟨z, rfl, hz, no, k⟩ := h
  walk_at "rd"
  refine ⟨z, rfl, hz, (fun d e => by rw [no] at e; cases e), fun _ H' s => ?_⟩
  refine ⟨true, T.e_NoDeed_FlowError, fun _ a na => ?_, fun z => by cases z⟩
  walk_at "rd"
  refine r_callX ?_
  walk_at "rd"
  exact ⟨"NoDeed", by decide +kernel, rfl, rfl, rfl, fun H2 s2 => k _ (s.trans s2)⟩
theorem TdA.ref {H : Hp} {v : V} {d : Td} (h : TdA H v d) : ∃ t, v = .ref t := by
  cases d with
  | ord ls => obtain ⟨t, _, _, e, _⟩ := h; exact ⟨t, e⟩
  | nums w ns => obtain ⟨t, e, _⟩ := h; exact ⟨t, e⟩
def spLaw (K : PySem.W.Frag) : Sp := fun vs H Q _ => ∃ a, vs = [.ref a] ∧ Script K H a ∧ ∀ H', Q (.bl true) H'
theorem len_Law {K : PySem.W.Frag} {vs : List V} {H : Hp} {Q : VK} {E : XK} (h : spLaw K vs H Q E) : vs.length = 1 := by
  obtain ⟨_, rfl, _⟩ := h; rfl
theorem ok_Law {P : Program} {w : World} {K : PySem.W.Frag} {mg : Str → Option Value} {base : Heap} (T : Tx w K mg) : FnOk P w K mg base CX0 5 (He.fAd K dLaw.at_) (fdO K dLaw.at_) P_Law (spLaw K) := by
  refine T.f_Law.ok sc_Law (fun vs H Q E h => len_Law h) (fun cdv A outer s H vs Q E hr h => ⟨_, PSs.nox ((pss_cons (ps_set (i := 1) sc_Law.nd rfl (Or.inl rfl) (pe_call (ok_LTextOf T) (hr.mono (by decide)) rfl T.g_LTextOf T.f_LTextOf.kp T.b_LTextOf .nil pass0 (pa_cons (pe_call (ok_LAnyDeed T) (hr.mono (by decide)) rfl T.g_LAnyDeed T.f_LAnyDeed.kp T.b_LAnyDeed .nil pass0 (pa_cons (pv 0) pa_nil)) pa_nil)))
      (pss_cons (ps_set (i := 2) sc_Law.nd rfl (Or.inl rfl) (pe_op op_mod (pe_call (ok_LCellAt T) (hr.mono (by decide)) rfl T.g_LCellAt T.f_LCellAt.kp T.b_LCellAt .nil pass0 (pa_cons (pv 0) (pa_cons pe_int pa_nil))) pe_int))
      (pss_cons (ps_if (pt_cmpR op_gt (pv 2) pe_int (nomark _)) (pss_one (ps_set (i := 1) sc_Law.nd rfl (Or.inl rfl) (pe_call (ok_LChangedBy T) (hr.mono (by decide)) rfl T.g_LChangedBy T.f_LChangedBy.kp T.b_LChangedBy .nil pass0 (pa_cons (pv 1) (pa_cons (pe_call (ok_LCellAt T) (hr.mono (by decide)) rfl T.g_LCellAt T.f_LCellAt.kp T.b_LCellAt .nil pass0 (pa_cons (pv 0) (pa_cons pe_int pa_nil))) pa_nil))))) pss_nil)
      (pss_cons (ps_if (pt_cmpR op_eq (pv 2) pe_int (nomark _)) (pss_one (ps_set (i := 1) sc_Law.nd rfl (Or.inl rfl) (pe_call (ok_LChangedBy T) (hr.mono (by decide)) rfl T.g_LChangedBy T.f_LChangedBy.kp T.b_LChangedBy .nil pass0 (pa_cons (pv 1) (pa_cons (pe_call (ok_LCellAt T) (hr.mono (by decide)) rfl T.g_LCellAt T.f_LCellAt.kp T.b_LCellAt .nil pass0 (pa_cons (pv 0) (pa_cons pe_int pa_nil))) pa_nil))))) pss_nil)
      (pss_cons (ps_if (PW.pt (pw_or (pt_cmpR op_eq (pv 2) pe_int (nomark _)) (pw_or1 (pt_cmpR op_eq (pv 2) pe_int (nomark _))))) (pss_one (ps_set (i := 1) sc_Law.nd rfl (Or.inl rfl) (pe_call (ok_LOddText T) (hr.mono (by decide)) rfl T.g_LOddText T.f_LOddText.kp T.b_LOddText .nil pass0 (pa_cons (pe_call (ok_LCellAt T) (hr.mono (by decide)) rfl T.g_LCellAt T.f_LCellAt.kp T.b_LCellAt .nil pass0 (pa_cons (pv 0) (pa_cons pe_int pa_nil))) pa_nil)))) pss_nil)
      (pss_cons (ps_set (i := 3) sc_Law.nd rfl (Or.inl rfl) (pe_call (ok_LDeedIn T) (hr.mono (by decide)) rfl T.g_LDeedIn T.f_LDeedIn.kp T.b_LDeedIn .nil pass0 (pa_cons (pv 1) pa_nil)))
      (pss_cons (ps_set (i := 4) sc_Law.nd rfl (Or.inl rfl) pe_bl)
      (pss_cons (ps_set (i := 5) sc_Law.nd rfl (Or.inl rfl) pe_non)
      (pss_cons (ps_try_only rfl rfl ⟨rfl, by decide, .inl T.g_NoDeed⟩ takes0 (fun W pn xe tk po => (pss_one (ps_set (i := 5) sc_Law.nd rfl (Or.inl rfl) (pe_callS (ok_Read T) (hr.mono (by decide)) rfl T.g_Read T.f_Read.kp T.b_Read (fun σ => passAt tk σ) (pa_cons (pv 1) pa_nil))))) (fun a oe cls d pn hz hf => (pss_one (ps_set (i := 4) sc_Law.nd rfl (Or.inl rfl) pe_bl))))
      (pss_cons (ps_if (pt_cmpR op_isN (pv 3) pe_non (nomark _)) (pss_one (ps_ret (pe_and (pv 4) (pe_one (pe_call (ok_LRefusedByAny T) (hr.mono (by decide)) rfl T.g_LRefusedByAny T.f_LRefusedByAny.kp T.b_LRefusedByAny .nil pass0 (pa_cons (pv 1) pa_nil)))))) pss_nil)
      (pss_one (ps_ret (pe_and (pe_not (pv 4)) (pe_one (pe_call (ok_LDeedAlike T) (hr.mono (by decide)) rfl T.g_LDeedAlike T.f_LDeedAlike.kp T.b_LDeedAlike .nil pass0 (pa_cons (pv 5) (pa_cons (pv 3) pa_nil)))))))))))))))))), ?_⟩)
  obtain ⟨s, rfl, scr, k⟩ := h
  walk_at "rs"
  walk_at "rd1"
  walk_at "rs"
  refine ⟨s, rfl, scr, fun v d H1 s1 hd ok => ?_⟩
  walk_at "rd"
  refine ⟨v, d, rfl, hd, ok, fun H2 s2 => ?_⟩
  have l0 := Td.len2 ok
  revert l0
  generalize d.str = z0
  intro l0
  have scr2 := scr.same (s1.trans s2)
  walk_at "rd1"
  walk_at "rd"
  refine ⟨s, _, rfl, scr2, by decide, fun c9 => ?_⟩
  walk_at "rd"
  walk_at "md"
  generalize c9 % 8 = way
  walk_at "rs"
  with_reducible refine r_join (fun σ' H' => H2 = H' ∧ ∃ z : Str, z.length ≤ 12002 ∧ σ' = [some (.ref s), some (.str z), some (.int way), none, none, none]) ?_ fun N hN => ?_
  rotate_left
  · walk_at "rd"
    refine r_itd (fun _ => ?_) (fun _ => ?_)
    · walk_at "rd"
      refine ⟨s, _, rfl, scr2, by decide, fun c10 => ?_⟩
      walk_at "rd"
      refine ⟨z0, c10, rfl, by omega, fun y hy => ?_⟩
      walk_at "rd"
      exact hN _ _ ⟨rfl, y, by omega, rfl⟩
    · walk_at "rd"
      exact hN _ _ ⟨rfl, z0, by omega, rfl⟩
  rintro σ' _ ⟨rfl, z1, l1, rfl⟩
  walk_at "rs"
  with_reducible refine r_join (fun σ' H' => H2 = H' ∧ ∃ z : Str, z.length ≤ 30000 ∧ σ' = [some (.ref s), some (.str z), some (.int way), none, none, none]) ?_ fun N hN => ?_
  rotate_left
  · walk_at "rd"
    refine r_itd (fun _ => ?_) (fun _ => ?_)
    · walk_at "rd"
      refine ⟨s, _, rfl, scr2, by decide, fun c11 => ?_⟩
      walk_at "rd"
      refine ⟨z1, c11, rfl, by omega, fun y hy => ?_⟩
      walk_at "rd"
      exact hN _ _ ⟨rfl, y, by omega, rfl⟩
    · walk_at "rd"
      exact hN _ _ ⟨rfl, z1, by omega, rfl⟩
  rintro σ' _ ⟨rfl, z2, l2, rfl⟩
  walk_at "rs"
  with_reducible refine r_join (fun σ' H' => Same H2 H' ∧ ∃ z : Str, z.length ≤ 90000 ∧ σ' = [some (.ref s), some (.str z), some (.int way), none, none, none]) ?_ fun N hN => ?_
  rotate_left
  · walk_at "rd"
    refine r_itd (fun _ => ?_) (fun _ => ?_)
    · walk_at "rd"
      refine ⟨s, _, rfl, scr2, by decide, fun c12 => ?_⟩
      walk_at "rd"
      refine ⟨c12, rfl, fun y H' hy s' => ?_⟩
      walk_at "rd"
      exact hN _ _ ⟨s', y, by omega, rfl⟩
    · walk_at "rd"
      refine r_itd (fun _ => ?_) (fun _ => ?_)
      · walk_at "rd"
        refine ⟨s, _, rfl, scr2, by decide, fun c12 => ?_⟩
        walk_at "rd"
        refine ⟨c12, rfl, fun y H' hy s' => ?_⟩
        walk_at "rd"
        exact hN _ _ ⟨s', y, by omega, rfl⟩
      · walk_at "rd"
        exact hN _ _ ⟨Same.refl _, z2, by omega, rfl⟩
  rintro σ' H3 ⟨s3, z, hz, rfl⟩
  walk_at "rd"
  cases rdz : rdOf z with
  | none =>
    refine ⟨z, rfl, hz, (fun d e => by rw [rdz] at e; cases e), fun _ H4 s4 => ?_⟩
    walk_at "rd"
    refine ⟨z, rfl, hz, (fun d e => by rw [rdz] at e; cases e), fun _ H5 s5 => ?_⟩
    refine ⟨true, T.e_NoDeed_NoDeed, fun _ a na => ?_, fun z => by cases z⟩
    walk_at "rd"
    refine ⟨rfl, ?_⟩
    walk_at "rd"
    refine r_ity rfl ?_
    walk_at "rd"
    exact ⟨z, rfl, hz, rdz, fun H6 _ => k _⟩
  | some d2 =>
    refine ⟨z, rfl, hz, fun d' e v2 H4 s4 hd2 => ?_, (fun e => by rw [rdz] at e; cases e)⟩
    rw [rdz] at e
    cases e
    walk_at "rd"
    refine ⟨z, rfl, hz, fun d' e v3 H5 s5 hd3 _ => ?_, (fun e => by rw [rdz] at e; cases e)⟩
    rw [rdz] at e
    cases e
    walk_at "rd"
    refine ⟨rfl, ?_⟩
    walk_at "rd"
    refine r_itz (fun q => by obtain ⟨t, e⟩ := hd2.ref; rw [q] at e; cases e) ?_
    walk_at "rd"
    exact ⟨v3, v2, d2, rfl, hd3, hd2.keep s5, rd_fine rdz hz, k _⟩

theorem Tx.b_Law_args {w : World} {K : PySem.W.Frag} {mg : Str → Option Value} (T : Tx w K mg) (s : Shared) (v : Value) : BindsTo s (fdO K dLaw.at_) ⟨[v], []⟩ [("_law_script", v)] := by
  have b := FunD.bindsA (ps := ["_law_script"]) T.f_Law fun _ _ _ _ _ _ us hl => match us, hl with | [_], _ => rfl
  exact b s [v] rfl
theorem law_start {K : PySem.W.Frag} {H : Hp} {a : Addr} {ns : List Int} (hs : SqL K H a (ns.map V.int)) (hl : ns.length ≤ 63) : spLaw K [.ref a] H (fun v _ => v = .bl true) fun _ _ _ => False := ⟨a, rfl, ⟨ns, hs, hl⟩, fun _ => rfl⟩
end Of
open PySem PySem.W PySem.Calls PyProof.Rows
set_option maxRecDepth 100000 in
set_option maxHeartbeats 0 in
theorem PySem.Challenge.cw_orderflow_k08_texts_read_holds : PySem.Challenge.rw_orderflow_k08_texts_read.Holds := by
  w_on; o_law
  refine HandSHeadRun.head_any (r := OpenLaw.row PySem.Challenge.rw_orderflow_k08_texts_read) (q := view (OpenLaw.row PySem.Challenge.rw_orderflow_k08_texts_read).prog [39]) (H := Of.hk) (ob := Of.ob) (M := 20000) (loose := Of.names) (d := HandSHeadRun.topDef (OpenLaw.row PySem.Challenge.rw_orderflow_k08_texts_read).prog 39) (kwd := []) Of.ob_eq
    (by kernel_rfl) (fun s => by kernel_rfl) Of.run (by kernel_rfl) (by kernel_rfl) (by kernel_rfl) (by rfl) (by first | assumption | decide +kernel) (by decide +kernel) ⟨rfl, rfl, rfl, rfl, rfl, by decide +kernel⟩ ?hw ?hc
  case hw => w_witness2
  case hc =>
    refine L2.walk_ofE (l := PySem.Challenge.rw_orderflow_k08_texts_read) (n := 63) (k := 5) (x := "_law_script") (CX := L2.CX0) rfl (by decide) (by kernel_rfl) ⟨rfl, by decide, by decide⟩ ?F (fun _ _ _ _ z => z)
    intro w mg fa h Y G hm0
    obtain ⟨K, KX, c⟩ := Y
    have T : Of.Tx w K mg := Of.tx_of KX G c
    have hm : mg ("law" : PySem.Str) = some (.ref fa) := by
      have e : (HandSHeadRun.topDef (OpenLaw.row PySem.Challenge.rw_orderflow_k08_texts_read).prog 39).name = ("law" : PySem.Str) := by kernel_rfl
      rw [← e]
      exact hm0
    have ef : fa = He.fAd K Of.dLaw.at_ := by
      have q := hm.symm.trans T.g_Law
      cases q
      rfl
    rw [ef]
    exact ⟨K, Of.fdO K Of.dLaw.at_, Of.spLaw K, KX, fun s v => T.b_Law_args s v, fun H a ns hl _ hS => Of.law_start hS hl, fun base _ _ => Of.ok_Law T⟩
#print axioms PySem.Challenge.cw_orderflow_k08_texts_read_holds
