import PyProof.Rows.All
import Wide.All
import OpenK.AllK
import Wide.FinOn
import KE.KStateDown
import Lean
import HandS.ForMost
import HandS.ForExc
import HandS.More
import HandS.TryMany
import HandS.Walk
import HandS.IsInst
import HandS.ExcIs
import HandS.Defaults
import HandS.Head0
import HandS.Head1
import HandS.Head2
import HandS.HeadEnd
import HandS.HeadHook1
import HandS.HeadHook2
import HandS.HeadHook3
import HandS.HeadHook4
import PySem.Challenge.RW_orderflow_k11_whole_owed_and_kept
set_option Elab.async false
set_option linter.all false
set_option maxRecDepth 100000
set_option maxHeartbeats 0
namespace Of
open PySem PySem.Spec PyProof.Rows L2
/-! ### a written dict of text keys, whole -/
theorem kd_of {K : PySem.W.Frag} {w : World} {a : Addr} {ks : List Str} (h : He.dicW K a = some (He.keysIn w.params ks)) :
    ∃ es n, K.lookup a = some ⟨.type "dict", none, .dict es n, #[]⟩ ∧ PySem.W.KeysLit w.params es.toList ∧ es.toList.map He.keyOf = He.keysIn w.params ks ∧ (a == sysModules) = false := by
  obtain ⟨es, n, D⟩ := He.dicW_ok h
  refine ⟨es, n, D.at_, D.lit, ?_, D.low⟩
  unfold He.dicW at h
  rw [D.at_] at h
  have e2 : (match decide ((("dict" : String)) = "dict") && ((#[] : Array (Option Value)).isEmpty && !(a == sysModules)) with
    | true => some (es.toList.map He.keyOf)
    | false => none) = some (He.keysIn w.params ks) := h
  have e3 : (decide ((("dict" : String)) = "dict") && ((#[] : Array (Option Value)).isEmpty && !(a == sysModules))) = true := by
    rw [D.low]; rfl
  rw [e3] at e2
  exact Option.some.inj e2

/-! ### what an error's class says, for isinstance -/
def excB (K : PySem.W.Frag) (D : Addr) : Bool := decide (PySem.W.findIn K (.ref D) "__getattribute__" = some (some (.builtin "BaseException.__getattribute__"))) && (decide (PySem.W.findIn K (.ref D) "__getattr__" = some none) &&
  (decide (PySem.W.subIn K (.ref D) (.type "BaseException") = some true) && (PySem.W.hasDictIn K D && (decide (PySem.W.findIn K (.ref D) "__class__" = some (some (.builtin "object.__class__"))) &&
  (decide (PySem.W.specialIn K (.builtin "object.__class__") "__get__" = some (some (.builtin "getset_descriptor.__get__"))) && (decide (PySem.W.takesIn K (.builtin "object.__class__") = some true) && decide (PySem.W.mroIn K D (.type "object") = some true)))))))
theorem excB_ok {K : PySem.W.Frag} {D : Addr} (h : excB K D = true) : ExcC K D := by
  obtain ⟨h1, h⟩ := He.ba h
  obtain ⟨h2, h⟩ := He.ba h
  obtain ⟨h3, h⟩ := He.ba h
  obtain ⟨h4, h⟩ := He.ba h
  obtain ⟨h5, h⟩ := He.ba h
  obtain ⟨h6, h⟩ := He.ba h
  obtain ⟨h7, h8⟩ := He.ba h
  exact ⟨of_decide_eq_true h1, of_decide_eq_true h2, of_decide_eq_true h3, h4, of_decide_eq_true h5, of_decide_eq_true h6, of_decide_eq_true h7, of_decide_eq_true h8⟩
def excAll (K : PySem.W.Frag) (xs : List Str) : Bool := xs.all fun x => excB K (He.ga K x) && (decide (PySem.W.kitOne K (.ref (He.ga K x)) (.type "ValueError") = some true) && xs.all fun y => decide (PySem.W.kitOne K (.ref (He.ga K x)) (.ref (He.ga K y)) = some (decide (x = y))))
theorem excAll_ok {K : PySem.W.Frag} {xs : List Str} (h : excAll K xs = true) {x : Str} (hx : x ∈ xs) : ExcC K (He.ga K x) ∧ PySem.W.kitOne K (.ref (He.ga K x)) (.type "ValueError") = some true ∧
    ∀ y, y ∈ xs → PySem.W.kitOne K (.ref (He.ga K x)) (.ref (He.ga K y)) = some (decide (x = y)) := by
  obtain ⟨h1, h⟩ := He.ba (List.all_eq_true.mp h x hx)
  obtain ⟨h2, h3⟩ := He.ba h
  exact ⟨excB_ok h1, of_decide_eq_true h2, fun y hy => of_decide_eq_true (List.all_eq_true.mp h3 y hy)⟩
/-- isinstance(e, C) in a handler -/
def rIsX (K : PySem.W.Frag) (cls : Value) (d : Option Addr) (a : Addr) : List V → Hp → VK → Prop := fun xs H Q => ∃ (D : Addr) (c : V) (cv : Value) (b : Bool), cls = .ref D ∧ d = none ∧ ExcC K D ∧ xs = [.ref a, c] ∧ ClsV c cv ∧ PySem.W.kitOne K (.ref D) cv = some b ∧ Q (.bl b) H
theorem call_isX {X : Cx} {K : PySem.W.Frag} {a : Addr} {cls : Value} {d : Option Addr} {oe : Obj} {pn : List (Addr × Obj)} (eK : X.K = K) (hz : Zc cls d oe) (hf : ∃ vs, oe.data = .fields vs) : CallR (X.suite a ((a, oe) :: pn)) (.builtin "isinstance") (rIsX K cls d a) := by
  subst eK
  intro pins s σ H xs us Q I r h
  obtain ⟨D, c, cv, b, rfl, rfl, C, rfl, hc, e, q⟩ := h
  exact call_isE C hz hf pins s σ H _ us Q I r ⟨c, cv, b, rfl, fun u ru => hc.eq ru, e, q⟩
/-! ### the text by places -/
def top (i : Nat) : Stmt := PySem.Challenge.pw_orderflow_k11_whole_owed_and_kept.main.body.getD i (.Pass ⟨0, 0, 0, 0⟩)
abbrev sWorth : Stmt := top 18
abbrev sIsItem : Stmt := top 19
abbrev sCheckLine : Stmt := top 20
abbrev sLineInit : Stmt := inClass (top 21) 0
abbrev sLineKept : Stmt := inClass (top 21) 1
abbrev sLineToCome : Stmt := inClass (top 21) 2
abbrev sLineKeptWorth : Stmt := inClass (top 21) 3
abbrev sLineCharge : Stmt := inClass (top 21) 4
abbrev sLineDeliver : Stmt := inClass (top 21) 5
abbrev sLineBring : Stmt := inClass (top 21) 6
abbrev sLineReduce : Stmt := inClass (top 21) 7
abbrev sLineNumbers : Stmt := inClass (top 21) 8
abbrev sOrderInit : Stmt := inClass (top 23) 0
abbrev sOrderOwing : Stmt := inClass (top 23) 1
abbrev sOrderLineOf : Stmt := inClass (top 23) 2
abbrev sOrderNeedOver : Stmt := inClass (top 23) 3
abbrev sOrderTurnLine : Stmt := inClass (top 23) 4
abbrev sOrderTake : Stmt := inClass (top 23) 5
abbrev sOrderMark : Stmt := inClass (top 23) 6
abbrev sOwn : Stmt := top 28
abbrev sBookInit : Stmt := inClass (top 29) 0
abbrev sBookOrderOf : Stmt := inClass (top 29) 1
abbrev sBookDo : Stmt := inClass (top 29) 2
abbrev sBookBegin : Stmt := inClass (top 29) 3
abbrev sBookShift : Stmt := inClass (top 29) 4
abbrev sBookOne : Stmt := inClass (top 29) 5
abbrev sBookNeedNumber : Stmt := inClass (top 29) 6
abbrev sBookOrders : Stmt := inClass (top 29) 8
abbrev sBookTold : Stmt := inClass (top 29) 9
abbrev sBookPaid : Stmt := inClass (top 29) 10
abbrev sBookOwed : Stmt := inClass (top 29) 11
abbrev sBookRows : Stmt := inClass (top 29) 12
abbrev sLWhole : Stmt := top 31
abbrev sLKeptWorth : Stmt := top 32
abbrev sLMost : Stmt := top 33
abbrev sLPlaceBy : Stmt := top 34
abbrev sLNumberBy : Stmt := top 35
abbrev sLItemBy : Stmt := top 36
abbrev sLLinesBy : Stmt := top 37
abbrev sLDeedBy : Stmt := top 38
abbrev sLHanded : Stmt := top 39
abbrev sLTried : Stmt := top 40
abbrev sLLineStands : Stmt := top 41
abbrev sLOrderStands : Stmt := top 42
abbrev sLSeen : Stmt := top 43
abbrev sLKeptWell : Stmt := top 44
abbrev sLChanged : Stmt := top 45
abbrev sLAllStand : Stmt := top 46
abbrev sLaw : Stmt := top 47
def dWorth : He.DefD := ⟨("worth", none), "worth", "worth", defArgs sWorth, defBody sWorth, defScope sWorth, [], []⟩
def dIsItem : He.DefD := ⟨("is_item", none), "is_item", "is_item", defArgs sIsItem, defBody sIsItem, defScope sIsItem, [], []⟩
def dCheckLine : He.DefD := ⟨("check_line", none), "check_line", "check_line", defArgs sCheckLine, defBody sCheckLine, defScope sCheckLine, [], []⟩
def dLineInit : He.DefD := ⟨("Line", some "__init__"), "__init__", "Line.__init__", defArgs sLineInit, defBody sLineInit, defScope sLineInit, [], []⟩
def dLineKept : He.DefD := ⟨("Line", some "kept"), "kept", "Line.kept", defArgs sLineKept, defBody sLineKept, defScope sLineKept, [], []⟩
def dLineToCome : He.DefD := ⟨("Line", some "to_come"), "to_come", "Line.to_come", defArgs sLineToCome, defBody sLineToCome, defScope sLineToCome, [], []⟩
def dLineKeptWorth : He.DefD := ⟨("Line", some "kept_worth"), "kept_worth", "Line.kept_worth", defArgs sLineKeptWorth, defBody sLineKeptWorth, defScope sLineKeptWorth, [], []⟩
def dLineCharge : He.DefD := ⟨("Line", some "charge"), "charge", "Line.charge", defArgs sLineCharge, defBody sLineCharge, defScope sLineCharge, [], []⟩
def dLineDeliver : He.DefD := ⟨("Line", some "deliver"), "deliver", "Line.deliver", defArgs sLineDeliver, defBody sLineDeliver, defScope sLineDeliver, [], []⟩
def dLineBring : He.DefD := ⟨("Line", some "bring"), "bring", "Line.bring", defArgs sLineBring, defBody sLineBring, defScope sLineBring, [], []⟩
def dLineReduce : He.DefD := ⟨("Line", some "reduce"), "reduce", "Line.reduce", defArgs sLineReduce, defBody sLineReduce, defScope sLineReduce, [], []⟩
def dLineNumbers : He.DefD := ⟨("Line", some "numbers"), "numbers", "Line.numbers", defArgs sLineNumbers, defBody sLineNumbers, defScope sLineNumbers, [], []⟩
def dOrderInit : He.DefD := ⟨("Order", some "__init__"), "__init__", "Order.__init__", defArgs sOrderInit, defBody sOrderInit, defScope sOrderInit, [], []⟩
def dOrderOwing : He.DefD := ⟨("Order", some "owing"), "owing", "Order.owing", defArgs sOrderOwing, defBody sOrderOwing, defScope sOrderOwing, [], []⟩
def dOrderLineOf : He.DefD := ⟨("Order", some "line_of"), "line_of", "Order.line_of", defArgs sOrderLineOf, defBody sOrderLineOf, defScope sOrderLineOf, [], []⟩
def dOrderNeedOver : He.DefD := ⟨("Order", some "need_over"), "need_over", "Order.need_over", defArgs sOrderNeedOver, defBody sOrderNeedOver, defScope sOrderNeedOver, [], []⟩
def dOrderTurnLine : He.DefD := ⟨("Order", some "turn_line"), "turn_line", "Order.turn_line", defArgs sOrderTurnLine, defBody sOrderTurnLine, defScope sOrderTurnLine, [], []⟩
def dOrderTake : He.DefD := ⟨("Order", some "take"), "take", "Order.take", defArgs sOrderTake, defBody sOrderTake, defScope sOrderTake, [], []⟩
def dOrderMark : He.DefD := ⟨("Order", some "mark"), "mark", "Order.mark", defArgs sOrderMark, defBody sOrderMark, defScope sOrderMark, [], []⟩
def dOwn : He.DefD := ⟨("own", none), "own", "own", defArgs sOwn, defBody sOwn, defScope sOwn, [], []⟩
def dBookInit : He.DefD := ⟨("Book", some "__init__"), "__init__", "Book.__init__", defArgs sBookInit, defBody sBookInit, defScope sBookInit, [], []⟩
def dBookOrderOf : He.DefD := ⟨("Book", some "order_of"), "order_of", "Book.order_of", defArgs sBookOrderOf, defBody sBookOrderOf, defScope sBookOrderOf, [], []⟩
def dBookDo : He.DefD := ⟨("Book", some "do"), "do", "Book.do", defArgs sBookDo, defBody sBookDo, defScope sBookDo, [], []⟩
def dBookBegin : He.DefD := ⟨("Book", some "begin"), "begin", "Book.begin", defArgs sBookBegin, defBody sBookBegin, defScope sBookBegin, [], []⟩
def dBookShift : He.DefD := ⟨("Book", some "shift"), "shift", "Book.shift", defArgs sBookShift, defBody sBookShift, defScope sBookShift, [], []⟩
def dBookOne : He.DefD := ⟨("Book", some "one"), "one", "Book.one", defArgs sBookOne, defBody sBookOne, defScope sBookOne, [], []⟩
def dBookNeedNumber : He.DefD := ⟨("Book", some "need_number"), "need_number", "Book.need_number", defArgs sBookNeedNumber, defBody sBookNeedNumber, defScope sBookNeedNumber, [], []⟩
def dBookOrders : He.DefD := ⟨("Book", some "orders"), "orders", "Book.orders", defArgs sBookOrders, defBody sBookOrders, defScope sBookOrders, [], []⟩
def dBookTold : He.DefD := ⟨("Book", some "told"), "told", "Book.told", defArgs sBookTold, defBody sBookTold, defScope sBookTold, [], []⟩
def dBookPaid : He.DefD := ⟨("Book", some "paid"), "paid", "Book.paid", defArgs sBookPaid, defBody sBookPaid, defScope sBookPaid, [], []⟩
def dBookOwed : He.DefD := ⟨("Book", some "owed"), "owed", "Book.owed", defArgs sBookOwed, defBody sBookOwed, defScope sBookOwed, [], []⟩
def dBookRows : He.DefD := ⟨("Book", some "rows"), "rows", "Book.rows", defArgs sBookRows, defBody sBookRows, defScope sBookRows, [], []⟩
def dLWhole : He.DefD := ⟨("_law_whole", none), "_law_whole", "_law_whole", defArgs sLWhole, defBody sLWhole, defScope sLWhole, [], []⟩
def dLKeptWorth : He.DefD := ⟨("_law_kept_worth", none), "_law_kept_worth", "_law_kept_worth", defArgs sLKeptWorth, defBody sLKeptWorth, defScope sLKeptWorth, [], []⟩
def dLMost : He.DefD := ⟨("_law_most", none), "_law_most", "_law_most", defArgs sLMost, defBody sLMost, defScope sLMost, [], []⟩
def dLPlaceBy : He.DefD := ⟨("_law_place_by", none), "_law_place_by", "_law_place_by", defArgs sLPlaceBy, defBody sLPlaceBy, defScope sLPlaceBy, [], []⟩
def dLNumberBy : He.DefD := ⟨("_law_number_by", none), "_law_number_by", "_law_number_by", defArgs sLNumberBy, defBody sLNumberBy, defScope sLNumberBy, [], []⟩
def dLItemBy : He.DefD := ⟨("_law_item_by", none), "_law_item_by", "_law_item_by", defArgs sLItemBy, defBody sLItemBy, defScope sLItemBy, [], []⟩
def dLLinesBy : He.DefD := ⟨("_law_lines_by", none), "_law_lines_by", "_law_lines_by", defArgs sLLinesBy, defBody sLLinesBy, defScope sLLinesBy, [], []⟩
def dLDeedBy : He.DefD := ⟨("_law_deed_by", none), "_law_deed_by", "_law_deed_by", defArgs sLDeedBy, defBody sLDeedBy, defScope sLDeedBy, [], []⟩
def dLHanded : He.DefD := ⟨("_law_handed", none), "_law_handed", "_law_handed", defArgs sLHanded, defBody sLHanded, defScope sLHanded, [], []⟩
def dLTried : He.DefD := ⟨("_law_tried", none), "_law_tried", "_law_tried", defArgs sLTried, defBody sLTried, defScope sLTried, [], []⟩
def dLLineStands : He.DefD := ⟨("_law_line_stands", none), "_law_line_stands", "_law_line_stands", defArgs sLLineStands, defBody sLLineStands, defScope sLLineStands, [], []⟩
def dLOrderStands : He.DefD := ⟨("_law_order_stands", none), "_law_order_stands", "_law_order_stands", defArgs sLOrderStands, defBody sLOrderStands, defScope sLOrderStands, [], []⟩
def dLSeen : He.DefD := ⟨("_law_seen", none), "_law_seen", "_law_seen", defArgs sLSeen, defBody sLSeen, defScope sLSeen, [], []⟩
def dLKeptWell : He.DefD := ⟨("_law_kept_well", none), "_law_kept_well", "_law_kept_well", defArgs sLKeptWell, defBody sLKeptWell, defScope sLKeptWell, [], []⟩
def dLChanged : He.DefD := ⟨("_law_changed", none), "_law_changed", "_law_changed", defArgs sLChanged, defBody sLChanged, defScope sLChanged, [], []⟩
def dLAllStand : He.DefD := ⟨("_law_all_stand", none), "_law_all_stand", "_law_all_stand", defArgs sLAllStand, defBody sLAllStand, defScope sLAllStand, [], []⟩
def dLaw : He.DefD := ⟨("law", none), "law", "law", defArgs sLaw, defBody sLaw, defScope sLaw, [], []⟩
def fn : List He.DefD := ([dWorth, dIsItem, dCheckLine, dLineInit, dLineKept, dLineToCome, dLineKeptWorth, dLineCharge, dLineDeliver, dLineBring, dLineReduce, dLineNumbers] : List He.DefD) ++ ([dOrderInit, dOrderOwing, dOrderLineOf, dOrderNeedOver, dOrderTurnLine, dOrderTake, dOrderMark, dOwn, dBookInit, dBookOrderOf, dBookDo, dBookBegin] : List He.DefD) ++ ([dBookShift, dBookOne, dBookNeedNumber, dBookOrders, dBookTold, dBookPaid, dBookOwed, dBookRows, dLWhole, dLKeptWorth, dLMost, dLPlaceBy] : List He.DefD) ++ ([dLNumberBy, dLItemBy, dLLinesBy, dLDeedBy, dLHanded, dLTried, dLLineStands, dLOrderStands, dLSeen, dLKeptWell, dLChanged, dLAllStand] : List He.DefD) ++ ([dLaw] : List He.DefD)
def fa : List He.Fa := ([.glo "worth", .glo "is_item", .glo "check_line", .glo "own", .glo "_law_whole", .glo "_law_kept_worth", .glo "_law_most", .glo "_law_place_by", .glo "_law_number_by", .glo "_law_item_by", .glo "_law_lines_by", .glo "_law_deed_by"] : List He.Fa) ++ ([.glo "_law_handed", .glo "_law_tried", .glo "_law_line_stands", .glo "_law_order_stands", .glo "_law_seen", .glo "_law_kept_well", .glo "_law_changed", .glo "_law_all_stand", .glo "law", .free "bool", .free "int", .free "isinstance"] : List He.Fa) ++ ([.free "len", .free "list", .free "max", .free "min", .free "range", .free "str", .free "sum", .free "tuple", .str "LETTERS" "abcdefghijklmnopqrstuvwxyz", .int "MOST_LETTERS" 12, .int "MOST_PIECES" 1000000, .int "MOST_CENTS" 1000000000] : List He.Fa) ++ ([.int "MOST_PACK" 1000, .glo "PARTS", .int "MOST_LINES" 20, .int "MOST_ORDERS" 40, .glo "FlowError", .exc "FlowError", .glo "NoDeed", .exc "NoDeed", .glo "NoLines", .exc "NoLines", .glo "NoItem", .exc "NoItem"] : List He.Fa) ++ ([.glo "NoNumber", .exc "NoNumber", .glo "FullBook", .exc "FullBook", .glo "NoOrder", .exc "NoOrder", .glo "SameOrder", .exc "SameOrder", .glo "NoLine", .exc "NoLine", .glo "TooMuch", .exc "TooMuch"] : List He.Fa) ++ ([.glo "Line", .cls "Line", .noat "Line" "item", .noat "Line" "ordered", .noat "Line" "cents", .noat "Line" "pack", .noat "Line" "sent", .noat "Line" "home", .noat "Line" "again", .noat "Line" "credited", .mkr "Line", .meth "Line" "kept"] : List He.Fa) ++ ([.meth "Line" "to_come", .meth "Line" "kept_worth", .meth "Line" "charge", .meth "Line" "deliver", .meth "Line" "bring", .meth "Line" "reduce", .meth "Line" "numbers", .glo "Order", .cls "Order", .noat "Order" "lines", .noat "Order" "money", .noat "Order" "marks"] : List He.Fa) ++ ([.mkr "Order", .meth "Order" "owing", .meth "Order" "line_of", .meth "Order" "need_over", .meth "Order" "turn_line", .meth "Order" "take", .meth "Order" "mark", .glo "Book", .cls "Book", .noat "Book" "each", .noat "Book" "trail", .mkr "Book"] : List He.Fa) ++ ([.meth "Book" "order_of", .meth "Book" "do", .meth "Book" "begin", .meth "Book" "shift", .meth "Book" "one", .meth "Book" "need_number", .meth "Book" "orders", .meth "Book" "told", .meth "Book" "paid", .meth "Book" "owed", .meth "Book" "rows", .exm "NoDeed" "FullBook" false] : List He.Fa) ++ ([.exm "NoLines" "FullBook" false, .exm "NoItem" "FullBook" false, .exm "NoNumber" "FullBook" false, .exm "FullBook" "FullBook" true, .exm "NoOrder" "FullBook" false, .exm "SameOrder" "FullBook" false, .exm "NoLine" "FullBook" false, .exm "TooMuch" "FullBook" false, .exm "NoDeed" "NoDeed" true, .exm "NoLines" "NoDeed" false, .exm "NoItem" "NoDeed" false, .exm "NoNumber" "NoDeed" false] : List He.Fa) ++ ([.exm "FullBook" "NoDeed" false, .exm "NoOrder" "NoDeed" false, .exm "SameOrder" "NoDeed" false, .exm "NoLine" "NoDeed" false, .exm "TooMuch" "NoDeed" false, .exm "NoDeed" "NoItem" false, .exm "NoLines" "NoItem" false, .exm "NoItem" "NoItem" true, .exm "NoNumber" "NoItem" false, .exm "FullBook" "NoItem" false, .exm "NoOrder" "NoItem" false, .exm "SameOrder" "NoItem" false] : List He.Fa) ++ ([.exm "NoLine" "NoItem" false, .exm "TooMuch" "NoItem" false, .exm "NoDeed" "NoLine" false, .exm "NoLines" "NoLine" false, .exm "NoItem" "NoLine" false, .exm "NoNumber" "NoLine" false, .exm "FullBook" "NoLine" false, .exm "NoOrder" "NoLine" false, .exm "SameOrder" "NoLine" false, .exm "NoLine" "NoLine" true, .exm "TooMuch" "NoLine" false, .exm "NoDeed" "NoLines" false] : List He.Fa) ++ ([.exm "NoLines" "NoLines" true, .exm "NoItem" "NoLines" false, .exm "NoNumber" "NoLines" false, .exm "FullBook" "NoLines" false, .exm "NoOrder" "NoLines" false, .exm "SameOrder" "NoLines" false, .exm "NoLine" "NoLines" false, .exm "TooMuch" "NoLines" false, .exm "NoDeed" "NoNumber" false, .exm "NoLines" "NoNumber" false, .exm "NoItem" "NoNumber" false, .exm "NoNumber" "NoNumber" true] : List He.Fa) ++ ([.exm "FullBook" "NoNumber" false, .exm "NoOrder" "NoNumber" false, .exm "SameOrder" "NoNumber" false, .exm "NoLine" "NoNumber" false, .exm "TooMuch" "NoNumber" false, .exm "NoDeed" "NoOrder" false, .exm "NoLines" "NoOrder" false, .exm "NoItem" "NoOrder" false, .exm "NoNumber" "NoOrder" false, .exm "FullBook" "NoOrder" false, .exm "NoOrder" "NoOrder" true, .exm "SameOrder" "NoOrder" false] : List He.Fa) ++ ([.exm "NoLine" "NoOrder" false, .exm "TooMuch" "NoOrder" false, .exm "NoDeed" "SameOrder" false, .exm "NoLines" "SameOrder" false, .exm "NoItem" "SameOrder" false, .exm "NoNumber" "SameOrder" false, .exm "FullBook" "SameOrder" false, .exm "NoOrder" "SameOrder" false, .exm "SameOrder" "SameOrder" true, .exm "NoLine" "SameOrder" false, .exm "TooMuch" "SameOrder" false, .exm "NoDeed" "TooMuch" false] : List He.Fa) ++ ([.exm "NoLines" "TooMuch" false, .exm "NoItem" "TooMuch" false, .exm "NoNumber" "TooMuch" false, .exm "FullBook" "TooMuch" false, .exm "NoOrder" "TooMuch" false, .exm "SameOrder" "TooMuch" false, .exm "NoLine" "TooMuch" false, .exm "TooMuch" "TooMuch" true] : List He.Fa)
def ts : List He.Tab := [(fun K => He.ga K "PARTS", ["order", "deliver", "back", "swap", "credit", "pay", "refund", "move"])]
def parts : List (Str × Int) := [("order", 2), ("deliver", 4), ("back", 4), ("swap", 4), ("credit", 4), ("pay", 3), ("refund", 3), ("move", 4)]
def ex (K : PySem.W.Frag) : Bool := He.valsB K (He.ga K "PARTS") (parts.map fun p => (p.1, He.Dv.int p.2))
abbrev R : PySem.W.OpenRow := PySem.W.OpenLaw.row PySem.Challenge.rw_orderflow_k11_whole_owed_and_kept
abbrev qv : Program := PySem.W.view R.prog [47]
abbrev hk : PySem.W.Hook := He.hookX 5 fa fn ts [] ex
def ob (s : PySem.W.SharedT) : He.AlX := He.obsX 5 fa fn ts [] ex (HandSHeadRun.getT s)
theorem ob_eq (s : PySem.W.SharedT) : ob s = hk.obs s.abs := He.obsX_eq (HandSHeadRun.getT_eq s)
def names : List PySem.Str := (["_wall", "FlowError", "NoDeed", "NoLines", "NoItem", "NoNumber", "FullBook", "NoOrder", "SameOrder", "NoLine", "TooMuch", "LETTERS"] : List PySem.Str) ++ (["MOST_LETTERS", "MOST_PIECES", "MOST_CENTS", "MOST_PACK", "worth", "is_item", "check_line", "Line", "Order", "PARTS", "MOST_LINES", "MOST_ORDERS"] : List PySem.Str) ++ (["own", "Book", "_law_whole", "_law_kept_worth", "_law_most", "_law_place_by", "_law_number_by", "_law_item_by", "_law_lines_by", "_law_deed_by", "_law_handed", "_law_tried"] : List PySem.Str) ++ (["_law_line_stands", "_law_order_stands", "_law_seen", "_law_kept_well", "_law_changed", "_law_all_stand"] : List PySem.Str)
/-! ### what the walk asks of the text -/
def fdO (K : PySem.W.Frag) (p : Str × Option Str) : FuncData := match K.lookup (He.fAd K p) with
  | some ⟨_, _, .func fd, _⟩ => fd
  | _ => PySem.W.fnOf "" "" ⟨[], [], none, [], [], none, []⟩ [] default .none .none .none .none none .none .none
theorem fdO_of {K : PySem.W.Frag} {p : Str × Option Str} {x qual : Str} {params : Arguments} {body : List Stmt} {scope : Scope} {dvs : List V} {kws : List (Str × V)} {fd : FuncData} (F : FunD K x qual params body scope dvs kws (He.fAd K p) fd) :
    FunD K x qual params body scope dvs kws (He.fAd K p) (fdO K p) := by
  obtain ⟨oc, od, dV, kV, doc, pm, an, cdv, ct, osl, e, lk, _⟩ := F.ex
  have q : fdO K p = fd := by
    unfold fdO
    rw [lk]
  rw [q]
  exact F
theorem gi_ok {K : PySem.W.Frag} {h : Heap} {mg : Str → Option Value} (X : K.In h) (G : h.Ns mainGlobals mg) {x : Str} {i : Int} (c : (He.Fa.int x i).ok K = true) : ∃ u, mg x = some u ∧ RelV (.int i) u := by
  obtain ⟨t, h⟩ := He.int_ok X G c
  exact ⟨_, h, t, rfl⟩
theorem gs_ok {K : PySem.W.Frag} {h : Heap} {mg : Str → Option Value} (X : K.In h) (G : h.Ns mainGlobals mg) {x z : Str} (c : (He.Fa.str x z).ok K = true) : ∃ u, mg x = some u ∧ RelV (.str z) u := by
  obtain ⟨t, h⟩ := He.str_ok X G c
  exact ⟨_, h, t, rfl⟩
structure Tx (w : World) (K : PySem.W.Frag) (mg : Str → Option Value) : Prop where
  g_Worth : mg "worth" = some (.ref (He.ga K "worth"))
  g_IsItem : mg "is_item" = some (.ref (He.ga K "is_item"))
  g_CheckLine : mg "check_line" = some (.ref (He.ga K "check_line"))
  g_Own : mg "own" = some (.ref (He.ga K "own"))
  g_LWhole : mg "_law_whole" = some (.ref (He.ga K "_law_whole"))
  g_LKeptWorth : mg "_law_kept_worth" = some (.ref (He.ga K "_law_kept_worth"))
  g_LMost : mg "_law_most" = some (.ref (He.ga K "_law_most"))
  g_LPlaceBy : mg "_law_place_by" = some (.ref (He.ga K "_law_place_by"))
  g_LNumberBy : mg "_law_number_by" = some (.ref (He.ga K "_law_number_by"))
  g_LItemBy : mg "_law_item_by" = some (.ref (He.ga K "_law_item_by"))
  g_LLinesBy : mg "_law_lines_by" = some (.ref (He.ga K "_law_lines_by"))
  g_LDeedBy : mg "_law_deed_by" = some (.ref (He.ga K "_law_deed_by"))
  g_LHanded : mg "_law_handed" = some (.ref (He.ga K "_law_handed"))
  g_LTried : mg "_law_tried" = some (.ref (He.ga K "_law_tried"))
  g_LLineStands : mg "_law_line_stands" = some (.ref (He.ga K "_law_line_stands"))
  g_LOrderStands : mg "_law_order_stands" = some (.ref (He.ga K "_law_order_stands"))
  g_LSeen : mg "_law_seen" = some (.ref (He.ga K "_law_seen"))
  g_LKeptWell : mg "_law_kept_well" = some (.ref (He.ga K "_law_kept_well"))
  g_LChanged : mg "_law_changed" = some (.ref (He.ga K "_law_changed"))
  g_LAllStand : mg "_law_all_stand" = some (.ref (He.ga K "_law_all_stand"))
  g_Law : mg "law" = some (.ref (He.ga K "law"))
  b_bool : mg "bool" = none
  b_int : mg "int" = none
  b_isinstance : mg "isinstance" = none
  b_len : mg "len" = none
  b_list : mg "list" = none
  b_max : mg "max" = none
  b_min : mg "min" = none
  b_range : mg "range" = none
  b_str : mg "str" = none
  b_sum : mg "sum" = none
  b_tuple : mg "tuple" = none
  c_LETTERS : ∃ u, mg "LETTERS" = some u ∧ RelV (.str "abcdefghijklmnopqrstuvwxyz") u
  c_MOST_LETTERS : ∃ u, mg "MOST_LETTERS" = some u ∧ RelV (.int 12) u
  c_MOST_PIECES : ∃ u, mg "MOST_PIECES" = some u ∧ RelV (.int 1000000) u
  c_MOST_CENTS : ∃ u, mg "MOST_CENTS" = some u ∧ RelV (.int 1000000000) u
  c_MOST_PACK : ∃ u, mg "MOST_PACK" = some u ∧ RelV (.int 1000) u
  c_PARTS : mg "PARTS" = some (.ref (He.ga K "PARTS"))
  c_MOST_LINES : ∃ u, mg "MOST_LINES" = some u ∧ RelV (.int 20) u
  c_MOST_ORDERS : ∃ u, mg "MOST_ORDERS" = some u ∧ RelV (.int 40) u
  g_FlowError : mg "FlowError" = some (.ref (He.ga K "FlowError"))
  x_FlowError : PySem.W.excIn K (He.ga K "FlowError") He.veBase "ValueError.__new__" = true ∧ PySem.W.keepIn K (.ref (He.ga K "FlowError")) = true ∧ PySem.W.subIn K (.ref (He.ga K "FlowError")) (.type "BaseException") = some true ∧ PySem.W.typeIn K (.ref (He.ga K "FlowError")) = some (.type "type")
  g_NoDeed : mg "NoDeed" = some (.ref (He.ga K "NoDeed"))
  x_NoDeed : PySem.W.excIn K (He.ga K "NoDeed") He.veBase "ValueError.__new__" = true ∧ PySem.W.keepIn K (.ref (He.ga K "NoDeed")) = true ∧ PySem.W.subIn K (.ref (He.ga K "NoDeed")) (.type "BaseException") = some true ∧ PySem.W.typeIn K (.ref (He.ga K "NoDeed")) = some (.type "type")
  g_NoLines : mg "NoLines" = some (.ref (He.ga K "NoLines"))
  x_NoLines : PySem.W.excIn K (He.ga K "NoLines") He.veBase "ValueError.__new__" = true ∧ PySem.W.keepIn K (.ref (He.ga K "NoLines")) = true ∧ PySem.W.subIn K (.ref (He.ga K "NoLines")) (.type "BaseException") = some true ∧ PySem.W.typeIn K (.ref (He.ga K "NoLines")) = some (.type "type")
  g_NoItem : mg "NoItem" = some (.ref (He.ga K "NoItem"))
  x_NoItem : PySem.W.excIn K (He.ga K "NoItem") He.veBase "ValueError.__new__" = true ∧ PySem.W.keepIn K (.ref (He.ga K "NoItem")) = true ∧ PySem.W.subIn K (.ref (He.ga K "NoItem")) (.type "BaseException") = some true ∧ PySem.W.typeIn K (.ref (He.ga K "NoItem")) = some (.type "type")
  g_NoNumber : mg "NoNumber" = some (.ref (He.ga K "NoNumber"))
  x_NoNumber : PySem.W.excIn K (He.ga K "NoNumber") He.veBase "ValueError.__new__" = true ∧ PySem.W.keepIn K (.ref (He.ga K "NoNumber")) = true ∧ PySem.W.subIn K (.ref (He.ga K "NoNumber")) (.type "BaseException") = some true ∧ PySem.W.typeIn K (.ref (He.ga K "NoNumber")) = some (.type "type")
  g_FullBook : mg "FullBook" = some (.ref (He.ga K "FullBook"))
  x_FullBook : PySem.W.excIn K (He.ga K "FullBook") He.veBase "ValueError.__new__" = true ∧ PySem.W.keepIn K (.ref (He.ga K "FullBook")) = true ∧ PySem.W.subIn K (.ref (He.ga K "FullBook")) (.type "BaseException") = some true ∧ PySem.W.typeIn K (.ref (He.ga K "FullBook")) = some (.type "type")
  g_NoOrder : mg "NoOrder" = some (.ref (He.ga K "NoOrder"))
  x_NoOrder : PySem.W.excIn K (He.ga K "NoOrder") He.veBase "ValueError.__new__" = true ∧ PySem.W.keepIn K (.ref (He.ga K "NoOrder")) = true ∧ PySem.W.subIn K (.ref (He.ga K "NoOrder")) (.type "BaseException") = some true ∧ PySem.W.typeIn K (.ref (He.ga K "NoOrder")) = some (.type "type")
  g_SameOrder : mg "SameOrder" = some (.ref (He.ga K "SameOrder"))
  x_SameOrder : PySem.W.excIn K (He.ga K "SameOrder") He.veBase "ValueError.__new__" = true ∧ PySem.W.keepIn K (.ref (He.ga K "SameOrder")) = true ∧ PySem.W.subIn K (.ref (He.ga K "SameOrder")) (.type "BaseException") = some true ∧ PySem.W.typeIn K (.ref (He.ga K "SameOrder")) = some (.type "type")
  g_NoLine : mg "NoLine" = some (.ref (He.ga K "NoLine"))
  x_NoLine : PySem.W.excIn K (He.ga K "NoLine") He.veBase "ValueError.__new__" = true ∧ PySem.W.keepIn K (.ref (He.ga K "NoLine")) = true ∧ PySem.W.subIn K (.ref (He.ga K "NoLine")) (.type "BaseException") = some true ∧ PySem.W.typeIn K (.ref (He.ga K "NoLine")) = some (.type "type")
  g_TooMuch : mg "TooMuch" = some (.ref (He.ga K "TooMuch"))
  x_TooMuch : PySem.W.excIn K (He.ga K "TooMuch") He.veBase "ValueError.__new__" = true ∧ PySem.W.keepIn K (.ref (He.ga K "TooMuch")) = true ∧ PySem.W.subIn K (.ref (He.ga K "TooMuch")) (.type "BaseException") = some true ∧ PySem.W.typeIn K (.ref (He.ga K "TooMuch")) = some (.type "type")
  g_Line : mg "Line" = some (.ref (He.ga K "Line"))
  cl_Line : Cls K (He.ga K "Line")
  n_Line_item : NoAttr K (He.ga K "Line") "item"
  n_Line_ordered : NoAttr K (He.ga K "Line") "ordered"
  n_Line_cents : NoAttr K (He.ga K "Line") "cents"
  n_Line_pack : NoAttr K (He.ga K "Line") "pack"
  n_Line_sent : NoAttr K (He.ga K "Line") "sent"
  n_Line_home : NoAttr K (He.ga K "Line") "home"
  n_Line_again : NoAttr K (He.ga K "Line") "again"
  n_Line_credited : NoAttr K (He.ga K "Line") "credited"
  mk_Line : Mk K (He.ga K "Line") (He.ma K (He.ga K "Line") "__init__")
  m_Line_kept : Meth K (He.ga K "Line") "kept" (He.ma K (He.ga K "Line") "kept")
  m_Line_to_come : Meth K (He.ga K "Line") "to_come" (He.ma K (He.ga K "Line") "to_come")
  m_Line_kept_worth : Meth K (He.ga K "Line") "kept_worth" (He.ma K (He.ga K "Line") "kept_worth")
  m_Line_charge : Meth K (He.ga K "Line") "charge" (He.ma K (He.ga K "Line") "charge")
  m_Line_deliver : Meth K (He.ga K "Line") "deliver" (He.ma K (He.ga K "Line") "deliver")
  m_Line_bring : Meth K (He.ga K "Line") "bring" (He.ma K (He.ga K "Line") "bring")
  m_Line_reduce : Meth K (He.ga K "Line") "reduce" (He.ma K (He.ga K "Line") "reduce")
  m_Line_numbers : Meth K (He.ga K "Line") "numbers" (He.ma K (He.ga K "Line") "numbers")
  g_Order : mg "Order" = some (.ref (He.ga K "Order"))
  cl_Order : Cls K (He.ga K "Order")
  n_Order_lines : NoAttr K (He.ga K "Order") "lines"
  n_Order_money : NoAttr K (He.ga K "Order") "money"
  n_Order_marks : NoAttr K (He.ga K "Order") "marks"
  mk_Order : Mk K (He.ga K "Order") (He.ma K (He.ga K "Order") "__init__")
  m_Order_owing : Meth K (He.ga K "Order") "owing" (He.ma K (He.ga K "Order") "owing")
  m_Order_line_of : Meth K (He.ga K "Order") "line_of" (He.ma K (He.ga K "Order") "line_of")
  m_Order_need_over : Meth K (He.ga K "Order") "need_over" (He.ma K (He.ga K "Order") "need_over")
  m_Order_turn_line : Meth K (He.ga K "Order") "turn_line" (He.ma K (He.ga K "Order") "turn_line")
  m_Order_take : Meth K (He.ga K "Order") "take" (He.ma K (He.ga K "Order") "take")
  m_Order_mark : Meth K (He.ga K "Order") "mark" (He.ma K (He.ga K "Order") "mark")
  g_Book : mg "Book" = some (.ref (He.ga K "Book"))
  cl_Book : Cls K (He.ga K "Book")
  n_Book_each : NoAttr K (He.ga K "Book") "each"
  n_Book_trail : NoAttr K (He.ga K "Book") "trail"
  mk_Book : Mk K (He.ga K "Book") (He.ma K (He.ga K "Book") "__init__")
  m_Book_order_of : Meth K (He.ga K "Book") "order_of" (He.ma K (He.ga K "Book") "order_of")
  m_Book_do : Meth K (He.ga K "Book") "do" (He.ma K (He.ga K "Book") "do")
  m_Book_begin : Meth K (He.ga K "Book") "begin" (He.ma K (He.ga K "Book") "begin")
  m_Book_shift : Meth K (He.ga K "Book") "shift" (He.ma K (He.ga K "Book") "shift")
  m_Book_one : Meth K (He.ga K "Book") "one" (He.ma K (He.ga K "Book") "one")
  m_Book_need_number : Meth K (He.ga K "Book") "need_number" (He.ma K (He.ga K "Book") "need_number")
  m_Book_orders : Meth K (He.ga K "Book") "orders" (He.ma K (He.ga K "Book") "orders")
  m_Book_told : Meth K (He.ga K "Book") "told" (He.ma K (He.ga K "Book") "told")
  m_Book_paid : Meth K (He.ga K "Book") "paid" (He.ma K (He.ga K "Book") "paid")
  m_Book_owed : Meth K (He.ga K "Book") "owed" (He.ma K (He.ga K "Book") "owed")
  m_Book_rows : Meth K (He.ga K "Book") "rows" (He.ma K (He.ga K "Book") "rows")
  e_NoDeed_FullBook : PySem.W.exmOne K (.ref (He.ga K "NoDeed")) (.ref (He.ga K "FullBook")) = some false
  e_NoLines_FullBook : PySem.W.exmOne K (.ref (He.ga K "NoLines")) (.ref (He.ga K "FullBook")) = some false
  e_NoItem_FullBook : PySem.W.exmOne K (.ref (He.ga K "NoItem")) (.ref (He.ga K "FullBook")) = some false
  e_NoNumber_FullBook : PySem.W.exmOne K (.ref (He.ga K "NoNumber")) (.ref (He.ga K "FullBook")) = some false
  e_FullBook_FullBook : PySem.W.exmOne K (.ref (He.ga K "FullBook")) (.ref (He.ga K "FullBook")) = some true
  e_NoOrder_FullBook : PySem.W.exmOne K (.ref (He.ga K "NoOrder")) (.ref (He.ga K "FullBook")) = some false
  e_SameOrder_FullBook : PySem.W.exmOne K (.ref (He.ga K "SameOrder")) (.ref (He.ga K "FullBook")) = some false
  e_NoLine_FullBook : PySem.W.exmOne K (.ref (He.ga K "NoLine")) (.ref (He.ga K "FullBook")) = some false
  e_TooMuch_FullBook : PySem.W.exmOne K (.ref (He.ga K "TooMuch")) (.ref (He.ga K "FullBook")) = some false
  e_NoDeed_NoDeed : PySem.W.exmOne K (.ref (He.ga K "NoDeed")) (.ref (He.ga K "NoDeed")) = some true
  e_NoLines_NoDeed : PySem.W.exmOne K (.ref (He.ga K "NoLines")) (.ref (He.ga K "NoDeed")) = some false
  e_NoItem_NoDeed : PySem.W.exmOne K (.ref (He.ga K "NoItem")) (.ref (He.ga K "NoDeed")) = some false
  e_NoNumber_NoDeed : PySem.W.exmOne K (.ref (He.ga K "NoNumber")) (.ref (He.ga K "NoDeed")) = some false
  e_FullBook_NoDeed : PySem.W.exmOne K (.ref (He.ga K "FullBook")) (.ref (He.ga K "NoDeed")) = some false
  e_NoOrder_NoDeed : PySem.W.exmOne K (.ref (He.ga K "NoOrder")) (.ref (He.ga K "NoDeed")) = some false
  e_SameOrder_NoDeed : PySem.W.exmOne K (.ref (He.ga K "SameOrder")) (.ref (He.ga K "NoDeed")) = some false
  e_NoLine_NoDeed : PySem.W.exmOne K (.ref (He.ga K "NoLine")) (.ref (He.ga K "NoDeed")) = some false
  e_TooMuch_NoDeed : PySem.W.exmOne K (.ref (He.ga K "TooMuch")) (.ref (He.ga K "NoDeed")) = some false
  e_NoDeed_NoItem : PySem.W.exmOne K (.ref (He.ga K "NoDeed")) (.ref (He.ga K "NoItem")) = some false
  e_NoLines_NoItem : PySem.W.exmOne K (.ref (He.ga K "NoLines")) (.ref (He.ga K "NoItem")) = some false
  e_NoItem_NoItem : PySem.W.exmOne K (.ref (He.ga K "NoItem")) (.ref (He.ga K "NoItem")) = some true
  e_NoNumber_NoItem : PySem.W.exmOne K (.ref (He.ga K "NoNumber")) (.ref (He.ga K "NoItem")) = some false
  e_FullBook_NoItem : PySem.W.exmOne K (.ref (He.ga K "FullBook")) (.ref (He.ga K "NoItem")) = some false
  e_NoOrder_NoItem : PySem.W.exmOne K (.ref (He.ga K "NoOrder")) (.ref (He.ga K "NoItem")) = some false
  e_SameOrder_NoItem : PySem.W.exmOne K (.ref (He.ga K "SameOrder")) (.ref (He.ga K "NoItem")) = some false
  e_NoLine_NoItem : PySem.W.exmOne K (.ref (He.ga K "NoLine")) (.ref (He.ga K "NoItem")) = some false
  e_TooMuch_NoItem : PySem.W.exmOne K (.ref (He.ga K "TooMuch")) (.ref (He.ga K "NoItem")) = some false
  e_NoDeed_NoLine : PySem.W.exmOne K (.ref (He.ga K "NoDeed")) (.ref (He.ga K "NoLine")) = some false
  e_NoLines_NoLine : PySem.W.exmOne K (.ref (He.ga K "NoLines")) (.ref (He.ga K "NoLine")) = some false
  e_NoItem_NoLine : PySem.W.exmOne K (.ref (He.ga K "NoItem")) (.ref (He.ga K "NoLine")) = some false
  e_NoNumber_NoLine : PySem.W.exmOne K (.ref (He.ga K "NoNumber")) (.ref (He.ga K "NoLine")) = some false
  e_FullBook_NoLine : PySem.W.exmOne K (.ref (He.ga K "FullBook")) (.ref (He.ga K "NoLine")) = some false
  e_NoOrder_NoLine : PySem.W.exmOne K (.ref (He.ga K "NoOrder")) (.ref (He.ga K "NoLine")) = some false
  e_SameOrder_NoLine : PySem.W.exmOne K (.ref (He.ga K "SameOrder")) (.ref (He.ga K "NoLine")) = some false
  e_NoLine_NoLine : PySem.W.exmOne K (.ref (He.ga K "NoLine")) (.ref (He.ga K "NoLine")) = some true
  e_TooMuch_NoLine : PySem.W.exmOne K (.ref (He.ga K "TooMuch")) (.ref (He.ga K "NoLine")) = some false
  e_NoDeed_NoLines : PySem.W.exmOne K (.ref (He.ga K "NoDeed")) (.ref (He.ga K "NoLines")) = some false
  e_NoLines_NoLines : PySem.W.exmOne K (.ref (He.ga K "NoLines")) (.ref (He.ga K "NoLines")) = some true
  e_NoItem_NoLines : PySem.W.exmOne K (.ref (He.ga K "NoItem")) (.ref (He.ga K "NoLines")) = some false
  e_NoNumber_NoLines : PySem.W.exmOne K (.ref (He.ga K "NoNumber")) (.ref (He.ga K "NoLines")) = some false
  e_FullBook_NoLines : PySem.W.exmOne K (.ref (He.ga K "FullBook")) (.ref (He.ga K "NoLines")) = some false
  e_NoOrder_NoLines : PySem.W.exmOne K (.ref (He.ga K "NoOrder")) (.ref (He.ga K "NoLines")) = some false
  e_SameOrder_NoLines : PySem.W.exmOne K (.ref (He.ga K "SameOrder")) (.ref (He.ga K "NoLines")) = some false
  e_NoLine_NoLines : PySem.W.exmOne K (.ref (He.ga K "NoLine")) (.ref (He.ga K "NoLines")) = some false
  e_TooMuch_NoLines : PySem.W.exmOne K (.ref (He.ga K "TooMuch")) (.ref (He.ga K "NoLines")) = some false
  e_NoDeed_NoNumber : PySem.W.exmOne K (.ref (He.ga K "NoDeed")) (.ref (He.ga K "NoNumber")) = some false
  e_NoLines_NoNumber : PySem.W.exmOne K (.ref (He.ga K "NoLines")) (.ref (He.ga K "NoNumber")) = some false
  e_NoItem_NoNumber : PySem.W.exmOne K (.ref (He.ga K "NoItem")) (.ref (He.ga K "NoNumber")) = some false
  e_NoNumber_NoNumber : PySem.W.exmOne K (.ref (He.ga K "NoNumber")) (.ref (He.ga K "NoNumber")) = some true
  e_FullBook_NoNumber : PySem.W.exmOne K (.ref (He.ga K "FullBook")) (.ref (He.ga K "NoNumber")) = some false
  e_NoOrder_NoNumber : PySem.W.exmOne K (.ref (He.ga K "NoOrder")) (.ref (He.ga K "NoNumber")) = some false
  e_SameOrder_NoNumber : PySem.W.exmOne K (.ref (He.ga K "SameOrder")) (.ref (He.ga K "NoNumber")) = some false
  e_NoLine_NoNumber : PySem.W.exmOne K (.ref (He.ga K "NoLine")) (.ref (He.ga K "NoNumber")) = some false
  e_TooMuch_NoNumber : PySem.W.exmOne K (.ref (He.ga K "TooMuch")) (.ref (He.ga K "NoNumber")) = some false
  e_NoDeed_NoOrder : PySem.W.exmOne K (.ref (He.ga K "NoDeed")) (.ref (He.ga K "NoOrder")) = some false
  e_NoLines_NoOrder : PySem.W.exmOne K (.ref (He.ga K "NoLines")) (.ref (He.ga K "NoOrder")) = some false
  e_NoItem_NoOrder : PySem.W.exmOne K (.ref (He.ga K "NoItem")) (.ref (He.ga K "NoOrder")) = some false
  e_NoNumber_NoOrder : PySem.W.exmOne K (.ref (He.ga K "NoNumber")) (.ref (He.ga K "NoOrder")) = some false
  e_FullBook_NoOrder : PySem.W.exmOne K (.ref (He.ga K "FullBook")) (.ref (He.ga K "NoOrder")) = some false
  e_NoOrder_NoOrder : PySem.W.exmOne K (.ref (He.ga K "NoOrder")) (.ref (He.ga K "NoOrder")) = some true
  e_SameOrder_NoOrder : PySem.W.exmOne K (.ref (He.ga K "SameOrder")) (.ref (He.ga K "NoOrder")) = some false
  e_NoLine_NoOrder : PySem.W.exmOne K (.ref (He.ga K "NoLine")) (.ref (He.ga K "NoOrder")) = some false
  e_TooMuch_NoOrder : PySem.W.exmOne K (.ref (He.ga K "TooMuch")) (.ref (He.ga K "NoOrder")) = some false
  e_NoDeed_SameOrder : PySem.W.exmOne K (.ref (He.ga K "NoDeed")) (.ref (He.ga K "SameOrder")) = some false
  e_NoLines_SameOrder : PySem.W.exmOne K (.ref (He.ga K "NoLines")) (.ref (He.ga K "SameOrder")) = some false
  e_NoItem_SameOrder : PySem.W.exmOne K (.ref (He.ga K "NoItem")) (.ref (He.ga K "SameOrder")) = some false
  e_NoNumber_SameOrder : PySem.W.exmOne K (.ref (He.ga K "NoNumber")) (.ref (He.ga K "SameOrder")) = some false
  e_FullBook_SameOrder : PySem.W.exmOne K (.ref (He.ga K "FullBook")) (.ref (He.ga K "SameOrder")) = some false
  e_NoOrder_SameOrder : PySem.W.exmOne K (.ref (He.ga K "NoOrder")) (.ref (He.ga K "SameOrder")) = some false
  e_SameOrder_SameOrder : PySem.W.exmOne K (.ref (He.ga K "SameOrder")) (.ref (He.ga K "SameOrder")) = some true
  e_NoLine_SameOrder : PySem.W.exmOne K (.ref (He.ga K "NoLine")) (.ref (He.ga K "SameOrder")) = some false
  e_TooMuch_SameOrder : PySem.W.exmOne K (.ref (He.ga K "TooMuch")) (.ref (He.ga K "SameOrder")) = some false
  e_NoDeed_TooMuch : PySem.W.exmOne K (.ref (He.ga K "NoDeed")) (.ref (He.ga K "TooMuch")) = some false
  e_NoLines_TooMuch : PySem.W.exmOne K (.ref (He.ga K "NoLines")) (.ref (He.ga K "TooMuch")) = some false
  e_NoItem_TooMuch : PySem.W.exmOne K (.ref (He.ga K "NoItem")) (.ref (He.ga K "TooMuch")) = some false
  e_NoNumber_TooMuch : PySem.W.exmOne K (.ref (He.ga K "NoNumber")) (.ref (He.ga K "TooMuch")) = some false
  e_FullBook_TooMuch : PySem.W.exmOne K (.ref (He.ga K "FullBook")) (.ref (He.ga K "TooMuch")) = some false
  e_NoOrder_TooMuch : PySem.W.exmOne K (.ref (He.ga K "NoOrder")) (.ref (He.ga K "TooMuch")) = some false
  e_SameOrder_TooMuch : PySem.W.exmOne K (.ref (He.ga K "SameOrder")) (.ref (He.ga K "TooMuch")) = some false
  e_NoLine_TooMuch : PySem.W.exmOne K (.ref (He.ga K "NoLine")) (.ref (He.ga K "TooMuch")) = some false
  e_TooMuch_TooMuch : PySem.W.exmOne K (.ref (He.ga K "TooMuch")) (.ref (He.ga K "TooMuch")) = some true
  f_Worth : FunD K dWorth.name dWorth.qual dWorth.params dWorth.body dWorth.scope [] [] (He.fAd K dWorth.at_) (fdO K dWorth.at_)
  f_IsItem : FunD K dIsItem.name dIsItem.qual dIsItem.params dIsItem.body dIsItem.scope [] [] (He.fAd K dIsItem.at_) (fdO K dIsItem.at_)
  f_CheckLine : FunD K dCheckLine.name dCheckLine.qual dCheckLine.params dCheckLine.body dCheckLine.scope [] [] (He.fAd K dCheckLine.at_) (fdO K dCheckLine.at_)
  f_LineInit : FunD K dLineInit.name dLineInit.qual dLineInit.params dLineInit.body dLineInit.scope [] [] (He.fAd K dLineInit.at_) (fdO K dLineInit.at_)
  f_LineKept : FunD K dLineKept.name dLineKept.qual dLineKept.params dLineKept.body dLineKept.scope [] [] (He.fAd K dLineKept.at_) (fdO K dLineKept.at_)
  f_LineToCome : FunD K dLineToCome.name dLineToCome.qual dLineToCome.params dLineToCome.body dLineToCome.scope [] [] (He.fAd K dLineToCome.at_) (fdO K dLineToCome.at_)
  f_LineKeptWorth : FunD K dLineKeptWorth.name dLineKeptWorth.qual dLineKeptWorth.params dLineKeptWorth.body dLineKeptWorth.scope [] [] (He.fAd K dLineKeptWorth.at_) (fdO K dLineKeptWorth.at_)
  f_LineCharge : FunD K dLineCharge.name dLineCharge.qual dLineCharge.params dLineCharge.body dLineCharge.scope [] [] (He.fAd K dLineCharge.at_) (fdO K dLineCharge.at_)
  f_LineDeliver : FunD K dLineDeliver.name dLineDeliver.qual dLineDeliver.params dLineDeliver.body dLineDeliver.scope [] [] (He.fAd K dLineDeliver.at_) (fdO K dLineDeliver.at_)
  f_LineBring : FunD K dLineBring.name dLineBring.qual dLineBring.params dLineBring.body dLineBring.scope [] [] (He.fAd K dLineBring.at_) (fdO K dLineBring.at_)
  f_LineReduce : FunD K dLineReduce.name dLineReduce.qual dLineReduce.params dLineReduce.body dLineReduce.scope [] [] (He.fAd K dLineReduce.at_) (fdO K dLineReduce.at_)
  f_LineNumbers : FunD K dLineNumbers.name dLineNumbers.qual dLineNumbers.params dLineNumbers.body dLineNumbers.scope [] [] (He.fAd K dLineNumbers.at_) (fdO K dLineNumbers.at_)
  f_OrderInit : FunD K dOrderInit.name dOrderInit.qual dOrderInit.params dOrderInit.body dOrderInit.scope [] [] (He.fAd K dOrderInit.at_) (fdO K dOrderInit.at_)
  f_OrderOwing : FunD K dOrderOwing.name dOrderOwing.qual dOrderOwing.params dOrderOwing.body dOrderOwing.scope [] [] (He.fAd K dOrderOwing.at_) (fdO K dOrderOwing.at_)
  f_OrderLineOf : FunD K dOrderLineOf.name dOrderLineOf.qual dOrderLineOf.params dOrderLineOf.body dOrderLineOf.scope [] [] (He.fAd K dOrderLineOf.at_) (fdO K dOrderLineOf.at_)
  f_OrderNeedOver : FunD K dOrderNeedOver.name dOrderNeedOver.qual dOrderNeedOver.params dOrderNeedOver.body dOrderNeedOver.scope [] [] (He.fAd K dOrderNeedOver.at_) (fdO K dOrderNeedOver.at_)
  f_OrderTurnLine : FunD K dOrderTurnLine.name dOrderTurnLine.qual dOrderTurnLine.params dOrderTurnLine.body dOrderTurnLine.scope [] [] (He.fAd K dOrderTurnLine.at_) (fdO K dOrderTurnLine.at_)
  f_OrderTake : FunD K dOrderTake.name dOrderTake.qual dOrderTake.params dOrderTake.body dOrderTake.scope [] [] (He.fAd K dOrderTake.at_) (fdO K dOrderTake.at_)
  f_OrderMark : FunD K dOrderMark.name dOrderMark.qual dOrderMark.params dOrderMark.body dOrderMark.scope [] [] (He.fAd K dOrderMark.at_) (fdO K dOrderMark.at_)
  f_Own : FunD K dOwn.name dOwn.qual dOwn.params dOwn.body dOwn.scope [] [] (He.fAd K dOwn.at_) (fdO K dOwn.at_)
  f_BookInit : FunD K dBookInit.name dBookInit.qual dBookInit.params dBookInit.body dBookInit.scope [] [] (He.fAd K dBookInit.at_) (fdO K dBookInit.at_)
  f_BookOrderOf : FunD K dBookOrderOf.name dBookOrderOf.qual dBookOrderOf.params dBookOrderOf.body dBookOrderOf.scope [] [] (He.fAd K dBookOrderOf.at_) (fdO K dBookOrderOf.at_)
  f_BookDo : FunD K dBookDo.name dBookDo.qual dBookDo.params dBookDo.body dBookDo.scope [] [] (He.fAd K dBookDo.at_) (fdO K dBookDo.at_)
  f_BookBegin : FunD K dBookBegin.name dBookBegin.qual dBookBegin.params dBookBegin.body dBookBegin.scope [] [] (He.fAd K dBookBegin.at_) (fdO K dBookBegin.at_)
  f_BookShift : FunD K dBookShift.name dBookShift.qual dBookShift.params dBookShift.body dBookShift.scope [] [] (He.fAd K dBookShift.at_) (fdO K dBookShift.at_)
  f_BookOne : FunD K dBookOne.name dBookOne.qual dBookOne.params dBookOne.body dBookOne.scope [] [] (He.fAd K dBookOne.at_) (fdO K dBookOne.at_)
  f_BookNeedNumber : FunD K dBookNeedNumber.name dBookNeedNumber.qual dBookNeedNumber.params dBookNeedNumber.body dBookNeedNumber.scope [] [] (He.fAd K dBookNeedNumber.at_) (fdO K dBookNeedNumber.at_)
  f_BookOrders : FunD K dBookOrders.name dBookOrders.qual dBookOrders.params dBookOrders.body dBookOrders.scope [] [] (He.fAd K dBookOrders.at_) (fdO K dBookOrders.at_)
  f_BookTold : FunD K dBookTold.name dBookTold.qual dBookTold.params dBookTold.body dBookTold.scope [] [] (He.fAd K dBookTold.at_) (fdO K dBookTold.at_)
  f_BookPaid : FunD K dBookPaid.name dBookPaid.qual dBookPaid.params dBookPaid.body dBookPaid.scope [] [] (He.fAd K dBookPaid.at_) (fdO K dBookPaid.at_)
  f_BookOwed : FunD K dBookOwed.name dBookOwed.qual dBookOwed.params dBookOwed.body dBookOwed.scope [] [] (He.fAd K dBookOwed.at_) (fdO K dBookOwed.at_)
  f_BookRows : FunD K dBookRows.name dBookRows.qual dBookRows.params dBookRows.body dBookRows.scope [] [] (He.fAd K dBookRows.at_) (fdO K dBookRows.at_)
  f_LWhole : FunD K dLWhole.name dLWhole.qual dLWhole.params dLWhole.body dLWhole.scope [] [] (He.fAd K dLWhole.at_) (fdO K dLWhole.at_)
  f_LKeptWorth : FunD K dLKeptWorth.name dLKeptWorth.qual dLKeptWorth.params dLKeptWorth.body dLKeptWorth.scope [] [] (He.fAd K dLKeptWorth.at_) (fdO K dLKeptWorth.at_)
  f_LMost : FunD K dLMost.name dLMost.qual dLMost.params dLMost.body dLMost.scope [] [] (He.fAd K dLMost.at_) (fdO K dLMost.at_)
  f_LPlaceBy : FunD K dLPlaceBy.name dLPlaceBy.qual dLPlaceBy.params dLPlaceBy.body dLPlaceBy.scope [] [] (He.fAd K dLPlaceBy.at_) (fdO K dLPlaceBy.at_)
  f_LNumberBy : FunD K dLNumberBy.name dLNumberBy.qual dLNumberBy.params dLNumberBy.body dLNumberBy.scope [] [] (He.fAd K dLNumberBy.at_) (fdO K dLNumberBy.at_)
  f_LItemBy : FunD K dLItemBy.name dLItemBy.qual dLItemBy.params dLItemBy.body dLItemBy.scope [] [] (He.fAd K dLItemBy.at_) (fdO K dLItemBy.at_)
  f_LLinesBy : FunD K dLLinesBy.name dLLinesBy.qual dLLinesBy.params dLLinesBy.body dLLinesBy.scope [] [] (He.fAd K dLLinesBy.at_) (fdO K dLLinesBy.at_)
  f_LDeedBy : FunD K dLDeedBy.name dLDeedBy.qual dLDeedBy.params dLDeedBy.body dLDeedBy.scope [] [] (He.fAd K dLDeedBy.at_) (fdO K dLDeedBy.at_)
  f_LHanded : FunD K dLHanded.name dLHanded.qual dLHanded.params dLHanded.body dLHanded.scope [] [] (He.fAd K dLHanded.at_) (fdO K dLHanded.at_)
  f_LTried : FunD K dLTried.name dLTried.qual dLTried.params dLTried.body dLTried.scope [] [] (He.fAd K dLTried.at_) (fdO K dLTried.at_)
  f_LLineStands : FunD K dLLineStands.name dLLineStands.qual dLLineStands.params dLLineStands.body dLLineStands.scope [] [] (He.fAd K dLLineStands.at_) (fdO K dLLineStands.at_)
  f_LOrderStands : FunD K dLOrderStands.name dLOrderStands.qual dLOrderStands.params dLOrderStands.body dLOrderStands.scope [] [] (He.fAd K dLOrderStands.at_) (fdO K dLOrderStands.at_)
  f_LSeen : FunD K dLSeen.name dLSeen.qual dLSeen.params dLSeen.body dLSeen.scope [] [] (He.fAd K dLSeen.at_) (fdO K dLSeen.at_)
  f_LKeptWell : FunD K dLKeptWell.name dLKeptWell.qual dLKeptWell.params dLKeptWell.body dLKeptWell.scope [] [] (He.fAd K dLKeptWell.at_) (fdO K dLKeptWell.at_)
  f_LChanged : FunD K dLChanged.name dLChanged.qual dLChanged.params dLChanged.body dLChanged.scope [] [] (He.fAd K dLChanged.at_) (fdO K dLChanged.at_)
  f_LAllStand : FunD K dLAllStand.name dLAllStand.qual dLAllStand.params dLAllStand.body dLAllStand.scope [] [] (He.fAd K dLAllStand.at_) (fdO K dLAllStand.at_)
  f_Law : FunD K dLaw.name dLaw.qual dLaw.params dLaw.body dLaw.scope [] [] (He.fAd K dLaw.at_) (fdO K dLaw.at_)
  kd : ∃ es n, K.lookup (He.ga K "PARTS") = some ⟨.type "dict", none, .dict es n, #[]⟩ ∧ PySem.W.KeysLit w.params es.toList ∧ es.toList.map He.keyOf = He.keysIn w.params (parts.map (·.1)) ∧ ((He.ga K "PARTS") == sysModules) = false
  kv : ex K = true
theorem tx_of {w : World} {K : PySem.W.Frag} {h : Heap} {mg : Str → Option Value} (X : K.In h) (G : h.Ns mainGlobals mg) (c : He.SaysX fa fn ts [] ex w h K) : Tx w K mg where
  g_Worth := He.glo_ok X G (c.t.d.fact 0 (f := .glo "worth") rfl)
  g_IsItem := He.glo_ok X G (c.t.d.fact 1 (f := .glo "is_item") rfl)
  g_CheckLine := He.glo_ok X G (c.t.d.fact 2 (f := .glo "check_line") rfl)
  g_Own := He.glo_ok X G (c.t.d.fact 3 (f := .glo "own") rfl)
  g_LWhole := He.glo_ok X G (c.t.d.fact 4 (f := .glo "_law_whole") rfl)
  g_LKeptWorth := He.glo_ok X G (c.t.d.fact 5 (f := .glo "_law_kept_worth") rfl)
  g_LMost := He.glo_ok X G (c.t.d.fact 6 (f := .glo "_law_most") rfl)
  g_LPlaceBy := He.glo_ok X G (c.t.d.fact 7 (f := .glo "_law_place_by") rfl)
  g_LNumberBy := He.glo_ok X G (c.t.d.fact 8 (f := .glo "_law_number_by") rfl)
  g_LItemBy := He.glo_ok X G (c.t.d.fact 9 (f := .glo "_law_item_by") rfl)
  g_LLinesBy := He.glo_ok X G (c.t.d.fact 10 (f := .glo "_law_lines_by") rfl)
  g_LDeedBy := He.glo_ok X G (c.t.d.fact 11 (f := .glo "_law_deed_by") rfl)
  g_LHanded := He.glo_ok X G (c.t.d.fact 12 (f := .glo "_law_handed") rfl)
  g_LTried := He.glo_ok X G (c.t.d.fact 13 (f := .glo "_law_tried") rfl)
  g_LLineStands := He.glo_ok X G (c.t.d.fact 14 (f := .glo "_law_line_stands") rfl)
  g_LOrderStands := He.glo_ok X G (c.t.d.fact 15 (f := .glo "_law_order_stands") rfl)
  g_LSeen := He.glo_ok X G (c.t.d.fact 16 (f := .glo "_law_seen") rfl)
  g_LKeptWell := He.glo_ok X G (c.t.d.fact 17 (f := .glo "_law_kept_well") rfl)
  g_LChanged := He.glo_ok X G (c.t.d.fact 18 (f := .glo "_law_changed") rfl)
  g_LAllStand := He.glo_ok X G (c.t.d.fact 19 (f := .glo "_law_all_stand") rfl)
  g_Law := He.glo_ok X G (c.t.d.fact 20 (f := .glo "law") rfl)
  b_bool := He.free_ok X G (c.t.d.fact 21 (f := .free "bool") rfl)
  b_int := He.free_ok X G (c.t.d.fact 22 (f := .free "int") rfl)
  b_isinstance := He.free_ok X G (c.t.d.fact 23 (f := .free "isinstance") rfl)
  b_len := He.free_ok X G (c.t.d.fact 24 (f := .free "len") rfl)
  b_list := He.free_ok X G (c.t.d.fact 25 (f := .free "list") rfl)
  b_max := He.free_ok X G (c.t.d.fact 26 (f := .free "max") rfl)
  b_min := He.free_ok X G (c.t.d.fact 27 (f := .free "min") rfl)
  b_range := He.free_ok X G (c.t.d.fact 28 (f := .free "range") rfl)
  b_str := He.free_ok X G (c.t.d.fact 29 (f := .free "str") rfl)
  b_sum := He.free_ok X G (c.t.d.fact 30 (f := .free "sum") rfl)
  b_tuple := He.free_ok X G (c.t.d.fact 31 (f := .free "tuple") rfl)
  c_LETTERS := gs_ok X G (c.t.d.fact 32 (f := .str "LETTERS" "abcdefghijklmnopqrstuvwxyz") rfl)
  c_MOST_LETTERS := gi_ok X G (c.t.d.fact 33 (f := .int "MOST_LETTERS" 12) rfl)
  c_MOST_PIECES := gi_ok X G (c.t.d.fact 34 (f := .int "MOST_PIECES" 1000000) rfl)
  c_MOST_CENTS := gi_ok X G (c.t.d.fact 35 (f := .int "MOST_CENTS" 1000000000) rfl)
  c_MOST_PACK := gi_ok X G (c.t.d.fact 36 (f := .int "MOST_PACK" 1000) rfl)
  c_PARTS := He.glo_ok X G (c.t.d.fact 37 (f := .glo "PARTS") rfl)
  c_MOST_LINES := gi_ok X G (c.t.d.fact 38 (f := .int "MOST_LINES" 20) rfl)
  c_MOST_ORDERS := gi_ok X G (c.t.d.fact 39 (f := .int "MOST_ORDERS" 40) rfl)
  g_FlowError := He.glo_ok X G (c.t.d.fact 40 (f := .glo "FlowError") rfl)
  x_FlowError := He.exc_ok (c.t.d.fact 41 (f := .exc "FlowError") rfl)
  g_NoDeed := He.glo_ok X G (c.t.d.fact 42 (f := .glo "NoDeed") rfl)
  x_NoDeed := He.exc_ok (c.t.d.fact 43 (f := .exc "NoDeed") rfl)
  g_NoLines := He.glo_ok X G (c.t.d.fact 44 (f := .glo "NoLines") rfl)
  x_NoLines := He.exc_ok (c.t.d.fact 45 (f := .exc "NoLines") rfl)
  g_NoItem := He.glo_ok X G (c.t.d.fact 46 (f := .glo "NoItem") rfl)
  x_NoItem := He.exc_ok (c.t.d.fact 47 (f := .exc "NoItem") rfl)
  g_NoNumber := He.glo_ok X G (c.t.d.fact 48 (f := .glo "NoNumber") rfl)
  x_NoNumber := He.exc_ok (c.t.d.fact 49 (f := .exc "NoNumber") rfl)
  g_FullBook := He.glo_ok X G (c.t.d.fact 50 (f := .glo "FullBook") rfl)
  x_FullBook := He.exc_ok (c.t.d.fact 51 (f := .exc "FullBook") rfl)
  g_NoOrder := He.glo_ok X G (c.t.d.fact 52 (f := .glo "NoOrder") rfl)
  x_NoOrder := He.exc_ok (c.t.d.fact 53 (f := .exc "NoOrder") rfl)
  g_SameOrder := He.glo_ok X G (c.t.d.fact 54 (f := .glo "SameOrder") rfl)
  x_SameOrder := He.exc_ok (c.t.d.fact 55 (f := .exc "SameOrder") rfl)
  g_NoLine := He.glo_ok X G (c.t.d.fact 56 (f := .glo "NoLine") rfl)
  x_NoLine := He.exc_ok (c.t.d.fact 57 (f := .exc "NoLine") rfl)
  g_TooMuch := He.glo_ok X G (c.t.d.fact 58 (f := .glo "TooMuch") rfl)
  x_TooMuch := He.exc_ok (c.t.d.fact 59 (f := .exc "TooMuch") rfl)
  g_Line := He.glo_ok X G (c.t.d.fact 60 (f := .glo "Line") rfl)
  cl_Line := He.cls_ok (c.t.d.fact 61 (f := .cls "Line") rfl)
  n_Line_item := He.noat_ok (c.t.d.fact 62 (f := .noat "Line" "item") rfl)
  n_Line_ordered := He.noat_ok (c.t.d.fact 63 (f := .noat "Line" "ordered") rfl)
  n_Line_cents := He.noat_ok (c.t.d.fact 64 (f := .noat "Line" "cents") rfl)
  n_Line_pack := He.noat_ok (c.t.d.fact 65 (f := .noat "Line" "pack") rfl)
  n_Line_sent := He.noat_ok (c.t.d.fact 66 (f := .noat "Line" "sent") rfl)
  n_Line_home := He.noat_ok (c.t.d.fact 67 (f := .noat "Line" "home") rfl)
  n_Line_again := He.noat_ok (c.t.d.fact 68 (f := .noat "Line" "again") rfl)
  n_Line_credited := He.noat_ok (c.t.d.fact 69 (f := .noat "Line" "credited") rfl)
  mk_Line := He.mkr_ok (c.t.d.fact 70 (f := .mkr "Line") rfl)
  m_Line_kept := He.meth_ok (c.t.d.fact 71 (f := .meth "Line" "kept") rfl)
  m_Line_to_come := He.meth_ok (c.t.d.fact 72 (f := .meth "Line" "to_come") rfl)
  m_Line_kept_worth := He.meth_ok (c.t.d.fact 73 (f := .meth "Line" "kept_worth") rfl)
  m_Line_charge := He.meth_ok (c.t.d.fact 74 (f := .meth "Line" "charge") rfl)
  m_Line_deliver := He.meth_ok (c.t.d.fact 75 (f := .meth "Line" "deliver") rfl)
  m_Line_bring := He.meth_ok (c.t.d.fact 76 (f := .meth "Line" "bring") rfl)
  m_Line_reduce := He.meth_ok (c.t.d.fact 77 (f := .meth "Line" "reduce") rfl)
  m_Line_numbers := He.meth_ok (c.t.d.fact 78 (f := .meth "Line" "numbers") rfl)
  g_Order := He.glo_ok X G (c.t.d.fact 79 (f := .glo "Order") rfl)
  cl_Order := He.cls_ok (c.t.d.fact 80 (f := .cls "Order") rfl)
  n_Order_lines := He.noat_ok (c.t.d.fact 81 (f := .noat "Order" "lines") rfl)
  n_Order_money := He.noat_ok (c.t.d.fact 82 (f := .noat "Order" "money") rfl)
  n_Order_marks := He.noat_ok (c.t.d.fact 83 (f := .noat "Order" "marks") rfl)
  mk_Order := He.mkr_ok (c.t.d.fact 84 (f := .mkr "Order") rfl)
  m_Order_owing := He.meth_ok (c.t.d.fact 85 (f := .meth "Order" "owing") rfl)
  m_Order_line_of := He.meth_ok (c.t.d.fact 86 (f := .meth "Order" "line_of") rfl)
  m_Order_need_over := He.meth_ok (c.t.d.fact 87 (f := .meth "Order" "need_over") rfl)
  m_Order_turn_line := He.meth_ok (c.t.d.fact 88 (f := .meth "Order" "turn_line") rfl)
  m_Order_take := He.meth_ok (c.t.d.fact 89 (f := .meth "Order" "take") rfl)
  m_Order_mark := He.meth_ok (c.t.d.fact 90 (f := .meth "Order" "mark") rfl)
  g_Book := He.glo_ok X G (c.t.d.fact 91 (f := .glo "Book") rfl)
  cl_Book := He.cls_ok (c.t.d.fact 92 (f := .cls "Book") rfl)
  n_Book_each := He.noat_ok (c.t.d.fact 93 (f := .noat "Book" "each") rfl)
  n_Book_trail := He.noat_ok (c.t.d.fact 94 (f := .noat "Book" "trail") rfl)
  mk_Book := He.mkr_ok (c.t.d.fact 95 (f := .mkr "Book") rfl)
  m_Book_order_of := He.meth_ok (c.t.d.fact 96 (f := .meth "Book" "order_of") rfl)
  m_Book_do := He.meth_ok (c.t.d.fact 97 (f := .meth "Book" "do") rfl)
  m_Book_begin := He.meth_ok (c.t.d.fact 98 (f := .meth "Book" "begin") rfl)
  m_Book_shift := He.meth_ok (c.t.d.fact 99 (f := .meth "Book" "shift") rfl)
  m_Book_one := He.meth_ok (c.t.d.fact 100 (f := .meth "Book" "one") rfl)
  m_Book_need_number := He.meth_ok (c.t.d.fact 101 (f := .meth "Book" "need_number") rfl)
  m_Book_orders := He.meth_ok (c.t.d.fact 102 (f := .meth "Book" "orders") rfl)
  m_Book_told := He.meth_ok (c.t.d.fact 103 (f := .meth "Book" "told") rfl)
  m_Book_paid := He.meth_ok (c.t.d.fact 104 (f := .meth "Book" "paid") rfl)
  m_Book_owed := He.meth_ok (c.t.d.fact 105 (f := .meth "Book" "owed") rfl)
  m_Book_rows := He.meth_ok (c.t.d.fact 106 (f := .meth "Book" "rows") rfl)
  e_NoDeed_FullBook := He.exm_ok (c.t.d.fact 107 (f := .exm "NoDeed" "FullBook" false) rfl)
  e_NoLines_FullBook := He.exm_ok (c.t.d.fact 108 (f := .exm "NoLines" "FullBook" false) rfl)
  e_NoItem_FullBook := He.exm_ok (c.t.d.fact 109 (f := .exm "NoItem" "FullBook" false) rfl)
  e_NoNumber_FullBook := He.exm_ok (c.t.d.fact 110 (f := .exm "NoNumber" "FullBook" false) rfl)
  e_FullBook_FullBook := He.exm_ok (c.t.d.fact 111 (f := .exm "FullBook" "FullBook" true) rfl)
  e_NoOrder_FullBook := He.exm_ok (c.t.d.fact 112 (f := .exm "NoOrder" "FullBook" false) rfl)
  e_SameOrder_FullBook := He.exm_ok (c.t.d.fact 113 (f := .exm "SameOrder" "FullBook" false) rfl)
  e_NoLine_FullBook := He.exm_ok (c.t.d.fact 114 (f := .exm "NoLine" "FullBook" false) rfl)
  e_TooMuch_FullBook := He.exm_ok (c.t.d.fact 115 (f := .exm "TooMuch" "FullBook" false) rfl)
  e_NoDeed_NoDeed := He.exm_ok (c.t.d.fact 116 (f := .exm "NoDeed" "NoDeed" true) rfl)
  e_NoLines_NoDeed := He.exm_ok (c.t.d.fact 117 (f := .exm "NoLines" "NoDeed" false) rfl)
  e_NoItem_NoDeed := He.exm_ok (c.t.d.fact 118 (f := .exm "NoItem" "NoDeed" false) rfl)
  e_NoNumber_NoDeed := He.exm_ok (c.t.d.fact 119 (f := .exm "NoNumber" "NoDeed" false) rfl)
  e_FullBook_NoDeed := He.exm_ok (c.t.d.fact 120 (f := .exm "FullBook" "NoDeed" false) rfl)
  e_NoOrder_NoDeed := He.exm_ok (c.t.d.fact 121 (f := .exm "NoOrder" "NoDeed" false) rfl)
  e_SameOrder_NoDeed := He.exm_ok (c.t.d.fact 122 (f := .exm "SameOrder" "NoDeed" false) rfl)
  e_NoLine_NoDeed := He.exm_ok (c.t.d.fact 123 (f := .exm "NoLine" "NoDeed" false) rfl)
  e_TooMuch_NoDeed := He.exm_ok (c.t.d.fact 124 (f := .exm "TooMuch" "NoDeed" false) rfl)
  e_NoDeed_NoItem := He.exm_ok (c.t.d.fact 125 (f := .exm "NoDeed" "NoItem" false) rfl)
  e_NoLines_NoItem := He.exm_ok (c.t.d.fact 126 (f := .exm "NoLines" "NoItem" false) rfl)
  e_NoItem_NoItem := He.exm_ok (c.t.d.fact 127 (f := .exm "NoItem" "NoItem" true) rfl)
  e_NoNumber_NoItem := He.exm_ok (c.t.d.fact 128 (f := .exm "NoNumber" "NoItem" false) rfl)
  e_FullBook_NoItem := He.exm_ok (c.t.d.fact 129 (f := .exm "FullBook" "NoItem" false) rfl)
  e_NoOrder_NoItem := He.exm_ok (c.t.d.fact 130 (f := .exm "NoOrder" "NoItem" false) rfl)
  e_SameOrder_NoItem := He.exm_ok (c.t.d.fact 131 (f := .exm "SameOrder" "NoItem" false) rfl)
  e_NoLine_NoItem := He.exm_ok (c.t.d.fact 132 (f := .exm "NoLine" "NoItem" false) rfl)
  e_TooMuch_NoItem := He.exm_ok (c.t.d.fact 133 (f := .exm "TooMuch" "NoItem" false) rfl)
  e_NoDeed_NoLine := He.exm_ok (c.t.d.fact 134 (f := .exm "NoDeed" "NoLine" false) rfl)
  e_NoLines_NoLine := He.exm_ok (c.t.d.fact 135 (f := .exm "NoLines" "NoLine" false) rfl)
  e_NoItem_NoLine := He.exm_ok (c.t.d.fact 136 (f := .exm "NoItem" "NoLine" false) rfl)
  e_NoNumber_NoLine := He.exm_ok (c.t.d.fact 137 (f := .exm "NoNumber" "NoLine" false) rfl)
  e_FullBook_NoLine := He.exm_ok (c.t.d.fact 138 (f := .exm "FullBook" "NoLine" false) rfl)
  e_NoOrder_NoLine := He.exm_ok (c.t.d.fact 139 (f := .exm "NoOrder" "NoLine" false) rfl)
  e_SameOrder_NoLine := He.exm_ok (c.t.d.fact 140 (f := .exm "SameOrder" "NoLine" false) rfl)
  e_NoLine_NoLine := He.exm_ok (c.t.d.fact 141 (f := .exm "NoLine" "NoLine" true) rfl)
  e_TooMuch_NoLine := He.exm_ok (c.t.d.fact 142 (f := .exm "TooMuch" "NoLine" false) rfl)
  e_NoDeed_NoLines := He.exm_ok (c.t.d.fact 143 (f := .exm "NoDeed" "NoLines" false) rfl)
  e_NoLines_NoLines := He.exm_ok (c.t.d.fact 144 (f := .exm "NoLines" "NoLines" true) rfl)
  e_NoItem_NoLines := He.exm_ok (c.t.d.fact 145 (f := .exm "NoItem" "NoLines" false) rfl)
  e_NoNumber_NoLines := He.exm_ok (c.t.d.fact 146 (f := .exm "NoNumber" "NoLines" false) rfl)
  e_FullBook_NoLines := He.exm_ok (c.t.d.fact 147 (f := .exm "FullBook" "NoLines" false) rfl)
  e_NoOrder_NoLines := He.exm_ok (c.t.d.fact 148 (f := .exm "NoOrder" "NoLines" false) rfl)
  e_SameOrder_NoLines := He.exm_ok (c.t.d.fact 149 (f := .exm "SameOrder" "NoLines" false) rfl)
  e_NoLine_NoLines := He.exm_ok (c.t.d.fact 150 (f := .exm "NoLine" "NoLines" false) rfl)
  e_TooMuch_NoLines := He.exm_ok (c.t.d.fact 151 (f := .exm "TooMuch" "NoLines" false) rfl)
  e_NoDeed_NoNumber := He.exm_ok (c.t.d.fact 152 (f := .exm "NoDeed" "NoNumber" false) rfl)
  e_NoLines_NoNumber := He.exm_ok (c.t.d.fact 153 (f := .exm "NoLines" "NoNumber" false) rfl)
  e_NoItem_NoNumber := He.exm_ok (c.t.d.fact 154 (f := .exm "NoItem" "NoNumber" false) rfl)
  e_NoNumber_NoNumber := He.exm_ok (c.t.d.fact 155 (f := .exm "NoNumber" "NoNumber" true) rfl)
  e_FullBook_NoNumber := He.exm_ok (c.t.d.fact 156 (f := .exm "FullBook" "NoNumber" false) rfl)
  e_NoOrder_NoNumber := He.exm_ok (c.t.d.fact 157 (f := .exm "NoOrder" "NoNumber" false) rfl)
  e_SameOrder_NoNumber := He.exm_ok (c.t.d.fact 158 (f := .exm "SameOrder" "NoNumber" false) rfl)
  e_NoLine_NoNumber := He.exm_ok (c.t.d.fact 159 (f := .exm "NoLine" "NoNumber" false) rfl)
  e_TooMuch_NoNumber := He.exm_ok (c.t.d.fact 160 (f := .exm "TooMuch" "NoNumber" false) rfl)
  e_NoDeed_NoOrder := He.exm_ok (c.t.d.fact 161 (f := .exm "NoDeed" "NoOrder" false) rfl)
  e_NoLines_NoOrder := He.exm_ok (c.t.d.fact 162 (f := .exm "NoLines" "NoOrder" false) rfl)
  e_NoItem_NoOrder := He.exm_ok (c.t.d.fact 163 (f := .exm "NoItem" "NoOrder" false) rfl)
  e_NoNumber_NoOrder := He.exm_ok (c.t.d.fact 164 (f := .exm "NoNumber" "NoOrder" false) rfl)
  e_FullBook_NoOrder := He.exm_ok (c.t.d.fact 165 (f := .exm "FullBook" "NoOrder" false) rfl)
  e_NoOrder_NoOrder := He.exm_ok (c.t.d.fact 166 (f := .exm "NoOrder" "NoOrder" true) rfl)
  e_SameOrder_NoOrder := He.exm_ok (c.t.d.fact 167 (f := .exm "SameOrder" "NoOrder" false) rfl)
  e_NoLine_NoOrder := He.exm_ok (c.t.d.fact 168 (f := .exm "NoLine" "NoOrder" false) rfl)
  e_TooMuch_NoOrder := He.exm_ok (c.t.d.fact 169 (f := .exm "TooMuch" "NoOrder" false) rfl)
  e_NoDeed_SameOrder := He.exm_ok (c.t.d.fact 170 (f := .exm "NoDeed" "SameOrder" false) rfl)
  e_NoLines_SameOrder := He.exm_ok (c.t.d.fact 171 (f := .exm "NoLines" "SameOrder" false) rfl)
  e_NoItem_SameOrder := He.exm_ok (c.t.d.fact 172 (f := .exm "NoItem" "SameOrder" false) rfl)
  e_NoNumber_SameOrder := He.exm_ok (c.t.d.fact 173 (f := .exm "NoNumber" "SameOrder" false) rfl)
  e_FullBook_SameOrder := He.exm_ok (c.t.d.fact 174 (f := .exm "FullBook" "SameOrder" false) rfl)
  e_NoOrder_SameOrder := He.exm_ok (c.t.d.fact 175 (f := .exm "NoOrder" "SameOrder" false) rfl)
  e_SameOrder_SameOrder := He.exm_ok (c.t.d.fact 176 (f := .exm "SameOrder" "SameOrder" true) rfl)
  e_NoLine_SameOrder := He.exm_ok (c.t.d.fact 177 (f := .exm "NoLine" "SameOrder" false) rfl)
  e_TooMuch_SameOrder := He.exm_ok (c.t.d.fact 178 (f := .exm "TooMuch" "SameOrder" false) rfl)
  e_NoDeed_TooMuch := He.exm_ok (c.t.d.fact 179 (f := .exm "NoDeed" "TooMuch" false) rfl)
  e_NoLines_TooMuch := He.exm_ok (c.t.d.fact 180 (f := .exm "NoLines" "TooMuch" false) rfl)
  e_NoItem_TooMuch := He.exm_ok (c.t.d.fact 181 (f := .exm "NoItem" "TooMuch" false) rfl)
  e_NoNumber_TooMuch := He.exm_ok (c.t.d.fact 182 (f := .exm "NoNumber" "TooMuch" false) rfl)
  e_FullBook_TooMuch := He.exm_ok (c.t.d.fact 183 (f := .exm "FullBook" "TooMuch" false) rfl)
  e_NoOrder_TooMuch := He.exm_ok (c.t.d.fact 184 (f := .exm "NoOrder" "TooMuch" false) rfl)
  e_SameOrder_TooMuch := He.exm_ok (c.t.d.fact 185 (f := .exm "SameOrder" "TooMuch" false) rfl)
  e_NoLine_TooMuch := He.exm_ok (c.t.d.fact 186 (f := .exm "NoLine" "TooMuch" false) rfl)
  e_TooMuch_TooMuch := He.exm_ok (c.t.d.fact 187 (f := .exm "TooMuch" "TooMuch" true) rfl)
  f_Worth := by
    obtain ⟨fd, F⟩ := c.t.d.def_ 0 (d := dWorth) rfl
    exact fdO_of F
  f_IsItem := by
    obtain ⟨fd, F⟩ := c.t.d.def_ 1 (d := dIsItem) rfl
    exact fdO_of F
  f_CheckLine := by
    obtain ⟨fd, F⟩ := c.t.d.def_ 2 (d := dCheckLine) rfl
    exact fdO_of F
  f_LineInit := by
    obtain ⟨fd, F⟩ := c.t.d.def_ 3 (d := dLineInit) rfl
    exact fdO_of F
  f_LineKept := by
    obtain ⟨fd, F⟩ := c.t.d.def_ 4 (d := dLineKept) rfl
    exact fdO_of F
  f_LineToCome := by
    obtain ⟨fd, F⟩ := c.t.d.def_ 5 (d := dLineToCome) rfl
    exact fdO_of F
  f_LineKeptWorth := by
    obtain ⟨fd, F⟩ := c.t.d.def_ 6 (d := dLineKeptWorth) rfl
    exact fdO_of F
  f_LineCharge := by
    obtain ⟨fd, F⟩ := c.t.d.def_ 7 (d := dLineCharge) rfl
    exact fdO_of F
  f_LineDeliver := by
    obtain ⟨fd, F⟩ := c.t.d.def_ 8 (d := dLineDeliver) rfl
    exact fdO_of F
  f_LineBring := by
    obtain ⟨fd, F⟩ := c.t.d.def_ 9 (d := dLineBring) rfl
    exact fdO_of F
  f_LineReduce := by
    obtain ⟨fd, F⟩ := c.t.d.def_ 10 (d := dLineReduce) rfl
    exact fdO_of F
  f_LineNumbers := by
    obtain ⟨fd, F⟩ := c.t.d.def_ 11 (d := dLineNumbers) rfl
    exact fdO_of F
  f_OrderInit := by
    obtain ⟨fd, F⟩ := c.t.d.def_ 12 (d := dOrderInit) rfl
    exact fdO_of F
  f_OrderOwing := by
    obtain ⟨fd, F⟩ := c.t.d.def_ 13 (d := dOrderOwing) rfl
    exact fdO_of F
  f_OrderLineOf := by
    obtain ⟨fd, F⟩ := c.t.d.def_ 14 (d := dOrderLineOf) rfl
    exact fdO_of F
  f_OrderNeedOver := by
    obtain ⟨fd, F⟩ := c.t.d.def_ 15 (d := dOrderNeedOver) rfl
    exact fdO_of F
  f_OrderTurnLine := by
    obtain ⟨fd, F⟩ := c.t.d.def_ 16 (d := dOrderTurnLine) rfl
    exact fdO_of F
  f_OrderTake := by
    obtain ⟨fd, F⟩ := c.t.d.def_ 17 (d := dOrderTake) rfl
    exact fdO_of F
  f_OrderMark := by
    obtain ⟨fd, F⟩ := c.t.d.def_ 18 (d := dOrderMark) rfl
    exact fdO_of F
  f_Own := by
    obtain ⟨fd, F⟩ := c.t.d.def_ 19 (d := dOwn) rfl
    exact fdO_of F
  f_BookInit := by
    obtain ⟨fd, F⟩ := c.t.d.def_ 20 (d := dBookInit) rfl
    exact fdO_of F
  f_BookOrderOf := by
    obtain ⟨fd, F⟩ := c.t.d.def_ 21 (d := dBookOrderOf) rfl
    exact fdO_of F
  f_BookDo := by
    obtain ⟨fd, F⟩ := c.t.d.def_ 22 (d := dBookDo) rfl
    exact fdO_of F
  f_BookBegin := by
    obtain ⟨fd, F⟩ := c.t.d.def_ 23 (d := dBookBegin) rfl
    exact fdO_of F
  f_BookShift := by
    obtain ⟨fd, F⟩ := c.t.d.def_ 24 (d := dBookShift) rfl
    exact fdO_of F
  f_BookOne := by
    obtain ⟨fd, F⟩ := c.t.d.def_ 25 (d := dBookOne) rfl
    exact fdO_of F
  f_BookNeedNumber := by
    obtain ⟨fd, F⟩ := c.t.d.def_ 26 (d := dBookNeedNumber) rfl
    exact fdO_of F
  f_BookOrders := by
    obtain ⟨fd, F⟩ := c.t.d.def_ 27 (d := dBookOrders) rfl
    exact fdO_of F
  f_BookTold := by
    obtain ⟨fd, F⟩ := c.t.d.def_ 28 (d := dBookTold) rfl
    exact fdO_of F
  f_BookPaid := by
    obtain ⟨fd, F⟩ := c.t.d.def_ 29 (d := dBookPaid) rfl
    exact fdO_of F
  f_BookOwed := by
    obtain ⟨fd, F⟩ := c.t.d.def_ 30 (d := dBookOwed) rfl
    exact fdO_of F
  f_BookRows := by
    obtain ⟨fd, F⟩ := c.t.d.def_ 31 (d := dBookRows) rfl
    exact fdO_of F
  f_LWhole := by
    obtain ⟨fd, F⟩ := c.t.d.def_ 32 (d := dLWhole) rfl
    exact fdO_of F
  f_LKeptWorth := by
    obtain ⟨fd, F⟩ := c.t.d.def_ 33 (d := dLKeptWorth) rfl
    exact fdO_of F
  f_LMost := by
    obtain ⟨fd, F⟩ := c.t.d.def_ 34 (d := dLMost) rfl
    exact fdO_of F
  f_LPlaceBy := by
    obtain ⟨fd, F⟩ := c.t.d.def_ 35 (d := dLPlaceBy) rfl
    exact fdO_of F
  f_LNumberBy := by
    obtain ⟨fd, F⟩ := c.t.d.def_ 36 (d := dLNumberBy) rfl
    exact fdO_of F
  f_LItemBy := by
    obtain ⟨fd, F⟩ := c.t.d.def_ 37 (d := dLItemBy) rfl
    exact fdO_of F
  f_LLinesBy := by
    obtain ⟨fd, F⟩ := c.t.d.def_ 38 (d := dLLinesBy) rfl
    exact fdO_of F
  f_LDeedBy := by
    obtain ⟨fd, F⟩ := c.t.d.def_ 39 (d := dLDeedBy) rfl
    exact fdO_of F
  f_LHanded := by
    obtain ⟨fd, F⟩ := c.t.d.def_ 40 (d := dLHanded) rfl
    exact fdO_of F
  f_LTried := by
    obtain ⟨fd, F⟩ := c.t.d.def_ 41 (d := dLTried) rfl
    exact fdO_of F
  f_LLineStands := by
    obtain ⟨fd, F⟩ := c.t.d.def_ 42 (d := dLLineStands) rfl
    exact fdO_of F
  f_LOrderStands := by
    obtain ⟨fd, F⟩ := c.t.d.def_ 43 (d := dLOrderStands) rfl
    exact fdO_of F
  f_LSeen := by
    obtain ⟨fd, F⟩ := c.t.d.def_ 44 (d := dLSeen) rfl
    exact fdO_of F
  f_LKeptWell := by
    obtain ⟨fd, F⟩ := c.t.d.def_ 45 (d := dLKeptWell) rfl
    exact fdO_of F
  f_LChanged := by
    obtain ⟨fd, F⟩ := c.t.d.def_ 46 (d := dLChanged) rfl
    exact fdO_of F
  f_LAllStand := by
    obtain ⟨fd, F⟩ := c.t.d.def_ 47 (d := dLAllStand) rfl
    exact fdO_of F
  f_Law := by
    obtain ⟨fd, F⟩ := c.t.d.def_ 48 (d := dLaw) rfl
    exact fdO_of F
  kd := by
    have e : ts.map (fun t => He.dicW K (t.1 K)) = ts.map fun t => some (He.keysIn w.params t.2) := congrArg (fun z : He.AlT => z.2) c.t
    have e1 : He.dicW K (He.ga K "PARTS") = some (He.keysIn w.params (parts.map (·.1))) := (List.cons.inj e).1
    exact kd_of e1
  kv := c.more
theorem room_any {k : Nat} {A : Around} (h : Room k A) : Room k A := h
/-! ### rules of our own over the layer -/
theorem pe_gc {X : Cx} {x : Str} {v : V} {pos : Pos} (hg : Gl X x) (hm : ∃ u, X.mg x = some u ∧ RelV v u) (hd : (x == ("__debug__" : Str)) = false := by decide) : PE X (.Name x pos) (tC v) := by
  obtain ⟨u, h, r⟩ := hm
  exact pe_glob hg h r hd
/-! ### readings from the left: one lemma a form -/
section
variable {σ : L2.St} {H : Hp} {Q : VK} {QB : Bool → Hp → Prop} {D : Ends} {K : PySem.W.Frag}
theorem r_seq {t u : TS} (h : t { D with nx := u D } σ H) : tSeq t u D σ H := h
/-- the ways behind a statement are joined: P holds behind it -/
theorem r_join {t u : TS} (P : L2.St → Hp → Prop) (h2 : ∀ σ' H', P σ' H' → u D σ' H') (h1 : ∀ N : L2.St → Hp → Prop, (∀ σ' H', P σ' H' → N σ' H') → t { D with nx := N } σ H) : tSeq t u D σ H := h1 (u D) h2
/-- a test, by what it tells -/
theorem r_ifj {c : TT} {t u : TS} (P : Bool → Hp → Prop) (h2 : ∀ b H', P b H' → if b = true then t D σ H' else u D σ H') (h1 : ∀ QB' : Bool → Hp → Prop, (∀ b H', P b H' → QB' b H') → c σ H QB') : tIfS c t u D σ H := h1 _ h2
theorem r_asg {te : TE} {i : Nat} (h : te σ H fun x H1 => D.nx (σ.set i (some x)) H1) : tAsg te (gName i) D σ H := h
theorem r_gn {i : Nat} {v : V} {R : L2.St → Hp → Prop} (h : R (σ.set i (some v)) H) : gName i v σ H R := h
theorem r_ret {te : TE} (h : te σ H D.rt) : tRet te D σ H := h
theorem r_retN (h : D.rt .non H) : tRetN D σ H := h
theorem r_drop {te : TE} (h : te σ H fun _ H1 => D.nx σ H1) : tDrop te D σ H := h
theorem r_ifs {c : TT} {t u : TS} (h : c σ H fun b H1 => if b = true then t D σ H1 else u D σ H1) : tIfS c t u D σ H := h
theorem r_next (h : D.nx σ H) : tNext D σ H := h
theorem r_var {i : Nat} {v : V} (e : σ[i]? = some (some v)) (h : Q v H) : tVar i σ H Q := ⟨v, e, h⟩
theorem r_c {v : V} (h : Q v H) : tC v σ H Q := h
theorem r_op {r : R2} {ta tb : TE} (h : ta σ H fun x H1 => tb σ H1 fun y H2 => r x y H2 Q) : tOp r ta tb σ H Q := h
theorem r_un {r : V → Hp → VK → Prop} {ta : TE} (h : ta σ H fun x H1 => r x H1 Q) : tUn r ta σ H Q := h
theorem r_U {g : Int → V} {i : Int} (h : Q (g i) H) : rU g (.int i) H Q := ⟨i, rfl, h⟩
theorem r_I0 {g : Int → Int → V} {i j : Int} (h : Q (g i j) H) : rI0 g (.int i) (.int j) H Q := ⟨i, j, rfl, rfl, h⟩
theorem r_I {C : Int → Int → Prop} {g : Int → Int → V} {i j : Int} (c : C i j) (h : Q (g i j) H) : rI C g (.int i) (.int j) H Q := ⟨i, j, rfl, rfl, c, h⟩
theorem r_eqI {i j : Int} (h : Q (.bl (decide (i = j))) H) : rEq (.int i) (.int j) H Q := by
  refine ⟨rfl, ?_⟩
  have e : decide (V.int i = V.int j) = decide (i = j) := by simp
  rw [e]
  exact h
theorem r_neI {i j : Int} (h : Q (.bl (!decide (i = j))) H) : rNe (.int i) (.int j) H Q := by
  refine ⟨rfl, ?_⟩
  have e : decide (V.int i = V.int j) = decide (i = j) := by simp
  rw [e]
  exact h
theorem r_eqS {i j : Str} (h : Q (.bl (decide (i = j))) H) : rEq (.str i) (.str j) H Q := by
  refine ⟨rfl, ?_⟩
  have e : decide (V.str i = V.str j) = decide (i = j) := by simp
  rw [e]
  exact h
theorem r_neS {i j : Str} (h : Q (.bl (!decide (i = j))) H) : rNe (.str i) (.str j) H Q := by
  refine ⟨rfl, ?_⟩
  have e : decide (V.str i = V.str j) = decide (i = j) := by simp
  rw [e]
  exact h
theorem r_test {t : TE} (h : t σ H fun x H1 => ∃ k, x = V.bl k ∧ QB k H1) : tTest t σ H QB := h
theorem r_tB {t : TE} (h : t σ H fun x H1 => ∃ k, x = V.bl k ∧ QB k H1) : tB t σ H QB := h
theorem r_exb {b : Bool} {P : Bool → Prop} (h : P b) : ∃ k, V.bl b = V.bl k ∧ P k := ⟨b, rfl, h⟩
theorem r_and {t u : TT} (h : t σ H fun c H1 => if c = true then u σ H1 QB else QB false H1) : tAnd t u σ H QB := h
theorem r_or {t u : TT} (h : t σ H fun c H1 => if c = true then QB true H1 else u σ H1 QB) : tOr t u σ H QB := h
theorem r_not {t : TT} (h : t σ H fun c H1 => QB (!c) H1) : tNot t σ H QB := h
theorem r_andV {ta tb : TE} (h : ta σ H fun x H1 => ∃ c, x = V.bl c ∧ if c = true then tb σ H1 Q else Q (.bl false) H1) : tAndV ta tb σ H Q := h
theorem r_orV {ta tb : TE} (h : ta σ H fun x H1 => ∃ c, x = V.bl c ∧ if c = true then Q (.bl true) H1 else tb σ H1 Q) : tOrV ta tb σ H Q := h
theorem r_notV {ta : TE} (h : ta σ H fun x H1 => ∃ c, x = V.bl c ∧ Q (.bl (!c)) H1) : tNotV ta σ H Q := h
theorem r_ifE {t : TT} {ta tb : TE} (h : t σ H fun c H1 => if c = true then ta σ H1 Q else tb σ H1 Q) : tIf t ta tb σ H Q := h
theorem r_nil {QA : List V → Hp → Prop} (h : QA [] H) : tNil σ H QA := h
theorem r_cons {te : TE} {ta : TA} {QA : List V → Hp → Prop} (h : te σ H fun x H1 => ta σ H1 fun xs H2 => QA (x :: xs) H2) : tCons te ta σ H QA := h
theorem r_cb {r : List V → Hp → VK → Prop} {t : TA} (h : t σ H fun vs H1 => r vs H1 Q) : tCB r t σ H Q := h
theorem r_tup {t : TA} (h : t σ H fun xs H1 => xs.length ≤ sizeLine ∧ ∀ p, H1 p = none → Q (.ref p) (upd H1 p (.tup xs))) : tTup t σ H Q := h
theorem r_lst {t : TA} (h : t σ H fun xs H1 => xs.length ≤ sizeLine ∧ ∀ p, H1 p = none → Q (.ref p) (upd H1 p (.lst xs))) : tLst t σ H Q := h
theorem r_mk {xs : List V} {P : Addr → Prop} (hl : xs.length ≤ 100) (h : ∀ p, P p) : xs.length ≤ sizeLine ∧ ∀ p, P p := ⟨Nat.le_trans hl (by rw [sizeLine_eq]; decide), h⟩
theorem r_call {sp : Sp} {E : XK} {t : TA} (h : t σ H fun vs H1 => sp (vs ++ []) H1 Q E) : tCall sp [] E t σ H Q := h
theorem r_callS {sp : Sp} {E : L2.St → XK} {t : TA} (h : t σ H fun vs H1 => sp vs H1 Q (E σ)) : tCallS sp E t σ H Q := h
theorem r_meth {C : Addr} {m : Str} {sp : Sp} {E : XK} {ta : TE} {t : TA} (h : ta σ H fun x H1 => ∃ a dx fs, x = V.ref a ∧ H1 a = some (.ins C dx fs) ∧ fs.lookup m = none ∧ t σ H1 fun vs H2 => sp (x :: (vs ++ [])) H2 Q E) :
    tMeth C m sp [] E ta t σ H Q := h
theorem r_m {C : Addr} {m : Str} {a dx : Addr} {fs : List (Str × V)} {P : Prop} (ho : H a = some (.ins C dx fs)) (hn : fs.lookup m = none) (h : P) : ∃ a' dx' fs', V.ref a = V.ref a' ∧ H a' = some (.ins C dx' fs') ∧ fs'.lookup m = none ∧ P :=
  ⟨a, dx, fs, rfl, ho, hn, h⟩
theorem r_fld {ta : TE} {f : Str} (h : ta σ H fun x H1 => ∃ a C dx fs v, x = V.ref a ∧ H1 a = some (.ins C dx fs) ∧ Cls K C ∧ NoAttr K C f ∧ fs.lookup f = some v ∧ Q v H1) : tFld K ta f σ H Q := h
theorem r_f {f : Str} {a C dx : Addr} {fs : List (Str × V)} {v : V} {P : V → Prop} (ho : H a = some (.ins C dx fs)) (hc : Cls K C) (hn : NoAttr K C f) (hl : fs.lookup f = some v) (h : P v) :
    ∃ a' C' dx' fs' v', V.ref a = V.ref a' ∧ H a' = some (.ins C' dx' fs') ∧ Cls K C' ∧ NoAttr K C' f ∧ fs'.lookup f = some v' ∧ P v' := ⟨a, C, dx, fs, v, rfl, ho, hc, hn, hl, h⟩
theorem r_sfld {ta tv : TE} {f : Str} (h : tv σ H fun y H1 => ta σ H1 fun x H2 => ∃ a C dx fs, x = V.ref a ∧ H2 a = some (.ins C dx fs) ∧ Cls K C ∧ NoAttr K C f ∧ fs.length < 1000 ∧ D.nx σ (upd H2 a (.ins C dx (putF f y fs)))) :
    sFld K ta tv f D σ H := h
theorem r_sf {f : Str} {y : V} {a C dx : Addr} {fs gs : List (Str × V)} {P : Hp → Prop} (ho : H a = some (.ins C dx fs)) (hc : Cls K C) (hn : NoAttr K C f) (hp : putF f y fs = gs) (hl : fs.length ≤ 20) (h : P (upd H a (.ins C dx gs))) :
    ∃ a' C' dx' fs', V.ref a = V.ref a' ∧ H a' = some (.ins C' dx' fs') ∧ Cls K C' ∧ NoAttr K C' f ∧ fs'.length < 1000 ∧ P (upd H a' (.ins C' dx' (putF f y fs'))) :=
  ⟨a, C, dx, fs, rfl, ho, hc, hn, Nat.lt_of_le_of_lt hl (by decide), by rw [hp]; exact h⟩
theorem r_ixT {a : Addr} {xs : List V} {i : Int} {v : V} (h : SqT K H a xs) (e : atI xs i = some v) (q : Q v H) : rIxT K (.ref a) (.int i) H Q := ⟨a, xs, i, v, rfl, rfl, h, e, q⟩
theorem r_ixL {a : Addr} {xs : List V} {i : Int} {v : V} (h : SqL K H a xs) (e : atI xs i = some v) (q : Q v H) : rIxL K (.ref a) (.int i) H Q := ⟨a, xs, i, v, rfl, rfl, h, e, q⟩
theorem r_chain {r r' : R2} {ta tb tc : TE} (h : ta σ H fun x H1 => tb σ H1 fun y H2 => r x y H2 fun z H3 => ∃ k, z = V.bl k ∧ (if k = true then tc σ H3 fun w H4 => r' y w H4 Q else Q (.bl false) H3)) : tChain r r' ta tb tc σ H Q := h
theorem r_itd {p : Prop} [Decidable p] {A B : Prop} (h1 : p → A) (h2 : ¬ p → B) : if decide p = true then A else B := by
  by_cases h : p
  · rw [decide_eq_true h, if_pos rfl]; exact h1 h
  · rw [decide_eq_false h, if_neg (by decide)]; exact h2 h
theorem r_itn {p : Prop} [Decidable p] {A B : Prop} (h1 : ¬ p → A) (h2 : p → B) : if (!decide p) = true then A else B := by
  by_cases h : p
  · rw [decide_eq_true h, if_neg (by decide)]; exact h2 h
  · rw [decide_eq_false h, if_pos (show (!false) = true from rfl)]; exact h1 h
theorem r_itb {b : Bool} {A B : Prop} (h1 : b = true → A) (h2 : b = false → B) : if b = true then A else B := by
  cases b with
  | true => rw [if_pos rfl]; exact h1 rfl
  | false => rw [if_neg (by decide)]; exact h2 rfl
theorem r_ity {p : Prop} [Decidable p] {A B : Prop} (hp : p) (h : A) : if decide p = true then A else B := by
  rw [decide_eq_true hp, if_pos rfl]; exact h
theorem r_itz {p : Prop} [Decidable p] {A B : Prop} (hp : ¬ p) (h : B) : if decide p = true then A else B := by
  rw [decide_eq_false hp, if_neg (by decide)]; exact h
theorem r_itT {A B : Prop} (h : A) : if true = true then A else B := h
theorem r_itF {A B : Prop} (h : B) : if false = true then A else B := by
  rw [if_neg (by decide)]; exact h
theorem r_itnT {A B : Prop} (h : B) : if (!true) = true then A else B := by
  rw [if_neg (by decide)]; exact h
theorem r_itnF {A B : Prop} (h : A) : if (!false) = true then A else B := by
  rw [if_pos (by decide)]; exact h
theorem r_make {C : Addr} {sp : Sp} {E : XK} {t : TA} (h : t σ H fun vs H1 => ∀ x dx, H1 x = none → H1 dx = none → dx ≠ x → sp (.ref x :: (vs ++ [])) (upd (upd H1 dx (.own x)) x (.ins C dx [])) (fun v H2 => v = .non ∧ Q (.ref x) H2) E) : tMake C sp [] E t σ H Q := h
theorem r_bm {T : String} {r : V → List V → Hp → VK → Prop} {to : TE} {t : TA} (h : to σ H fun x H1 => tyV K T x H1 ∧ t σ H1 fun xs H2 => r x xs H2 Q) : tBM K T r to t σ H Q := h
theorem r_tyL {p : Addr} {xs : List V} {P : Prop} (h : SqL K H p xs) (q : P) : tyV K "list" (.ref p) H ∧ P := ⟨.inl ⟨rfl, xs, h⟩, q⟩
theorem r_app {l : Addr} {xs : List V} {y : V} (h : H l = some (.lst xs)) (hz : xs.length < sizeLine) (q : Q .non (upd H l (.lst (xs ++ [y])))) : rAppend (.ref l) [y] H Q := ⟨l, xs, y, rfl, rfl, h, hz, q⟩
theorem r_yes (h : QB true H) : tYes σ H QB := h
theorem r_raise {cls : Value} {W : WX} (h : W cls none σ H) : (fun (_ : Ends) (σ : L2.St) (H : Hp) => (fun (_ : L2.St) (H : Hp) (Q : XK) => Q cls none H) σ H fun cls d H' => W cls d σ H') D σ H := h
end
theorem atI_get {α : Type} {xs : List α} {i : Int} {j : Nat} {v : α} (e : i = (j : Int)) (h : xs[j]? = some v) : atI xs i = some v := by
  subst e
  have hl : j < xs.length := (List.getElem?_eq_some_iff.mp h).1
  unfold atI ixN
  rw [if_pos (by omega), if_pos (by omega)]
  simpa using h
theorem lk_hit {a : Str} {v : V} {r : List (Str × V)} : List.lookup a ((a, v) :: r) = some v := by simp [List.lookup]
theorem lk_miss {a b : Str} {v : V} {r : List (Str × V)} (h : ¬ a = b) : List.lookup a ((b, v) :: r) = List.lookup a r := by
  have e : (a == b) = false := by simpa using h
  simp [List.lookup, e]
theorem pf_hit {a : Str} {v u : V} {r : List (Str × V)} : putF a v ((a, u) :: r) = (a, v) :: r := by
  show (if a = a then (a, v) :: r else _) = _
  rw [if_pos rfl]
theorem pf_miss {a b : Str} {v u : V} {r : List (Str × V)} (h : ¬ b = a) : putF a v ((b, u) :: r) = (b, u) :: putF a v r := by
  show (if b = a then _ else (b, u) :: putF a v r) = _
  rw [if_neg h]
theorem pf_nil {a : Str} {v : V} : putF a v [] = [(a, v)] := rfl
/-- all but S is as it was; tuples always -/
structure But (S : Addr → Prop) (H H' : Hp) : Prop where
  keep : ∀ a o, H a = some o → ¬ S a → H' a = some o
  tup : ∀ a xs, H a = some (.tup xs) → H' a = some (.tup xs)
theorem But.refl {S : Addr → Prop} {H : Hp} : But S H H := ⟨fun _ _ h _ => h, fun _ _ h => h⟩
theorem But.trans {S : Addr → Prop} {H H1 H2 : Hp} (a : But S H H1) (b : But S H1 H2) : But S H H2 := ⟨fun x o h n => b.keep x o (a.keep x o h n) n, fun x o h => b.tup x o (a.tup x o h)⟩
theorem But.of {S : Addr → Prop} {H H' : Hp} (h : Same H H') : But S H H' := ⟨fun x o e _ => h x o e, fun x o e => h x _ e⟩
theorem But.mono {S S' : Addr → Prop} {H H' : Hp} (h : But S H H') (m : ∀ a, S a → S' a) : But S' H H' := ⟨fun x o e n => h.keep x o e fun z => n (m x z), h.tup⟩
theorem But.ins {S : Addr → Prop} {H : Hp} {a C dx : Addr} {fs : List (Str × V)} {o : HO} (ha : H a = some (.ins C dx fs)) (h : S a) : But S H (L2.upd H a o) :=
  ⟨fun x u e n => by rw [upd_ne (fun z => n (by rw [z]; exact h))]; exact e, fun x u e => by rw [upd_ne (ne_of e ha (by intro q; cases q))]; exact e⟩
theorem But.lst {S : Addr → Prop} {H : Hp} {a : Addr} {xs : List V} {o : HO} (ha : H a = some (.lst xs)) (h : S a) : But S H (L2.upd H a o) :=
  ⟨fun x u e n => by rw [upd_ne (fun z => n (by rw [z]; exact h))]; exact e, fun x u e => by rw [upd_ne (ne_of e ha (by intro q; cases q))]; exact e⟩
theorem same_upd {H : Hp} {a : Addr} {o : HO} (h : H a = none) : Same H (L2.upd H a o) := fun x u e => by
  rw [upd_ne (ne_of_none e h)]; exact e
/-- a new address may change -/
theorem But.new {S : Addr → Prop} {H H1 : Hp} {a : Addr} {o : HO} (b : But S H H1) (h : H a = none) : But S H (L2.upd H1 a o) :=
  ⟨fun x u e n => by rw [upd_ne (ne_of_none e h)]; exact b.keep x u e n, fun x u e => by rw [upd_ne (ne_of_none e h)]; exact b.tup x u e⟩
theorem But.same {H H' : Hp} (h : But (fun _ => False) H H') : Same H H' := fun x o e => h.keep x o e id
theorem But.mut {S S' : Addr → Prop} {H H1 H2 : Hp} (b : But S H H1) (c : But S' H1 H2) (m : ∀ a, S' a → S a ∨ H a = none) : But S H H2 :=
  ⟨fun x u e n => c.keep x u (b.keep x u e n) fun z => (m x z).elim n fun q => (by rw [q] at e; cases e), fun x u e => c.tup x u (b.tup x u e)⟩
theorem sz5 {n : Nat} (h : n ≤ 100000) : n ≤ sizeLine := Nat.le_trans h (by rw [sizeLine_eq]; decide)
theorem sz5l {n : Nat} (h : n < 100000) : n < sizeLine := Nat.lt_of_lt_of_le h (by rw [sizeLine_eq]; decide)
/-! ### comprehensions -/
theorem wipe1 {σ : L2.St} {j : Nat} {x : V} : wipe ((wipe σ [j]).set j (some x)) [j] = wipe σ [j] := by
  show ((σ.set j none).set j (some x)).set j none = σ.set j none
  simp
theorem take_snoc {α : Type} : ∀ {l : List α} {i : Nat} {x : α}, l[i]? = some x → l.take (i + 1) = l.take i ++ [x]
  | [], i, x, h => by simp at h
  | a :: l, 0, x, h => by
    have e : a = x := Option.some.inj h
    subst e
    rfl
  | a :: l, i + 1, x, h => by
    have ih := take_snoc (l := l) (i := i) (x := x) h
    show a :: l.take (i + 1) = a :: l.take i ++ [x]
    rw [ih]
    rfl
/-- what a comprehension's walk asks -/
def Lcs (J : It) (g : TG) (tt : TT) (te : TE) (vs : List Nat) (σ : L2.St) (H1 : Hp) (Q : VK) : Prop := ∀ D, H1 D = none → ∃ W : Nat → Nat → Hp → Prop, (∃ m, W 0 m (L2.upd H1 D (.lst []))) ∧ ∀ i m H, W i m H →
  (J.stop i H ∧ Q (.ref D) H) ∨ (J.go i H ∧ ∃ Nx : Hp → Prop, (∀ H', Nx H' → ∃ m', m' < m ∧ W (i + 1) m' H') ∧ ∀ x H', J.yld i H x H' → g x (wipe σ vs) H' fun σ2 H2 => wipe σ2 vs = wipe σ vs ∧ tt σ2 H2 fun b H3 =>
    if b = true then te σ2 H3 fun y H4 => ∃ acc, H4 D = some (.lst acc) ∧ acc.length < sizeLine ∧ Nx (L2.upd H4 D (.lst (acc ++ [y]))) else Nx H3)
theorem r_lcl {K : PySem.W.Frag} {tl te : TE} {g : TG} {tt : TT} {vs : List Nat} {σ : L2.St} {H : Hp} {Q : VK} (h : tl σ H fun x H1 => ∃ a, x = V.ref a ∧ (∃ xs, SqL K H1 a xs) ∧ Lcs (Itl K a) g tt te vs σ H1 Q) : tLc (iList K tl) g tt te vs σ H Q := h
theorem r_lct {K : PySem.W.Frag} {tl te : TE} {g : TG} {tt : TT} {vs : List Nat} {σ : L2.St} {H : Hp} {Q : VK} (h : tl σ H fun x H1 => ∃ a, x = V.ref a ∧ (∃ xs, SqT K H1 a xs) ∧ Lcs (Itt K a) g tt te vs σ H1 Q) : tLc (iTup K tl) g tt te vs σ H Q := h
theorem r_lcr {ta : TA} {te : TE} {g : TG} {tt : TT} {vs : List Nat} {σ : L2.St} {H : Hp} {Q : VK} (h : ta σ H fun us H1 => ∃ j : Int, us = [V.int j] ∧ -(2 ^ 62) ≤ j ∧ j < 2 ^ 62 ∧ Lcs (Itr 0 j.toNat) g tt te vs σ H1 Q) : tLc (iRng1 ta) g tt te vs σ H Q := h
/-- a comprehension whose elements leave what stands: by the list of its values -/
theorem lcp_list {K : PySem.W.Frag} {te : TE} {j : Nat} {σ : L2.St} {H1 : Hp} {Q : VK} {a : Addr} {xs ys : List V} (hs : SqL K H1 a xs) (hl : ys.length = xs.length) (hz : xs.length ≤ 100000)
    (he : ∀ (i : Nat) (x y : V) (H' : Hp) (R : VK), xs[i]? = some x → ys[i]? = some y → Same H1 H' → (∀ H'', Same H' H'' → R y H'') → te ((wipe σ [j]).set j (some x)) H' R)
    (k : ∀ (D : Addr) (H' : Hp), H1 D = none → Same H1 H' → H' D = some (.lst ys) → Q (.ref D) H') : ∃ a', V.ref a = V.ref a' ∧ (∃ xs, SqL K H1 a' xs) ∧ Lcs (Itl K a') (gName j) tYes te [j] σ H1 Q := by
  refine ⟨a, rfl, ⟨xs, hs⟩, fun D hD => ?_⟩
  refine lc_list (K := K) (a := a) (xs := xs) (fun i H' => Same H1 H' ∧ H' D = some (.lst (ys.take i))) ⟨same_upd hD, upd_same⟩ (fun i H' _ p => p.1.seq hs) ?_ ?_
  · rintro i x H' hi ⟨s, e⟩
    have hi2 : i < ys.length := by rw [hl]; exact (List.getElem?_eq_some_iff.mp hi).1
    have ey : ys[i]? = some ys[i] := List.getElem?_eq_getElem hi2
    refine ⟨wipe1, r_yes (r_itT ?_)⟩
    refine he i x _ H' _ hi ey s fun H'' s2 => ⟨_, s2 _ _ e, ?_, ?_, ?_⟩
    · refine sz5l ?_
      rw [List.length_take]
      omega
    · exact fun b o q => by
        rw [upd_ne (ne_of_none q hD)]
        exact s2 _ _ (s _ _ q)
    · rw [upd_same, take_snoc ey]
  · rintro H' ⟨s, e⟩
    refine k D H' hD s ?_
    rw [e, List.take_of_length_le (by omega)]
/-- .. whose elements are told by a relation that leans on tuples alone -/
theorem lcp_rel {K : PySem.W.Frag} {te : TE} {j : Nat} {σ : L2.St} {H1 : Hp} {Q : VK} {a : Addr} {xs : List V} {α : Type} {R : Hp → V → α → Prop} {zs : List α} (hs : SqL K H1 a xs) (hl : zs.length = xs.length) (hz : xs.length ≤ 100000)
    (stab : ∀ H H' v z, R H v z → (∀ b ys, H b = some (.tup ys) → H' b = some (.tup ys)) → R H' v z)
    (he : ∀ (i : Nat) (x : V) (z : α) (H' : Hp) (W : VK), xs[i]? = some x → zs[i]? = some z → Same H1 H' → (∀ y H'', Same H' H'' → R H'' y z → W y H'') → te ((wipe σ [j]).set j (some x)) H' W)
    (k : ∀ (D : Addr) (H' : Hp) (acc : List V), H1 D = none → Same H1 H' → H' D = some (.lst acc) → Paired (R H') acc zs → Q (.ref D) H') : ∃ a', V.ref a = V.ref a' ∧ (∃ xs, SqL K H1 a' xs) ∧ Lcs (Itl K a') (gName j) tYes te [j] σ H1 Q := by
  refine ⟨a, rfl, ⟨xs, hs⟩, fun D hD => ?_⟩
  refine lc_list (K := K) (a := a) (xs := xs) (fun i H' => Same H1 H' ∧ ∃ acc, H' D = some (.lst acc) ∧ Paired (R H') acc (zs.take i)) ⟨same_upd hD, [], upd_same, .nil⟩ (fun i H' _ p => p.1.seq hs) ?_ ?_
  · rintro i x H' hi ⟨s, acc, e, pr⟩
    have hi1 : i < xs.length := (List.getElem?_eq_some_iff.mp hi).1
    have hi2 : i < zs.length := by rw [hl]; exact hi1
    have ez : zs[i]? = some zs[i] := List.getElem?_eq_getElem hi2
    refine ⟨wipe1, r_yes (r_itT ?_)⟩
    refine he i x _ H' _ hi ez s fun y H'' s2 r => ⟨acc, s2 _ _ e, ?_, ?_, acc ++ [y], upd_same, ?_⟩
    · have := pr.length
      rw [List.length_take] at this
      refine sz5l ?_
      omega
    · exact fun b o q => by
        rw [upd_ne (ne_of_none q hD)]
        exact s2 _ _ (s _ _ q)
    · have up : ∀ b ys, H'' b = some (.tup ys) → L2.upd H'' D (.lst (acc ++ [y])) b = some (.tup ys) := fun b ys q => by
        rw [upd_ne (ne_of q (s2 _ _ e) (by intro z; cases z))]
        exact q
      rw [take_snoc ez]
      exact Paired.snoc (Paired.mapP pr fun _ _ q => stab _ _ _ _ q fun b ys w => up b ys (s2 _ _ w)) (stab _ _ _ _ r up)
  · rintro H' ⟨s, acc, e, pr⟩
    rw [List.take_of_length_le (by omega)] at pr
    exact k D H' acc hD s e pr
/-- .. over a range -/
theorem lcp_range {te : TE} {j : Nat} {σ : L2.St} {H1 : Hp} {Q : VK} {n : Int} {ys : List V} (hl : ys.length = n.toNat) (hz : n ≤ 100000) (hn : -100000 ≤ n)
    (he : ∀ (i : Nat) (y : V) (H' : Hp) (R : VK), ys[i]? = some y → Same H1 H' → (∀ H'', Same H' H'' → R y H'') → te ((wipe σ [j]).set j (some (.int (i : Int)))) H' R)
    (k : ∀ (D : Addr) (H' : Hp), H1 D = none → Same H1 H' → H' D = some (.lst ys) → Q (.ref D) H') : ∃ m : Int, [V.int n] = [V.int m] ∧ -(2 ^ 62) ≤ m ∧ m < 2 ^ 62 ∧ Lcs (Itr 0 m.toNat) (gName j) tYes te [j] σ H1 Q := by
  refine ⟨n, rfl, by omega, by omega, fun D hD => ?_⟩
  refine lc_range (lo := 0) (n := n.toNat) (fun i H' => Same H1 H' ∧ H' D = some (.lst (ys.take i))) ⟨same_upd hD, upd_same⟩ ?_ ?_
  · rintro i H' hi ⟨s, e⟩
    have hi2 : i < ys.length := by rw [hl]; exact hi
    have ey : ys[i]? = some ys[i] := List.getElem?_eq_getElem hi2
    refine ⟨wipe1, r_yes (r_itT ?_)⟩
    rw [Int.zero_add]
    refine he i _ H' _ ey s fun H'' s2 => ⟨_, s2 _ _ e, ?_, ?_, ?_⟩
    · refine sz5l ?_
      rw [List.length_take]
      omega
    · exact fun b o q => by
        rw [upd_ne (ne_of_none q hD)]
        exact s2 _ _ (s _ _ q)
    · rw [upd_same, take_snoc ey]
  · rintro H' ⟨s, e⟩
    refine k D H' hD s ?_
    rw [e, List.take_of_length_le (by omega)]
/-! ### what a for's walk asks -/
def Fors (J : It) (g : TG) (tb : TS) (D : Ends) (σ : L2.St) (H1 : Hp) : Prop := ∃ W : Nat → Nat → L2.St → Hp → Prop, (∃ m, W 0 m σ H1) ∧ ∀ i m σ H, W i m σ H →
  (J.stop i H ∧ D.nx σ H) ∨ (J.go i H ∧ ∃ N : L2.St → Hp → Prop, (∀ σ' H', N σ' H' → ∃ m', m' < m ∧ W (i + 1) m' σ' H') ∧ ∀ x H', J.yld i H x H' → g x σ H' fun σ2 H2 => tb { D with nx := N, ct := N, bk := D.nx } σ2 H2)
theorem r_forl {K : PySem.W.Frag} {tl : TE} {g : TG} {tb : TS} {D : Ends} {σ : L2.St} {H : Hp} (h : tl σ H fun x H1 => ∃ a, x = V.ref a ∧ (∃ xs, SqL K H1 a xs) ∧ Fors (Itl K a) g tb D σ H1) : tFor (iList K tl) g tb D σ H := h
theorem r_fort {K : PySem.W.Frag} {tl : TE} {g : TG} {tb : TS} {D : Ends} {σ : L2.St} {H : Hp} (h : tl σ H fun x H1 => ∃ a, x = V.ref a ∧ (∃ xs, SqT K H1 a xs) ∧ Fors (Itt K a) g tb D σ H1) : tFor (iTup K tl) g tb D σ H := h
theorem r_fors {te : TE} {g : TG} {tb : TS} {D : Ends} {σ : L2.St} {H : Hp} (h : te σ H fun v H1 => ∃ x, v = V.str x ∧ Fors (Its x) g tb D σ H1) : tFor (iStr te) g tb D σ H := h
theorem r_forr {ta : TA} {g : TG} {tb : TS} {D : Ends} {σ : L2.St} {H : Hp} (h : ta σ H fun us H1 => ∃ j : Int, us = [V.int j] ∧ -(2 ^ 62) ≤ j ∧ j < 2 ^ 62 ∧ Fors (Itr 0 j.toNat) g tb D σ H1) : tFor (iRng1 ta) g tb D σ H := h
theorem r_forr2 {ta : TA} {g : TG} {tb : TS} {D : Ends} {σ : L2.St} {H : Hp} (h : ta σ H fun us H1 => ∃ i j : Int, us = [V.int i, V.int j] ∧ (-(2 ^ 62) ≤ i ∧ i < 2 ^ 62 ∧ -(2 ^ 62) ≤ j ∧ j < 2 ^ 62) ∧ Fors (Itr i (j - i).toNat) g tb D σ H1) : tFor (iRng2 ta) g tb D σ H := h
theorem pf_m {a b : Str} {v u : V} {r s : List (Str × V)} (h : ¬ b = a) (e : putF a v r = s) : putF a v ((b, u) :: r) = (b, u) :: s := by
  rw [pf_miss h, e]
theorem lk_m {a b : Str} {v u : V} {r : List (Str × V)} (h : ¬ a = b) (e : List.lookup a r = some u) : List.lookup a ((b, v) :: r) = some u := (lk_miss h).trans e
theorem lk_n {a b : Str} {v : V} {r : List (Str × V)} (h : ¬ a = b) (e : List.lookup a r = none) : List.lookup a ((b, v) :: r) = none := (lk_miss h).trans e
/-! ### the data of the program -/
structure Ln where
  item : Str
  ordered : Int
  cents : Int
  pack : Int
  sent : Int
  home : Int
  again : Int
  credited : Int
def lnF (l : Ln) : List (Str × V) := [("item", .str l.item), ("ordered", .int l.ordered), ("cents", .int l.cents), ("pack", .int l.pack), ("sent", .int l.sent), ("home", .int l.home), ("again", .int l.again), ("credited", .int l.credited)]
def odF (ll : Addr) (m : Int) (lm : Addr) : List (Str × V) := [("lines", .ref ll), ("money", .int m), ("marks", .ref lm)]
def bkF (e t : Addr) : List (Str × V) := [("each", .ref e), ("trail", .ref t)]
/-! ### a method that may raise, called in a try -/
def tMX (C : Addr) (m : Str) (sp : Sp) (E : L2.St → XK) (ta : TE) (t : TA) : TE := fun σ H Q => ta σ H fun x H1 => ∃ a dx fs, x = V.ref a ∧ H1 a = some (.ins C dx fs) ∧ fs.lookup m = none ∧ t σ H1 fun vs H2 => sp (x :: vs) H2 Q (E σ)
theorem pe_mX {X : Cx} {CX : CXT} {k : Nat} {f C : Addr} {fd : FuncData} {ps : List Str} {sp : Sp} {E : L2.St → XK} {m : Str} {pos apos : Pos} {e o : Expr} {es : List Expr} {ta : TE} {t : TA} {pl : Sem Bool}
    (ho : PE X o ta) (hc : Cls X.K C) (hm : Meth X.K C m f) (G : FnOk X.prog X.w X.K X.mg X.base CX k f fd ps sp) (room : Room k X.A) (bd : Binds X.K fd ps []) (pass : ∀ σ, PassesAt CX X σ (E σ)) (hargs : PA X (e :: es) t)
    (hstar : starEach (e :: es) X.env = (false, eval e X.env) :: starEach es X.env := by rfl) (hplain : (backTo pos (starEach es X.env)).any (·.1) = false := by rfl)
    (hform : eval (.Call (.Attribute o m apos) (e :: es) [] pos) X.env = (do let ov ← eval o X.env; standAt apos.atName; let (f, first) ← holding [ov] (getMethod ov m pl); callWith pos f first (backTo pos (starEach (e :: es) X.env)) (backToKw pos (keywordEach [] X.env))) := by rfl) :
    PE X (.Call (.Attribute o m apos) (e :: es) [] pos) (tMX C m sp E ta t) := by
  refine ⟨fun pins st σ H Q inv hq => ?_⟩
  refine PySem.W.methodCall_KW (pl := pl) (thn (ho.run pins st σ H _ inv hq) fun u st1 hu => ?_) hform
  obtain ⟨x, H1, inv1, rx, a, dx, fs, ex, ea, hl, q⟩ := hu
  subst ex
  obtain rfl : u = Value.ref a := rx
  refine getmeth_ok inv1 ea hc hm hl ?_
  refine PySem.W.callWith_K (first := [.ref a]) (h₀ := X.base) inv1.ok.mod.kin hm.kp (thn (hargs.run pos pins st1 σ H1 _ inv1 q) fun us st2 hv => ?_) hstar hplain
  obtain ⟨vs, H2, inv2, rv, q2⟩ := hv
  exact ⟨inv2.kIn, run_fnS (us := .ref a :: us) (vs := .ref a :: vs) G room bd (pass σ) inv2 (.cons rfl rv) q2⟩
theorem pe_mX0 {X : Cx} {CX : CXT} {k : Nat} {f C : Addr} {fd : FuncData} {ps : List Str} {sp : Sp} {E : L2.St → XK} {m : Str} {pos apos : Pos} {o : Expr} {ta : TE} {pl : Sem Bool}
    (ho : PE X o ta) (hc : Cls X.K C) (hm : Meth X.K C m f) (G : FnOk X.prog X.w X.K X.mg X.base CX k f fd ps sp) (room : Room k X.A) (bd : Binds X.K fd ps []) (pass : ∀ σ, PassesAt CX X σ (E σ))
    (hform : eval (.Call (.Attribute o m apos) [] [] pos) X.env = (do let ov ← eval o X.env; standAt apos.atName; let (f, first) ← holding [ov] (getMethod ov m pl); callWith pos f first (backTo pos (starEach [] X.env)) (backToKw pos (keywordEach [] X.env))) := by rfl) :
    PE X (.Call (.Attribute o m apos) [] [] pos) (tMX C m sp E ta tNil) := by
  refine ⟨fun pins st σ H Q inv hq => ?_⟩
  refine PySem.W.methodCall_KW (pl := pl) (thn (ho.run pins st σ H _ inv hq) fun u st1 hu => ?_) hform
  obtain ⟨x, H1, inv1, rx, a, dx, fs, ex, ea, hl, q⟩ := hu
  subst ex
  obtain rfl : u = Value.ref a := rx
  refine getmeth_ok inv1 ea hc hm hl ?_
  exact PySem.W.callWith_K0 (first := [.ref a]) inv1.kIn hm.kp (run_fnS (us := [.ref a]) (vs := [.ref a]) G room bd (pass σ) inv1 (.cons rfl .nil) q)
section
variable {σ : L2.St} {H : Hp} {Q : VK} {QB : Bool → Hp → Prop} {D : Ends} {K : PySem.W.Frag}
theorem r_mx {C : Addr} {m : Str} {sp : Sp} {E : L2.St → XK} {ta : TE} {t : TA} (h : ta σ H fun x H1 => ∃ a dx fs, x = V.ref a ∧ H1 a = some (.ins C dx fs) ∧ fs.lookup m = none ∧ t σ H1 fun vs H2 => sp (x :: vs) H2 Q (E σ)) : tMX C m sp E ta t σ H Q := h
/-! ### slices, stores, kinds -/
theorem r_sl {r : V → Option Int → Option Int → Hp → VK → Prop} {te : TE} {tl th : TO} (h : te σ H fun x H1 => tl σ H1 fun l H2 => th σ H2 fun u H3 => r x l u H3 Q) : tSl r te tl th σ H Q := h
theorem r_part {te : TE} {QO : Option Int → Hp → Prop} (h : te σ H fun x H1 => ∃ i, x = V.int i ∧ QO (some i) H1) : tPart te σ H QO := h
theorem r_nopart {QO : Option Int → Hp → Prop} (h : QO none H) : tNoPart σ H QO := h
theorem r_exi {i : Int} {P : Int → Prop} (h : P i) : ∃ j, V.int i = V.int j ∧ P j := ⟨i, rfl, h⟩
theorem r_sll {a : Addr} {xs : List V} {lo hi : Option Int} (hs : SqL K H a xs) (k : ∀ p, H p = none → Q (.ref p) (upd H p (.lst (cutV xs lo hi)))) : rSlL K (.ref a) lo hi H Q := ⟨a, xs, rfl, hs, k⟩
theorem r_asgS {te to ti : TE} (h : te σ H fun x H1 => to σ H1 fun o H2 => ti σ H2 fun i H3 => rSetL o i x H3 fun H4 => D.nx σ H4) : tAsg te (gSub to ti rSetL) D σ H := h
theorem r_setL {p : Addr} {xs : List V} {i : Int} {j : Nat} {v : V} {R : Hp → Prop} (h : H p = some (.lst xs)) (e : i = (j : Int)) (hj : j < xs.length) (q : R (upd H p (.lst (xs.set j v)))) : rSetL (.ref p) (.int i) v H R :=
  ⟨p, xs, i, j, rfl, rfl, h, by unfold ixN; rw [e, if_pos (by omega), if_pos (by omega)]; simp, q⟩
theorem r_isi {x : V} {t : Value} {n : String} {b : Bool} (ty : TyOf K H x t) (hk : PySem.W.kitOne K t (.type n) = some b) (q : Q (.bl b) H) : rIsi K [x, .ty n] H Q := ⟨x, .ty n, t, .type n, b, rfl, .ty n, .base ty, hk, q⟩
theorem r_is_int_int {i : Int} (q : Q (.bl true) H) : rIsi K [.int i, .ty "int"] H Q := r_isi (.int i) (kit_ty (by decide +kernel)) q
theorem r_is_int_bool {i : Int} (q : Q (.bl false) H) : rIsi K [.int i, .ty "bool"] H Q := r_isi (.int i) (kit_ty (by decide +kernel)) q
theorem r_is_int_str {i : Int} (q : Q (.bl false) H) : rIsi K [.int i, .ty "str"] H Q := r_isi (.int i) (kit_ty (by decide +kernel)) q
theorem r_is_str_str {i : Str} (q : Q (.bl true) H) : rIsi K [.str i, .ty "str"] H Q := r_isi (.str i) (kit_ty (by decide +kernel)) q
theorem r_is_str_int {i : Str} (q : Q (.bl false) H) : rIsi K [.str i, .ty "int"] H Q := r_isi (.str i) (kit_ty (by decide +kernel)) q
theorem r_is_str_list {i : Str} (q : Q (.bl false) H) : rIsi K [.str i, .ty "list"] H Q := r_isi (.str i) (kit_ty (by decide +kernel)) q
theorem r_is_lst_list {a : Addr} {xs : List V} (h : H a = some (.lst xs)) (q : Q (.bl true) H) : rIsi K [.ref a, .ty "list"] H Q := r_isi (.lst h) (kit_ty (by decide +kernel)) q
theorem r_is_lst_str {a : Addr} {xs : List V} (h : H a = some (.lst xs)) (q : Q (.bl false) H) : rIsi K [.ref a, .ty "str"] H Q := r_isi (.lst h) (kit_ty (by decide +kernel)) q
theorem r_is_tup_tuple {a : Addr} {xs : List V} (h : H a = some (.tup xs)) (q : Q (.bl true) H) : rIsi K [.ref a, .ty "tuple"] H Q := r_isi (.tup h) (kit_ty (by decide +kernel)) q
end
theorem cut_from {xs : List V} {k : Nat} : cutV xs (some (k : Int)) none = xs.drop k := by
  unfold cutV
  rw [HT.sIx_nat, HT.sIx_none]
  by_cases h : k ≤ xs.length
  · rw [Nat.min_eq_left h, List.take_of_length_le (by simp)]
  · rw [Nat.min_eq_right (by omega), List.drop_of_length_le (Nat.le_refl _), List.drop_of_length_le (by omega)]
    simp

/-! ### readings with the kernel's own name (in a comprehension's block) -/
section
variable {X : Cx} {K : PySem.W.Frag}
theorem ix_listK (e : X.K = K) : IxR X (rIxL K) := by subst e; exact ix_list
theorem ix_tupK (e : X.K = K) : IxR X (rIxT K) := by subst e; exact ix_tup
theorem op_eqDK (e : X.K = K) (hu : X.A.units + 64 < cLine) : OpR X (compareOp .Eq) (rEqD K) := by subst e; exact op_eqD hu
theorem op_neDK (e : X.K = K) (hu : X.A.units + 64 < cLine) : OpR X (compareOp .NotEq) (rNeD K) := by subst e; exact op_neD hu
theorem call_lenK (e : X.K = K) : CallR X (.builtin "len") (fun xs H Q => ∃ p ys, xs = [.ref p] ∧ (SqL K H p ys ∨ SqT K H p ys) ∧ Q (.int ys.length) H) := by subst e; exact call_len_seq
theorem call_listK (e : X.K = K) : CallR X (.type "list") (fun xs H Q => ∃ p ys, xs = [.ref p] ∧ (SqL K H p ys ∨ SqT K H p ys) ∧ ∀ l, H l = none → Q (.ref l) (upd H l (.lst ys))) := by subst e; exact call_list_of
theorem fldK {E : Expr} {ta : TE} {f : Str} (e : X.K = K) (h : PE X E (tFld X.K ta f)) : PE X E (tFld K ta f) := by subst e; exact h
theorem bmK {E : Expr} {T : String} {r : V → List V → Hp → VK → Prop} {to : TE} {t : TA} (e : X.K = K) (h : PE X E (tBM X.K T r to t)) : PE X E (tBM K T r to t) := by subst e; exact h
end
/-! ### data that is compared -/
def dOf : V → PyData
  | .non => .none
  | .bl b => .bool b
  | .int i => .int i
  | .str z => .str z
  | _ => .none
/-- an int, or a text -/
def Sc (v : V) : Prop := (∃ i, v = .int i) ∨ ∃ z, v = .str z ∧ PyData.strOk z = true
theorem Sc.int {i : Int} : Sc (.int i) := .inl ⟨i, rfl⟩
theorem Sc.dp {K : PySem.W.Frag} {H : Hp} {v : V} (h : Sc v) : Dp K H v (dOf v) := by
  rcases h with ⟨i, rfl⟩ | ⟨z, rfl, _⟩
  · exact .int i
  · exact .str z
theorem Sc.lay {v : V} (h : Sc v) : PyData.canLay0 (dOf v) = true ∧ PyData.depth (dOf v) = 0 := by
  rcases h with ⟨i, rfl⟩ | ⟨z, rfl, hz⟩
  · exact ⟨by simp only [dOf, PyData.canLay0], by simp only [dOf, PyData.depth]⟩
  · exact ⟨by simp only [dOf, PyData.canLay0]; exact hz, by simp only [dOf, PyData.depth]⟩
theorem Sc.eqv {v u : V} (h : Sc v) (g : Sc u) : PyData.eqv (dOf v) (dOf u) = decide (v = u) := by
  rcases h with ⟨i, rfl⟩ | ⟨z, rfl, _⟩ <;> rcases g with ⟨j, rfl⟩ | ⟨y, rfl, _⟩
  · simp [dOf, PyData.eqv, Bool.beq_eq_decide_eq]
  · simp [dOf, PyData.eqv]
  · simp [dOf, PyData.eqv]
  · simp [dOf, PyData.eqv, Bool.beq_eq_decide_eq]
def Scs (vs : List V) : Prop := ∀ v, v ∈ vs → Sc v
theorem Scs.nil : Scs [] := fun _ h => by cases h
theorem Scs.cons {v : V} {vs : List V} (h : Sc v) (g : Scs vs) : Scs (v :: vs) := fun u hu => by
  rcases List.mem_cons.mp hu with e | e
  · rw [e]; exact h
  · exact g u e
theorem Scs.dp {K : PySem.W.Frag} {H : Hp} : ∀ {vs : List V}, Scs vs → DpAll K H vs (vs.map dOf)
  | [], _ => .nil
  | v :: vs, h => .cons (h v List.mem_cons_self).dp (Scs.dp fun u hu => h u (List.mem_cons_of_mem _ hu))
theorem Scs.lay : ∀ {vs : List V}, Scs vs → PyData.canLayAll0 (vs.map dOf) = true ∧ PyData.depthAll (vs.map dOf) = 0
  | [], _ => ⟨by simp only [List.map_nil, PyData.canLayAll0], by simp only [List.map_nil, PyData.depthAll]⟩
  | v :: vs, h => by
    obtain ⟨a, b⟩ := (h v List.mem_cons_self).lay
    obtain ⟨c, d⟩ := Scs.lay (vs := vs) fun u hu => h u (List.mem_cons_of_mem _ hu)
    refine ⟨?_, ?_⟩
    · simp only [List.map_cons, PyData.canLayAll0, a, c, Bool.and_self]
    · simp only [List.map_cons, PyData.depthAll, b, d]; rfl
theorem Scs.eqv : ∀ {vs us : List V}, Scs vs → Scs us → PyData.eqvAll (vs.map dOf) (us.map dOf) = decide (vs = us)
  | [], [], _, _ => by simp [PyData.eqvAll]
  | [], u :: us, _, _ => by simp [PyData.eqvAll]
  | v :: vs, [], _, _ => by simp [PyData.eqvAll]
  | v :: vs, u :: us, h, g => by
    have ih := Scs.eqv (vs := vs) (us := us) (fun u hu => h u (List.mem_cons_of_mem _ hu)) fun u hu => g u (List.mem_cons_of_mem _ hu)
    simp only [List.map_cons, PyData.eqvAll, ih, (h v List.mem_cons_self).eqv (g u List.mem_cons_self)]
    simp
/-- a tuple of such -/
def dTup (r : List V) : PyData := .tuple (r.map dOf)
theorem dTup_dp {K : PySem.W.Frag} {H : Hp} {a : Addr} {r : List V} (h : SqT K H a r) (s : Scs r) : Dp K H (.ref a) (dTup r) := .tup h s.dp
theorem dTup_lay {r : List V} (s : Scs r) : PyData.canLay0 (dTup r) = true ∧ PyData.depth (dTup r) = 1 := by
  obtain ⟨a, b⟩ := s.lay
  exact ⟨by simp only [dTup, PyData.canLay0]; exact a, by simp only [dTup, PyData.depth, b]⟩
theorem dTup_shaped {r : List V} (s : Scs r) : SeqAt.shaped (dTup r) = true := by
  obtain ⟨a, b⟩ := dTup_lay s
  unfold SeqAt.shaped
  rw [a, b]
  rfl
theorem dTup_eqv {r q : List V} (s : Scs r) (t : Scs q) : PyData.eqv (dTup r) (dTup q) = decide (r = q) := by
  show PyData.eqv (.tuple _) (.tuple _) = _
  simp only [PyData.eqv]
  exact s.eqv t
/-- a list of such tuples -/
def dRows (rs : List (List V)) : PyData := .list (rs.map dTup)
def TupAt (H : Hp) (v : V) (r : List V) : Prop := ∃ t, v = .ref t ∧ H t = some (.tup r)
def Rws (rs : List (List V)) : Prop := ∀ r, r ∈ rs → Scs r
theorem dRows_all {K : PySem.W.Frag} {H : Hp} : ∀ {xs : List V} {rs : List (List V)}, Paired (TupAt H) xs rs → Rws rs → DpAll K H xs (rs.map dTup)
  | _, _, .nil, _ => .nil
  | _, _, .cons ⟨t, e, h⟩ r, s => by
    subst e
    exact .cons (dTup_dp (SqT.of h) (s _ List.mem_cons_self)) (dRows_all r fun q hq => s q (List.mem_cons_of_mem _ hq))
theorem dRows_dp {K : PySem.W.Frag} {H : Hp} {a : Addr} {xs : List V} {rs : List (List V)} (h : SqL K H a xs) (p : Paired (TupAt H) xs rs) (s : Rws rs) : Dp K H (.ref a) (dRows rs) := .lst h (dRows_all p s)
theorem dRows_lay0 : ∀ {rs : List (List V)}, Rws rs → PyData.canLayAll0 (rs.map dTup) = true ∧ PyData.depthAll (rs.map dTup) ≤ 1
  | [], _ => ⟨by simp only [List.map_nil, PyData.canLayAll0], by simp only [List.map_nil, PyData.depthAll]; omega⟩
  | r :: rs, h => by
    obtain ⟨a, b⟩ := dTup_lay (h r List.mem_cons_self)
    obtain ⟨c, d⟩ := dRows_lay0 (rs := rs) fun u hu => h u (List.mem_cons_of_mem _ hu)
    refine ⟨?_, ?_⟩
    · simp only [List.map_cons, PyData.canLayAll0, a, c, Bool.and_self]
    · simp only [List.map_cons, PyData.depthAll, b]; omega
theorem dRows_lay {rs : List (List V)} (s : Rws rs) : PyData.canLay0 (dRows rs) = true ∧ PyData.depth (dRows rs) ≤ 2 := by
  obtain ⟨a, b⟩ := dRows_lay0 s
  exact ⟨by simp only [dRows, PyData.canLay0]; exact a, by simp only [dRows, PyData.depth]; omega⟩
theorem dRows_shaped {rs : List (List V)} (s : Rws rs) : SeqAt.shaped (dRows rs) = true := by
  obtain ⟨a, b⟩ := dRows_lay s
  unfold SeqAt.shaped
  rw [a, decide_eq_true (by omega)]
  rfl
theorem dRows_eqv0 : ∀ {rs qs : List (List V)}, Rws rs → Rws qs → PyData.eqvAll (rs.map dTup) (qs.map dTup) = decide (rs = qs)
  | [], [], _, _ => by simp [PyData.eqvAll]
  | [], u :: us, _, _ => by simp [PyData.eqvAll]
  | v :: vs, [], _, _ => by simp [PyData.eqvAll]
  | v :: vs, u :: us, h, g => by
    have ih := dRows_eqv0 (rs := vs) (qs := us) (fun u hu => h u (List.mem_cons_of_mem _ hu)) fun u hu => g u (List.mem_cons_of_mem _ hu)
    simp only [List.map_cons, PyData.eqvAll, ih, dTup_eqv (h v List.mem_cons_self) (g u List.mem_cons_self)]
    simp
theorem dRows_eqv {rs qs : List (List V)} (s : Rws rs) (t : Rws qs) : PyData.eqv (dRows rs) (dRows qs) = decide (rs = qs) := by
  show PyData.eqv (.list _) (.list _) = _
  simp only [PyData.eqv]
  exact dRows_eqv0 s t
section
variable {H : Hp} {Q : VK} {K : PySem.W.Frag}
theorem r_neTT {a b : Addr} {r q : List V} (h : SqT K H a r) (g : SqT K H b q) (s : Scs r) (t : Scs q) (k : Q (.bl (!decide (r = q))) H) : rNeD K (.ref a) (.ref b) H Q :=
  ⟨_, _, dTup_dp h s, dTup_dp g t, dTup_shaped s, dTup_shaped t, by rw [dTup_eqv s t]; exact k⟩
theorem r_eqTT {a b : Addr} {r q : List V} (h : SqT K H a r) (g : SqT K H b q) (s : Scs r) (t : Scs q) (k : Q (.bl (decide (r = q))) H) : rEqD K (.ref a) (.ref b) H Q :=
  ⟨_, _, dTup_dp h s, dTup_dp g t, dTup_shaped s, dTup_shaped t, by rw [dTup_eqv s t]; exact k⟩
theorem r_neRR {a b : Addr} {xs ys : List V} {r q : List (List V)} (h : SqL K H a xs) (g : SqL K H b ys) (ph : Paired (TupAt H) xs r) (pg : Paired (TupAt H) ys q) (s : Rws r) (t : Rws q) (k : Q (.bl (!decide (r = q))) H) : rNeD K (.ref a) (.ref b) H Q :=
  ⟨_, _, dRows_dp h ph s, dRows_dp g pg t, dRows_shaped s, dRows_shaped t, by rw [dRows_eqv s t]; exact k⟩
theorem r_eqRR {a b : Addr} {xs ys : List V} {r q : List (List V)} (h : SqL K H a xs) (g : SqL K H b ys) (ph : Paired (TupAt H) xs r) (pg : Paired (TupAt H) ys q) (s : Rws r) (t : Rws q) (k : Q (.bl (decide (r = q))) H) : rEqD K (.ref a) (.ref b) H Q :=
  ⟨_, _, dRows_dp h ph s, dRows_dp g pg t, dRows_shaped s, dRows_shaped t, by rw [dRows_eqv s t]; exact k⟩
theorem sc_shaped {v : V} (s : Sc v) : SeqAt.shaped (dOf v) = true := by
  obtain ⟨a, b⟩ := s.lay
  unfold SeqAt.shaped
  rw [a, b]
  rfl
theorem r_neSS {x y : V} (s : Sc x) (t : Sc y) (k : Q (.bl (!decide (x = y))) H) : rNeD K x y H Q := ⟨_, _, s.dp, t.dp, sc_shaped s, sc_shaped t, by rw [s.eqv t]; exact k⟩
theorem r_eqSS {x y : V} (s : Sc x) (t : Sc y) (k : Q (.bl (decide (x = y))) H) : rEqD K x y H Q := ⟨_, _, s.dp, t.dp, sc_shaped s, sc_shaped t, by rw [s.eqv t]; exact k⟩
theorem r_neRS {a : Addr} {xs : List V} {r : List (List V)} {y : V} (h : SqL K H a xs) (ph : Paired (TupAt H) xs r) (s : Rws r) (t : Sc y) (k : Q (.bl true) H) : rNeD K (.ref a) y H Q :=
  ⟨_, _, dRows_dp h ph s, t.dp, dRows_shaped s, sc_shaped t, by
    have e : PyData.eqv (dRows r) (dOf y) = false := by
      rcases t with ⟨i, rfl⟩ | ⟨z, rfl, _⟩ <;> simp [dRows, dOf, PyData.eqv]
    rw [e]; exact k⟩
end
theorem lk_Line_item (l : Ln) : List.lookup ("item" : Str) (lnF l) = some (.str l.item) := by
  unfold lnF
  exact lk_hit
theorem lk_Line_ordered (l : Ln) : List.lookup ("ordered" : Str) (lnF l) = some (.int l.ordered) := by
  unfold lnF
  exact lk_m (by decide +kernel) (lk_hit)
theorem pt_Line_ordered (l : Ln) (z : Int) : putF "ordered" (.int z) (lnF l) = lnF { l with ordered := z } := by
  unfold lnF
  exact pf_m (by decide +kernel) (pf_hit)
theorem lk_Line_cents (l : Ln) : List.lookup ("cents" : Str) (lnF l) = some (.int l.cents) := by
  unfold lnF
  exact lk_m (by decide +kernel) (lk_m (by decide +kernel) (lk_hit))
theorem pt_Line_cents (l : Ln) (z : Int) : putF "cents" (.int z) (lnF l) = lnF { l with cents := z } := by
  unfold lnF
  exact pf_m (by decide +kernel) (pf_m (by decide +kernel) (pf_hit))
theorem lk_Line_pack (l : Ln) : List.lookup ("pack" : Str) (lnF l) = some (.int l.pack) := by
  unfold lnF
  exact lk_m (by decide +kernel) (lk_m (by decide +kernel) (lk_m (by decide +kernel) (lk_hit)))
theorem pt_Line_pack (l : Ln) (z : Int) : putF "pack" (.int z) (lnF l) = lnF { l with pack := z } := by
  unfold lnF
  exact pf_m (by decide +kernel) (pf_m (by decide +kernel) (pf_m (by decide +kernel) (pf_hit)))
theorem lk_Line_sent (l : Ln) : List.lookup ("sent" : Str) (lnF l) = some (.int l.sent) := by
  unfold lnF
  exact lk_m (by decide +kernel) (lk_m (by decide +kernel) (lk_m (by decide +kernel) (lk_m (by decide +kernel) (lk_hit))))
theorem pt_Line_sent (l : Ln) (z : Int) : putF "sent" (.int z) (lnF l) = lnF { l with sent := z } := by
  unfold lnF
  exact pf_m (by decide +kernel) (pf_m (by decide +kernel) (pf_m (by decide +kernel) (pf_m (by decide +kernel) (pf_hit))))
theorem lk_Line_home (l : Ln) : List.lookup ("home" : Str) (lnF l) = some (.int l.home) := by
  unfold lnF
  exact lk_m (by decide +kernel) (lk_m (by decide +kernel) (lk_m (by decide +kernel) (lk_m (by decide +kernel) (lk_m (by decide +kernel) (lk_hit)))))
theorem pt_Line_home (l : Ln) (z : Int) : putF "home" (.int z) (lnF l) = lnF { l with home := z } := by
  unfold lnF
  exact pf_m (by decide +kernel) (pf_m (by decide +kernel) (pf_m (by decide +kernel) (pf_m (by decide +kernel) (pf_m (by decide +kernel) (pf_hit)))))
theorem lk_Line_again (l : Ln) : List.lookup ("again" : Str) (lnF l) = some (.int l.again) := by
  unfold lnF
  exact lk_m (by decide +kernel) (lk_m (by decide +kernel) (lk_m (by decide +kernel) (lk_m (by decide +kernel) (lk_m (by decide +kernel) (lk_m (by decide +kernel) (lk_hit))))))
theorem pt_Line_again (l : Ln) (z : Int) : putF "again" (.int z) (lnF l) = lnF { l with again := z } := by
  unfold lnF
  exact pf_m (by decide +kernel) (pf_m (by decide +kernel) (pf_m (by decide +kernel) (pf_m (by decide +kernel) (pf_m (by decide +kernel) (pf_m (by decide +kernel) (pf_hit))))))
theorem lk_Line_credited (l : Ln) : List.lookup ("credited" : Str) (lnF l) = some (.int l.credited) := by
  unfold lnF
  exact lk_m (by decide +kernel) (lk_m (by decide +kernel) (lk_m (by decide +kernel) (lk_m (by decide +kernel) (lk_m (by decide +kernel) (lk_m (by decide +kernel) (lk_m (by decide +kernel) (lk_hit)))))))
theorem pt_Line_credited (l : Ln) (z : Int) : putF "credited" (.int z) (lnF l) = lnF { l with credited := z } := by
  unfold lnF
  exact pf_m (by decide +kernel) (pf_m (by decide +kernel) (pf_m (by decide +kernel) (pf_m (by decide +kernel) (pf_m (by decide +kernel) (pf_m (by decide +kernel) (pf_m (by decide +kernel) (pf_hit)))))))
theorem no_Line_kept (l : Ln) : List.lookup ("kept" : Str) (lnF l) = none := by
  unfold lnF
  exact lk_n (by decide +kernel) (lk_n (by decide +kernel) (lk_n (by decide +kernel) (lk_n (by decide +kernel) (lk_n (by decide +kernel) (lk_n (by decide +kernel) (lk_n (by decide +kernel) (lk_n (by decide +kernel) (rfl))))))))
theorem no_Line_to_come (l : Ln) : List.lookup ("to_come" : Str) (lnF l) = none := by
  unfold lnF
  exact lk_n (by decide +kernel) (lk_n (by decide +kernel) (lk_n (by decide +kernel) (lk_n (by decide +kernel) (lk_n (by decide +kernel) (lk_n (by decide +kernel) (lk_n (by decide +kernel) (lk_n (by decide +kernel) (rfl))))))))
theorem no_Line_kept_worth (l : Ln) : List.lookup ("kept_worth" : Str) (lnF l) = none := by
  unfold lnF
  exact lk_n (by decide +kernel) (lk_n (by decide +kernel) (lk_n (by decide +kernel) (lk_n (by decide +kernel) (lk_n (by decide +kernel) (lk_n (by decide +kernel) (lk_n (by decide +kernel) (lk_n (by decide +kernel) (rfl))))))))
theorem no_Line_charge (l : Ln) : List.lookup ("charge" : Str) (lnF l) = none := by
  unfold lnF
  exact lk_n (by decide +kernel) (lk_n (by decide +kernel) (lk_n (by decide +kernel) (lk_n (by decide +kernel) (lk_n (by decide +kernel) (lk_n (by decide +kernel) (lk_n (by decide +kernel) (lk_n (by decide +kernel) (rfl))))))))
theorem no_Line_deliver (l : Ln) : List.lookup ("deliver" : Str) (lnF l) = none := by
  unfold lnF
  exact lk_n (by decide +kernel) (lk_n (by decide +kernel) (lk_n (by decide +kernel) (lk_n (by decide +kernel) (lk_n (by decide +kernel) (lk_n (by decide +kernel) (lk_n (by decide +kernel) (lk_n (by decide +kernel) (rfl))))))))
theorem no_Line_bring (l : Ln) : List.lookup ("bring" : Str) (lnF l) = none := by
  unfold lnF
  exact lk_n (by decide +kernel) (lk_n (by decide +kernel) (lk_n (by decide +kernel) (lk_n (by decide +kernel) (lk_n (by decide +kernel) (lk_n (by decide +kernel) (lk_n (by decide +kernel) (lk_n (by decide +kernel) (rfl))))))))
theorem no_Line_reduce (l : Ln) : List.lookup ("reduce" : Str) (lnF l) = none := by
  unfold lnF
  exact lk_n (by decide +kernel) (lk_n (by decide +kernel) (lk_n (by decide +kernel) (lk_n (by decide +kernel) (lk_n (by decide +kernel) (lk_n (by decide +kernel) (lk_n (by decide +kernel) (lk_n (by decide +kernel) (rfl))))))))
theorem no_Line_numbers (l : Ln) : List.lookup ("numbers" : Str) (lnF l) = none := by
  unfold lnF
  exact lk_n (by decide +kernel) (lk_n (by decide +kernel) (lk_n (by decide +kernel) (lk_n (by decide +kernel) (lk_n (by decide +kernel) (lk_n (by decide +kernel) (lk_n (by decide +kernel) (lk_n (by decide +kernel) (rfl))))))))
theorem lk_Order_lines (ll : Addr) (m : Int) (lm : Addr) : List.lookup ("lines" : Str) (odF ll m lm) = some (.ref ll) := by
  unfold odF
  exact lk_hit
theorem pt_Order_lines (ll : Addr) (m : Int) (lm : Addr) (z : Addr) : putF "lines" (.ref z) (odF ll m lm) = odF z m lm := by
  unfold odF
  exact pf_hit
theorem lk_Order_money (ll : Addr) (m : Int) (lm : Addr) : List.lookup ("money" : Str) (odF ll m lm) = some (.int m) := by
  unfold odF
  exact lk_m (by decide +kernel) (lk_hit)
theorem pt_Order_money (ll : Addr) (m : Int) (lm : Addr) (z : Int) : putF "money" (.int z) (odF ll m lm) = odF ll z lm := by
  unfold odF
  exact pf_m (by decide +kernel) (pf_hit)
theorem lk_Order_marks (ll : Addr) (m : Int) (lm : Addr) : List.lookup ("marks" : Str) (odF ll m lm) = some (.ref lm) := by
  unfold odF
  exact lk_m (by decide +kernel) (lk_m (by decide +kernel) (lk_hit))
theorem pt_Order_marks (ll : Addr) (m : Int) (lm : Addr) (z : Addr) : putF "marks" (.ref z) (odF ll m lm) = odF ll m z := by
  unfold odF
  exact pf_m (by decide +kernel) (pf_m (by decide +kernel) (pf_hit))
theorem no_Order_owing (ll : Addr) (m : Int) (lm : Addr) : List.lookup ("owing" : Str) (odF ll m lm) = none := by
  unfold odF
  exact lk_n (by decide +kernel) (lk_n (by decide +kernel) (lk_n (by decide +kernel) (rfl)))
theorem no_Order_line_of (ll : Addr) (m : Int) (lm : Addr) : List.lookup ("line_of" : Str) (odF ll m lm) = none := by
  unfold odF
  exact lk_n (by decide +kernel) (lk_n (by decide +kernel) (lk_n (by decide +kernel) (rfl)))
theorem no_Order_need_over (ll : Addr) (m : Int) (lm : Addr) : List.lookup ("need_over" : Str) (odF ll m lm) = none := by
  unfold odF
  exact lk_n (by decide +kernel) (lk_n (by decide +kernel) (lk_n (by decide +kernel) (rfl)))
theorem no_Order_turn_line (ll : Addr) (m : Int) (lm : Addr) : List.lookup ("turn_line" : Str) (odF ll m lm) = none := by
  unfold odF
  exact lk_n (by decide +kernel) (lk_n (by decide +kernel) (lk_n (by decide +kernel) (rfl)))
theorem no_Order_take (ll : Addr) (m : Int) (lm : Addr) : List.lookup ("take" : Str) (odF ll m lm) = none := by
  unfold odF
  exact lk_n (by decide +kernel) (lk_n (by decide +kernel) (lk_n (by decide +kernel) (rfl)))
theorem no_Order_mark (ll : Addr) (m : Int) (lm : Addr) : List.lookup ("mark" : Str) (odF ll m lm) = none := by
  unfold odF
  exact lk_n (by decide +kernel) (lk_n (by decide +kernel) (lk_n (by decide +kernel) (rfl)))
theorem lk_Book_each (e t : Addr) : List.lookup ("each" : Str) (bkF e t) = some (.ref e) := by
  unfold bkF
  exact lk_hit
theorem pt_Book_each (e t : Addr) (z : Addr) : putF "each" (.ref z) (bkF e t) = bkF z t := by
  unfold bkF
  exact pf_hit
theorem lk_Book_trail (e t : Addr) : List.lookup ("trail" : Str) (bkF e t) = some (.ref t) := by
  unfold bkF
  exact lk_m (by decide +kernel) (lk_hit)
theorem pt_Book_trail (e t : Addr) (z : Addr) : putF "trail" (.ref z) (bkF e t) = bkF e z := by
  unfold bkF
  exact pf_m (by decide +kernel) (pf_hit)
theorem no_Book_order_of (e t : Addr) : List.lookup ("order_of" : Str) (bkF e t) = none := by
  unfold bkF
  exact lk_n (by decide +kernel) (lk_n (by decide +kernel) (rfl))
theorem no_Book_do (e t : Addr) : List.lookup ("do" : Str) (bkF e t) = none := by
  unfold bkF
  exact lk_n (by decide +kernel) (lk_n (by decide +kernel) (rfl))
theorem no_Book_begin (e t : Addr) : List.lookup ("begin" : Str) (bkF e t) = none := by
  unfold bkF
  exact lk_n (by decide +kernel) (lk_n (by decide +kernel) (rfl))
theorem no_Book_shift (e t : Addr) : List.lookup ("shift" : Str) (bkF e t) = none := by
  unfold bkF
  exact lk_n (by decide +kernel) (lk_n (by decide +kernel) (rfl))
theorem no_Book_one (e t : Addr) : List.lookup ("one" : Str) (bkF e t) = none := by
  unfold bkF
  exact lk_n (by decide +kernel) (lk_n (by decide +kernel) (rfl))
theorem no_Book_need_number (e t : Addr) : List.lookup ("need_number" : Str) (bkF e t) = none := by
  unfold bkF
  exact lk_n (by decide +kernel) (lk_n (by decide +kernel) (rfl))
theorem no_Book_undo (e t : Addr) : List.lookup ("undo" : Str) (bkF e t) = none := by
  unfold bkF
  exact lk_n (by decide +kernel) (lk_n (by decide +kernel) (rfl))
theorem no_Book_orders (e t : Addr) : List.lookup ("orders" : Str) (bkF e t) = none := by
  unfold bkF
  exact lk_n (by decide +kernel) (lk_n (by decide +kernel) (rfl))
theorem no_Book_told (e t : Addr) : List.lookup ("told" : Str) (bkF e t) = none := by
  unfold bkF
  exact lk_n (by decide +kernel) (lk_n (by decide +kernel) (rfl))
theorem no_Book_paid (e t : Addr) : List.lookup ("paid" : Str) (bkF e t) = none := by
  unfold bkF
  exact lk_n (by decide +kernel) (lk_n (by decide +kernel) (rfl))
theorem no_Book_owed (e t : Addr) : List.lookup ("owed" : Str) (bkF e t) = none := by
  unfold bkF
  exact lk_n (by decide +kernel) (lk_n (by decide +kernel) (rfl))
theorem no_Book_rows (e t : Addr) : List.lookup ("rows" : Str) (bkF e t) = none := by
  unfold bkF
  exact lk_n (by decide +kernel) (lk_n (by decide +kernel) (rfl))
theorem no_Book_settled (e t : Addr) : List.lookup ("settled" : Str) (bkF e t) = none := by
  unfold bkF
  exact lk_n (by decide +kernel) (lk_n (by decide +kernel) (rfl))
theorem no_Book_net (e t : Addr) : List.lookup ("net" : Str) (bkF e t) = none := by
  unfold bkF
  exact lk_n (by decide +kernel) (lk_n (by decide +kernel) (rfl))
abbrev N_Worth : List Str := ["pieces", "cents", "pack"]
abbrev P_Worth : List Str := ["pieces", "cents", "pack"]
theorem sc_Worth : FnScope N_Worth P_Worth (defScope sWorth) := ⟨rfl, rfl, rfl, by decide +kernel, rfl, by decide +kernel, by decide +kernel⟩
abbrev N_IsItem : List Str := ["item", "letter"]
abbrev P_IsItem : List Str := ["item"]
theorem sc_IsItem : FnScope N_IsItem P_IsItem (defScope sIsItem) := ⟨rfl, rfl, rfl, by decide +kernel, rfl, by decide +kernel, by decide +kernel⟩
abbrev N_CheckLine : List Str := ["told"]
abbrev P_CheckLine : List Str := ["told"]
theorem sc_CheckLine : FnScope N_CheckLine P_CheckLine (defScope sCheckLine) := ⟨rfl, rfl, rfl, by decide +kernel, rfl, by decide +kernel, by decide +kernel⟩
abbrev N_LineInit : List Str := ["self", "told"]
abbrev P_LineInit : List Str := ["self", "told"]
theorem sc_LineInit : FnScope N_LineInit P_LineInit (defScope sLineInit) := ⟨rfl, rfl, rfl, by decide +kernel, rfl, by decide +kernel, by decide +kernel⟩
abbrev N_LineKept : List Str := ["self"]
abbrev P_LineKept : List Str := ["self"]
theorem sc_LineKept : FnScope N_LineKept P_LineKept (defScope sLineKept) := ⟨rfl, rfl, rfl, by decide +kernel, rfl, by decide +kernel, by decide +kernel⟩
abbrev N_LineToCome : List Str := ["self"]
abbrev P_LineToCome : List Str := ["self"]
theorem sc_LineToCome : FnScope N_LineToCome P_LineToCome (defScope sLineToCome) := ⟨rfl, rfl, rfl, by decide +kernel, rfl, by decide +kernel, by decide +kernel⟩
abbrev N_LineKeptWorth : List Str := ["self"]
abbrev P_LineKeptWorth : List Str := ["self"]
theorem sc_LineKeptWorth : FnScope N_LineKeptWorth P_LineKeptWorth (defScope sLineKeptWorth) := ⟨rfl, rfl, rfl, by decide +kernel, rfl, by decide +kernel, by decide +kernel⟩
abbrev N_LineCharge : List Str := ["self"]
abbrev P_LineCharge : List Str := ["self"]
theorem sc_LineCharge : FnScope N_LineCharge P_LineCharge (defScope sLineCharge) := ⟨rfl, rfl, rfl, by decide +kernel, rfl, by decide +kernel, by decide +kernel⟩
abbrev N_LineDeliver : List Str := ["self", "pieces"]
abbrev P_LineDeliver : List Str := ["self", "pieces"]
theorem sc_LineDeliver : FnScope N_LineDeliver P_LineDeliver (defScope sLineDeliver) := ⟨rfl, rfl, rfl, by decide +kernel, rfl, by decide +kernel, by decide +kernel⟩
abbrev N_LineBring : List Str := ["self", "pieces", "anew"]
abbrev P_LineBring : List Str := ["self", "pieces", "anew"]
theorem sc_LineBring : FnScope N_LineBring P_LineBring (defScope sLineBring) := ⟨rfl, rfl, rfl, by decide +kernel, rfl, by decide +kernel, by decide +kernel⟩
abbrev N_LineReduce : List Str := ["self", "cents"]
abbrev P_LineReduce : List Str := ["self", "cents"]
theorem sc_LineReduce : FnScope N_LineReduce P_LineReduce (defScope sLineReduce) := ⟨rfl, rfl, rfl, by decide +kernel, rfl, by decide +kernel, by decide +kernel⟩
abbrev N_LineNumbers : List Str := ["self"]
abbrev P_LineNumbers : List Str := ["self"]
theorem sc_LineNumbers : FnScope N_LineNumbers P_LineNumbers (defScope sLineNumbers) := ⟨rfl, rfl, rfl, by decide +kernel, rfl, by decide +kernel, by decide +kernel⟩
abbrev N_OrderInit : List Str := ["self", "lines", "told"]
abbrev P_OrderInit : List Str := ["self", "lines"]
theorem sc_OrderInit : FnScope N_OrderInit P_OrderInit (defScope sOrderInit) := ⟨rfl, rfl, rfl, by decide +kernel, rfl, by decide +kernel, by decide +kernel⟩
abbrev N_OrderOwing : List Str := ["self", "line"]
abbrev P_OrderOwing : List Str := ["self"]
theorem sc_OrderOwing : FnScope N_OrderOwing P_OrderOwing (defScope sOrderOwing) := ⟨rfl, rfl, rfl, by decide +kernel, rfl, by decide +kernel, by decide +kernel⟩
abbrev N_OrderLineOf : List Str := ["self", "place"]
abbrev P_OrderLineOf : List Str := ["self", "place"]
theorem sc_OrderLineOf : FnScope N_OrderLineOf P_OrderLineOf (defScope sOrderLineOf) := ⟨rfl, rfl, rfl, by decide +kernel, rfl, by decide +kernel, by decide +kernel⟩
abbrev N_OrderNeedOver : List Str := ["self", "cents"]
abbrev P_OrderNeedOver : List Str := ["self", "cents"]
theorem sc_OrderNeedOver : FnScope N_OrderNeedOver P_OrderNeedOver (defScope sOrderNeedOver) := ⟨rfl, rfl, rfl, by decide +kernel, rfl, by decide +kernel, by decide +kernel⟩
abbrev N_OrderTurnLine : List Str := ["self", "word", "place", "number", "line"]
abbrev P_OrderTurnLine : List Str := ["self", "word", "place", "number"]
theorem sc_OrderTurnLine : FnScope N_OrderTurnLine P_OrderTurnLine (defScope sOrderTurnLine) := ⟨rfl, rfl, rfl, by decide +kernel, rfl, by decide +kernel, by decide +kernel⟩
abbrev N_OrderTake : List Str := ["self", "cents"]
abbrev P_OrderTake : List Str := ["self", "cents"]
theorem sc_OrderTake : FnScope N_OrderTake P_OrderTake (defScope sOrderTake) := ⟨rfl, rfl, rfl, by decide +kernel, rfl, by decide +kernel, by decide +kernel⟩
abbrev N_OrderMark : List Str := ["self", "word", "ahead", "change"]
abbrev P_OrderMark : List Str := ["self", "word", "ahead"]
theorem sc_OrderMark : FnScope N_OrderMark P_OrderMark (defScope sOrderMark) := ⟨rfl, rfl, rfl, by decide +kernel, rfl, by decide +kernel, by decide +kernel⟩
abbrev N_Own : List Str := ["deed", "line"]
abbrev P_Own : List Str := ["deed"]
theorem sc_Own : FnScope N_Own P_Own (defScope sOwn) := ⟨rfl, rfl, rfl, by decide +kernel, rfl, by decide +kernel, by decide +kernel⟩
abbrev N_BookInit : List Str := ["self"]
abbrev P_BookInit : List Str := ["self"]
theorem sc_BookInit : FnScope N_BookInit P_BookInit (defScope sBookInit) := ⟨rfl, rfl, rfl, by decide +kernel, rfl, by decide +kernel, by decide +kernel⟩
abbrev N_BookOrderOf : List Str := ["self", "number"]
abbrev P_BookOrderOf : List Str := ["self", "number"]
theorem sc_BookOrderOf : FnScope N_BookOrderOf P_BookOrderOf (defScope sBookOrderOf) := ⟨rfl, rfl, rfl, by decide +kernel, rfl, by decide +kernel, by decide +kernel⟩
abbrev N_BookDo : List Str := ["self", "deed", "changes"]
abbrev P_BookDo : List Str := ["self", "deed"]
theorem sc_BookDo : FnScope N_BookDo P_BookDo (defScope sBookDo) := ⟨rfl, rfl, rfl, by decide +kernel, rfl, by decide +kernel, by decide +kernel⟩
abbrev N_BookBegin : List Str := ["self", "lines", "told"]
abbrev P_BookBegin : List Str := ["self", "lines"]
theorem sc_BookBegin : FnScope N_BookBegin P_BookBegin (defScope sBookBegin) := ⟨rfl, rfl, rfl, by decide +kernel, rfl, by decide +kernel, by decide +kernel⟩
abbrev N_BookShift : List Str := ["self", "deed", "first", "other", "ahead"]
abbrev P_BookShift : List Str := ["self", "deed"]
theorem sc_BookShift : FnScope N_BookShift P_BookShift (defScope sBookShift) := ⟨rfl, rfl, rfl, by decide +kernel, rfl, by decide +kernel, by decide +kernel⟩
abbrev N_BookOne : List Str := ["self", "deed", "order", "number", "ahead"]
abbrev P_BookOne : List Str := ["self", "deed"]
theorem sc_BookOne : FnScope N_BookOne P_BookOne (defScope sBookOne) := ⟨rfl, rfl, rfl, by decide +kernel, rfl, by decide +kernel, by decide +kernel⟩
abbrev N_BookNeedNumber : List Str := ["self", "number"]
abbrev P_BookNeedNumber : List Str := ["self", "number"]
theorem sc_BookNeedNumber : FnScope N_BookNeedNumber P_BookNeedNumber (defScope sBookNeedNumber) := ⟨rfl, rfl, rfl, by decide +kernel, rfl, by decide +kernel, by decide +kernel⟩
abbrev N_BookOrders : List Str := ["self"]
abbrev P_BookOrders : List Str := ["self"]
theorem sc_BookOrders : FnScope N_BookOrders P_BookOrders (defScope sBookOrders) := ⟨rfl, rfl, rfl, by decide +kernel, rfl, by decide +kernel, by decide +kernel⟩
abbrev N_BookTold : List Str := ["self", "order", "line"]
abbrev P_BookTold : List Str := ["self", "order"]
theorem sc_BookTold : FnScope N_BookTold P_BookTold (defScope sBookTold) := ⟨rfl, rfl, rfl, by decide +kernel, rfl, by decide +kernel, by decide +kernel⟩
abbrev N_BookPaid : List Str := ["self", "order"]
abbrev P_BookPaid : List Str := ["self", "order"]
theorem sc_BookPaid : FnScope N_BookPaid P_BookPaid (defScope sBookPaid) := ⟨rfl, rfl, rfl, by decide +kernel, rfl, by decide +kernel, by decide +kernel⟩
abbrev N_BookOwed : List Str := ["self", "order"]
abbrev P_BookOwed : List Str := ["self", "order"]
theorem sc_BookOwed : FnScope N_BookOwed P_BookOwed (defScope sBookOwed) := ⟨rfl, rfl, rfl, by decide +kernel, rfl, by decide +kernel, by decide +kernel⟩
abbrev N_BookRows : List Str := ["self", "order"]
abbrev P_BookRows : List Str := ["self", "order"]
theorem sc_BookRows : FnScope N_BookRows P_BookRows (defScope sBookRows) := ⟨rfl, rfl, rfl, by decide +kernel, rfl, by decide +kernel, by decide +kernel⟩
abbrev N_LWhole : List Str := ["_law_found"]
abbrev P_LWhole : List Str := ["_law_found"]
theorem sc_LWhole : FnScope N_LWhole P_LWhole (defScope sLWhole) := ⟨rfl, rfl, rfl, by decide +kernel, rfl, by decide +kernel, by decide +kernel⟩
abbrev N_LKeptWorth : List Str := ["_law_line", "_law_told"]
abbrev P_LKeptWorth : List Str := ["_law_line", "_law_told"]
theorem sc_LKeptWorth : FnScope N_LKeptWorth P_LKeptWorth (defScope sLKeptWorth) := ⟨rfl, rfl, rfl, by decide +kernel, rfl, by decide +kernel, by decide +kernel⟩
abbrev N_LMost : List Str := ["_law_word", "_law_at", "_law_place", "_law_orders", "_law_book", "_law_told"]
abbrev P_LMost : List Str := ["_law_word", "_law_at", "_law_place", "_law_orders", "_law_book"]
theorem sc_LMost : FnScope N_LMost P_LMost (defScope sLMost) := ⟨rfl, rfl, rfl, by decide +kernel, rfl, by decide +kernel, by decide +kernel⟩
abbrev N_LPlaceBy : List Str := ["_law_cell", "_law_prime", "_law_size", "_law_some"]
abbrev P_LPlaceBy : List Str := ["_law_cell", "_law_prime", "_law_size"]
theorem sc_LPlaceBy : FnScope N_LPlaceBy P_LPlaceBy (defScope sLPlaceBy) := ⟨rfl, rfl, rfl, by decide +kernel, rfl, by decide +kernel, by decide +kernel⟩
abbrev N_LNumberBy : List Str := ["_law_cell", "_law_most_here", "_law_way"]
abbrev P_LNumberBy : List Str := ["_law_cell", "_law_most_here"]
theorem sc_LNumberBy : FnScope N_LNumberBy P_LNumberBy (defScope sLNumberBy) := ⟨rfl, rfl, rfl, by decide +kernel, rfl, by decide +kernel, by decide +kernel⟩
abbrev N_LItemBy : List Str := ["_law_cell", "_law_some", "_law_k"]
abbrev P_LItemBy : List Str := ["_law_cell"]
theorem sc_LItemBy : FnScope N_LItemBy P_LItemBy (defScope sLItemBy) := ⟨rfl, rfl, rfl, by decide +kernel, rfl, by decide +kernel, by decide +kernel⟩
abbrev N_LLinesBy : List Str := ["_law_cell", "_law_lines", "_law_many", "_law_k", "_law_more", "_law_item"]
abbrev P_LLinesBy : List Str := ["_law_cell"]
theorem sc_LLinesBy : FnScope N_LLinesBy P_LLinesBy (defScope sLLinesBy) := ⟨rfl, rfl, rfl, by decide +kernel, rfl, by decide +kernel, by decide +kernel⟩
abbrev N_LDeedBy : List Str := ["_law_cell", "_law_more", "_law_orders", "_law_book", "_law_words", "_law_word", "_law_at", "_law_other", "_law_size", "_law_place"]
abbrev P_LDeedBy : List Str := ["_law_cell", "_law_more", "_law_orders", "_law_book"]
theorem sc_LDeedBy : FnScope N_LDeedBy P_LDeedBy (defScope sLDeedBy) := ⟨rfl, rfl, rfl, by decide +kernel, rfl, by decide +kernel, by decide +kernel⟩
abbrev N_LHanded : List Str := ["_law_deed"]
abbrev P_LHanded : List Str := ["_law_deed"]
theorem sc_LHanded : FnScope N_LHanded P_LHanded (defScope sLHanded) := ⟨rfl, rfl, rfl, by decide +kernel, rfl, by decide +kernel, by decide +kernel⟩
abbrev N_LTried : List Str := ["_law_book", "_law_deed"]
abbrev P_LTried : List Str := ["_law_book", "_law_deed"]
theorem sc_LTried : FnScope N_LTried P_LTried (defScope sLTried) := ⟨rfl, rfl, rfl, by decide +kernel, rfl, by decide +kernel, by decide +kernel⟩
abbrev N_LLineStands : List Str := ["_law_line", "_law_told", "_law_part"]
abbrev P_LLineStands : List Str := ["_law_line", "_law_told"]
theorem sc_LLineStands : FnScope N_LLineStands P_LLineStands (defScope sLLineStands) := ⟨rfl, rfl, rfl, by decide +kernel, rfl, by decide +kernel, by decide +kernel⟩
abbrev N_LOrderStands : List Str := ["_law_book", "_law_at", "_law_lines", "_law_told", "_law_rows", "_law_paid", "_law_owed", "_law_charges", "_law_k", "_law_row"]
abbrev P_LOrderStands : List Str := ["_law_book", "_law_at", "_law_lines"]
theorem sc_LOrderStands : FnScope N_LOrderStands P_LOrderStands (defScope sLOrderStands) := ⟨rfl, rfl, rfl, by decide +kernel, rfl, by decide +kernel, by decide +kernel⟩
abbrev N_LSeen : List Str := ["_law_book", "_law_many", "_law_kept", "_law_found", "_law_at", "_law_lines", "_law_rows"]
abbrev P_LSeen : List Str := ["_law_book", "_law_many", "_law_kept"]
theorem sc_LSeen : FnScope N_LSeen P_LSeen (defScope sLSeen) := ⟨rfl, rfl, rfl, by decide +kernel, rfl, by decide +kernel, by decide +kernel⟩
abbrev N_LKeptWell : List Str := ["_law_kept", "_law_pair"]
abbrev P_LKeptWell : List Str := ["_law_kept"]
theorem sc_LKeptWell : FnScope N_LKeptWell P_LKeptWell (defScope sLKeptWell) := ⟨rfl, rfl, rfl, by decide +kernel, rfl, by decide +kernel, by decide +kernel⟩
abbrev N_LChanged : List Str := ["_law_deed", "_law_found", "_law_ahead", "_law_behind", "_law_side", "_law_at", "_law_pair", "_law_cents", "_law_one"]
abbrev P_LChanged : List Str := ["_law_deed", "_law_found", "_law_ahead", "_law_behind"]
theorem sc_LChanged : FnScope N_LChanged P_LChanged (defScope sLChanged) := ⟨rfl, rfl, rfl, by decide +kernel, rfl, by decide +kernel, by decide +kernel⟩
abbrev N_LAllStand : List Str := ["_law_book", "_law_orders", "_law_at"]
abbrev P_LAllStand : List Str := ["_law_book", "_law_orders"]
theorem sc_LAllStand : FnScope N_LAllStand P_LAllStand (defScope sLAllStand) := ⟨rfl, rfl, rfl, by decide +kernel, rfl, by decide +kernel, by decide +kernel⟩
abbrev N_Law : List Str := ["_law_script", "_law_book", "_law_orders", "_law_kept", "_law_k", "_law_deed", "_law_ahead", "_law_found"]
abbrev P_Law : List Str := ["_law_script"]
theorem sc_Law : FnScope N_Law P_Law (defScope sLaw) := ⟨rfl, rfl, rfl, by decide +kernel, rfl, by decide +kernel, by decide +kernel⟩
theorem Tx.b_Worth {w : World} {K : PySem.W.Frag} {mg : Str → Option Value} (T : Tx w K mg) : Binds K (fdO K dWorth.at_) P_Worth [] := T.f_Worth.bindsN fun _ _ _ _ _ _ us hl => match us, hl with | [_, _, _], _ => rfl
theorem Tx.b_IsItem {w : World} {K : PySem.W.Frag} {mg : Str → Option Value} (T : Tx w K mg) : Binds K (fdO K dIsItem.at_) P_IsItem [] := T.f_IsItem.bindsN fun _ _ _ _ _ _ us hl => match us, hl with | [_], _ => rfl
theorem Tx.b_CheckLine {w : World} {K : PySem.W.Frag} {mg : Str → Option Value} (T : Tx w K mg) : Binds K (fdO K dCheckLine.at_) P_CheckLine [] := T.f_CheckLine.bindsN fun _ _ _ _ _ _ us hl => match us, hl with | [_], _ => rfl
theorem Tx.b_LineInit {w : World} {K : PySem.W.Frag} {mg : Str → Option Value} (T : Tx w K mg) : Binds K (fdO K dLineInit.at_) P_LineInit [] := T.f_LineInit.bindsN fun _ _ _ _ _ _ us hl => match us, hl with | [_, _], _ => rfl
theorem Tx.b_LineKept {w : World} {K : PySem.W.Frag} {mg : Str → Option Value} (T : Tx w K mg) : Binds K (fdO K dLineKept.at_) P_LineKept [] := T.f_LineKept.bindsN fun _ _ _ _ _ _ us hl => match us, hl with | [_], _ => rfl
theorem Tx.b_LineToCome {w : World} {K : PySem.W.Frag} {mg : Str → Option Value} (T : Tx w K mg) : Binds K (fdO K dLineToCome.at_) P_LineToCome [] := T.f_LineToCome.bindsN fun _ _ _ _ _ _ us hl => match us, hl with | [_], _ => rfl
theorem Tx.b_LineKeptWorth {w : World} {K : PySem.W.Frag} {mg : Str → Option Value} (T : Tx w K mg) : Binds K (fdO K dLineKeptWorth.at_) P_LineKeptWorth [] := T.f_LineKeptWorth.bindsN fun _ _ _ _ _ _ us hl => match us, hl with | [_], _ => rfl
theorem Tx.b_LineCharge {w : World} {K : PySem.W.Frag} {mg : Str → Option Value} (T : Tx w K mg) : Binds K (fdO K dLineCharge.at_) P_LineCharge [] := T.f_LineCharge.bindsN fun _ _ _ _ _ _ us hl => match us, hl with | [_], _ => rfl
theorem Tx.b_LineDeliver {w : World} {K : PySem.W.Frag} {mg : Str → Option Value} (T : Tx w K mg) : Binds K (fdO K dLineDeliver.at_) P_LineDeliver [] := T.f_LineDeliver.bindsN fun _ _ _ _ _ _ us hl => match us, hl with | [_, _], _ => rfl
theorem Tx.b_LineBring {w : World} {K : PySem.W.Frag} {mg : Str → Option Value} (T : Tx w K mg) : Binds K (fdO K dLineBring.at_) P_LineBring [] := T.f_LineBring.bindsN fun _ _ _ _ _ _ us hl => match us, hl with | [_, _, _], _ => rfl
theorem Tx.b_LineReduce {w : World} {K : PySem.W.Frag} {mg : Str → Option Value} (T : Tx w K mg) : Binds K (fdO K dLineReduce.at_) P_LineReduce [] := T.f_LineReduce.bindsN fun _ _ _ _ _ _ us hl => match us, hl with | [_, _], _ => rfl
theorem Tx.b_LineNumbers {w : World} {K : PySem.W.Frag} {mg : Str → Option Value} (T : Tx w K mg) : Binds K (fdO K dLineNumbers.at_) P_LineNumbers [] := T.f_LineNumbers.bindsN fun _ _ _ _ _ _ us hl => match us, hl with | [_], _ => rfl
theorem Tx.b_OrderInit {w : World} {K : PySem.W.Frag} {mg : Str → Option Value} (T : Tx w K mg) : Binds K (fdO K dOrderInit.at_) P_OrderInit [] := T.f_OrderInit.bindsN fun _ _ _ _ _ _ us hl => match us, hl with | [_, _], _ => rfl
theorem Tx.b_OrderOwing {w : World} {K : PySem.W.Frag} {mg : Str → Option Value} (T : Tx w K mg) : Binds K (fdO K dOrderOwing.at_) P_OrderOwing [] := T.f_OrderOwing.bindsN fun _ _ _ _ _ _ us hl => match us, hl with | [_], _ => rfl
theorem Tx.b_OrderLineOf {w : World} {K : PySem.W.Frag} {mg : Str → Option Value} (T : Tx w K mg) : Binds K (fdO K dOrderLineOf.at_) P_OrderLineOf [] := T.f_OrderLineOf.bindsN fun _ _ _ _ _ _ us hl => match us, hl with | [_, _], _ => rfl
theorem Tx.b_OrderNeedOver {w : World} {K : PySem.W.Frag} {mg : Str → Option Value} (T : Tx w K mg) : Binds K (fdO K dOrderNeedOver.at_) P_OrderNeedOver [] := T.f_OrderNeedOver.bindsN fun _ _ _ _ _ _ us hl => match us, hl with | [_, _], _ => rfl
theorem Tx.b_OrderTurnLine {w : World} {K : PySem.W.Frag} {mg : Str → Option Value} (T : Tx w K mg) : Binds K (fdO K dOrderTurnLine.at_) P_OrderTurnLine [] := T.f_OrderTurnLine.bindsN fun _ _ _ _ _ _ us hl => match us, hl with | [_, _, _, _], _ => rfl
theorem Tx.b_OrderTake {w : World} {K : PySem.W.Frag} {mg : Str → Option Value} (T : Tx w K mg) : Binds K (fdO K dOrderTake.at_) P_OrderTake [] := T.f_OrderTake.bindsN fun _ _ _ _ _ _ us hl => match us, hl with | [_, _], _ => rfl
theorem Tx.b_OrderMark {w : World} {K : PySem.W.Frag} {mg : Str → Option Value} (T : Tx w K mg) : Binds K (fdO K dOrderMark.at_) P_OrderMark [] := T.f_OrderMark.bindsN fun _ _ _ _ _ _ us hl => match us, hl with | [_, _, _], _ => rfl
theorem Tx.b_Own {w : World} {K : PySem.W.Frag} {mg : Str → Option Value} (T : Tx w K mg) : Binds K (fdO K dOwn.at_) P_Own [] := T.f_Own.bindsN fun _ _ _ _ _ _ us hl => match us, hl with | [_], _ => rfl
theorem Tx.b_BookInit {w : World} {K : PySem.W.Frag} {mg : Str → Option Value} (T : Tx w K mg) : Binds K (fdO K dBookInit.at_) P_BookInit [] := T.f_BookInit.bindsN fun _ _ _ _ _ _ us hl => match us, hl with | [_], _ => rfl
theorem Tx.b_BookOrderOf {w : World} {K : PySem.W.Frag} {mg : Str → Option Value} (T : Tx w K mg) : Binds K (fdO K dBookOrderOf.at_) P_BookOrderOf [] := T.f_BookOrderOf.bindsN fun _ _ _ _ _ _ us hl => match us, hl with | [_, _], _ => rfl
theorem Tx.b_BookDo {w : World} {K : PySem.W.Frag} {mg : Str → Option Value} (T : Tx w K mg) : Binds K (fdO K dBookDo.at_) P_BookDo [] := T.f_BookDo.bindsN fun _ _ _ _ _ _ us hl => match us, hl with | [_, _], _ => rfl
theorem Tx.b_BookBegin {w : World} {K : PySem.W.Frag} {mg : Str → Option Value} (T : Tx w K mg) : Binds K (fdO K dBookBegin.at_) P_BookBegin [] := T.f_BookBegin.bindsN fun _ _ _ _ _ _ us hl => match us, hl with | [_, _], _ => rfl
theorem Tx.b_BookShift {w : World} {K : PySem.W.Frag} {mg : Str → Option Value} (T : Tx w K mg) : Binds K (fdO K dBookShift.at_) P_BookShift [] := T.f_BookShift.bindsN fun _ _ _ _ _ _ us hl => match us, hl with | [_, _], _ => rfl
theorem Tx.b_BookOne {w : World} {K : PySem.W.Frag} {mg : Str → Option Value} (T : Tx w K mg) : Binds K (fdO K dBookOne.at_) P_BookOne [] := T.f_BookOne.bindsN fun _ _ _ _ _ _ us hl => match us, hl with | [_, _], _ => rfl
theorem Tx.b_BookNeedNumber {w : World} {K : PySem.W.Frag} {mg : Str → Option Value} (T : Tx w K mg) : Binds K (fdO K dBookNeedNumber.at_) P_BookNeedNumber [] := T.f_BookNeedNumber.bindsN fun _ _ _ _ _ _ us hl => match us, hl with | [_, _], _ => rfl
theorem Tx.b_BookOrders {w : World} {K : PySem.W.Frag} {mg : Str → Option Value} (T : Tx w K mg) : Binds K (fdO K dBookOrders.at_) P_BookOrders [] := T.f_BookOrders.bindsN fun _ _ _ _ _ _ us hl => match us, hl with | [_], _ => rfl
theorem Tx.b_BookTold {w : World} {K : PySem.W.Frag} {mg : Str → Option Value} (T : Tx w K mg) : Binds K (fdO K dBookTold.at_) P_BookTold [] := T.f_BookTold.bindsN fun _ _ _ _ _ _ us hl => match us, hl with | [_, _], _ => rfl
theorem Tx.b_BookPaid {w : World} {K : PySem.W.Frag} {mg : Str → Option Value} (T : Tx w K mg) : Binds K (fdO K dBookPaid.at_) P_BookPaid [] := T.f_BookPaid.bindsN fun _ _ _ _ _ _ us hl => match us, hl with | [_, _], _ => rfl
theorem Tx.b_BookOwed {w : World} {K : PySem.W.Frag} {mg : Str → Option Value} (T : Tx w K mg) : Binds K (fdO K dBookOwed.at_) P_BookOwed [] := T.f_BookOwed.bindsN fun _ _ _ _ _ _ us hl => match us, hl with | [_, _], _ => rfl
theorem Tx.b_BookRows {w : World} {K : PySem.W.Frag} {mg : Str → Option Value} (T : Tx w K mg) : Binds K (fdO K dBookRows.at_) P_BookRows [] := T.f_BookRows.bindsN fun _ _ _ _ _ _ us hl => match us, hl with | [_, _], _ => rfl
theorem Tx.b_LWhole {w : World} {K : PySem.W.Frag} {mg : Str → Option Value} (T : Tx w K mg) : Binds K (fdO K dLWhole.at_) P_LWhole [] := T.f_LWhole.bindsN fun _ _ _ _ _ _ us hl => match us, hl with | [_], _ => rfl
theorem Tx.b_LKeptWorth {w : World} {K : PySem.W.Frag} {mg : Str → Option Value} (T : Tx w K mg) : Binds K (fdO K dLKeptWorth.at_) P_LKeptWorth [] := T.f_LKeptWorth.bindsN fun _ _ _ _ _ _ us hl => match us, hl with | [_, _], _ => rfl
theorem Tx.b_LMost {w : World} {K : PySem.W.Frag} {mg : Str → Option Value} (T : Tx w K mg) : Binds K (fdO K dLMost.at_) P_LMost [] := T.f_LMost.bindsN fun _ _ _ _ _ _ us hl => match us, hl with | [_, _, _, _, _], _ => rfl
theorem Tx.b_LPlaceBy {w : World} {K : PySem.W.Frag} {mg : Str → Option Value} (T : Tx w K mg) : Binds K (fdO K dLPlaceBy.at_) P_LPlaceBy [] := T.f_LPlaceBy.bindsN fun _ _ _ _ _ _ us hl => match us, hl with | [_, _, _], _ => rfl
theorem Tx.b_LNumberBy {w : World} {K : PySem.W.Frag} {mg : Str → Option Value} (T : Tx w K mg) : Binds K (fdO K dLNumberBy.at_) P_LNumberBy [] := T.f_LNumberBy.bindsN fun _ _ _ _ _ _ us hl => match us, hl with | [_, _], _ => rfl
theorem Tx.b_LItemBy {w : World} {K : PySem.W.Frag} {mg : Str → Option Value} (T : Tx w K mg) : Binds K (fdO K dLItemBy.at_) P_LItemBy [] := T.f_LItemBy.bindsN fun _ _ _ _ _ _ us hl => match us, hl with | [_], _ => rfl
theorem Tx.b_LLinesBy {w : World} {K : PySem.W.Frag} {mg : Str → Option Value} (T : Tx w K mg) : Binds K (fdO K dLLinesBy.at_) P_LLinesBy [] := T.f_LLinesBy.bindsN fun _ _ _ _ _ _ us hl => match us, hl with | [_], _ => rfl
theorem Tx.b_LDeedBy {w : World} {K : PySem.W.Frag} {mg : Str → Option Value} (T : Tx w K mg) : Binds K (fdO K dLDeedBy.at_) P_LDeedBy [] := T.f_LDeedBy.bindsN fun _ _ _ _ _ _ us hl => match us, hl with | [_, _, _, _], _ => rfl
theorem Tx.b_LHanded {w : World} {K : PySem.W.Frag} {mg : Str → Option Value} (T : Tx w K mg) : Binds K (fdO K dLHanded.at_) P_LHanded [] := T.f_LHanded.bindsN fun _ _ _ _ _ _ us hl => match us, hl with | [_], _ => rfl
theorem Tx.b_LTried {w : World} {K : PySem.W.Frag} {mg : Str → Option Value} (T : Tx w K mg) : Binds K (fdO K dLTried.at_) P_LTried [] := T.f_LTried.bindsN fun _ _ _ _ _ _ us hl => match us, hl with | [_, _], _ => rfl
theorem Tx.b_LLineStands {w : World} {K : PySem.W.Frag} {mg : Str → Option Value} (T : Tx w K mg) : Binds K (fdO K dLLineStands.at_) P_LLineStands [] := T.f_LLineStands.bindsN fun _ _ _ _ _ _ us hl => match us, hl with | [_, _], _ => rfl
theorem Tx.b_LOrderStands {w : World} {K : PySem.W.Frag} {mg : Str → Option Value} (T : Tx w K mg) : Binds K (fdO K dLOrderStands.at_) P_LOrderStands [] := T.f_LOrderStands.bindsN fun _ _ _ _ _ _ us hl => match us, hl with | [_, _, _], _ => rfl
theorem Tx.b_LSeen {w : World} {K : PySem.W.Frag} {mg : Str → Option Value} (T : Tx w K mg) : Binds K (fdO K dLSeen.at_) P_LSeen [] := T.f_LSeen.bindsN fun _ _ _ _ _ _ us hl => match us, hl with | [_, _, _], _ => rfl
theorem Tx.b_LKeptWell {w : World} {K : PySem.W.Frag} {mg : Str → Option Value} (T : Tx w K mg) : Binds K (fdO K dLKeptWell.at_) P_LKeptWell [] := T.f_LKeptWell.bindsN fun _ _ _ _ _ _ us hl => match us, hl with | [_], _ => rfl
theorem Tx.b_LChanged {w : World} {K : PySem.W.Frag} {mg : Str → Option Value} (T : Tx w K mg) : Binds K (fdO K dLChanged.at_) P_LChanged [] := T.f_LChanged.bindsN fun _ _ _ _ _ _ us hl => match us, hl with | [_, _, _, _], _ => rfl
theorem Tx.b_LAllStand {w : World} {K : PySem.W.Frag} {mg : Str → Option Value} (T : Tx w K mg) : Binds K (fdO K dLAllStand.at_) P_LAllStand [] := T.f_LAllStand.bindsN fun _ _ _ _ _ _ us hl => match us, hl with | [_, _], _ => rfl
theorem Tx.b_Law {w : World} {K : PySem.W.Frag} {mg : Str → Option Value} (T : Tx w K mg) : Binds K (fdO K dLaw.at_) P_Law [] := T.f_Law.bindsN fun _ _ _ _ _ _ us hl => match us, hl with | [_], _ => rfl
theorem runF (w : World) : HandSHeadRun.RunEq R qv hk ob 20000 names (w.withFollow "special-get-raises" false) := by
  intro os
  kernel_rfl
theorem runT (w : World) : HandSHeadRun.RunEq R qv hk ob 20000 names (w.withFollow "special-get-raises" true) := by
  intro os
  kernel_rfl
theorem run (w : World) : HandSHeadRun.RunEq R qv hk ob 20000 names w := PySem.W.byRow2 "special-get-raises" (P := fun w => HandSHeadRun.RunEq R qv hk ob 20000 names w) runF runT w
local macro_rules | `(tactic| walk_at "rd1") => `(tactic| with_reducible first
  | refine r_gn ?_ | refine r_seq ?_ | refine r_asg ?_ | refine r_ret ?_ | refine r_retN ?_ | refine r_drop ?_ | refine r_ifs ?_ | refine r_next ?_ | refine r_var rfl ?_ | refine r_c ?_ | refine r_op ?_ | refine r_un ?_
  | refine r_U ?_ | refine r_I0 ?_ | refine r_eqI ?_ | refine r_neI ?_ | refine r_eqS ?_ | refine r_neS ?_ | refine r_test ?_ | refine r_tB ?_ | refine r_exb ?_ | refine r_and ?_ | refine r_or ?_ | refine r_not ?_
  | refine r_andV ?_ | refine r_orV ?_ | refine r_notV ?_ | refine r_ifE ?_ | refine r_nil ?_ | refine r_cons ?_ | refine r_cb ?_ | refine r_tup ?_ | refine r_lst ?_ | refine r_call ?_ | refine r_callS ?_ | refine r_meth ?_ | refine r_fld ?_ | refine r_sfld ?_
  | refine r_lcl ?_ | refine r_lct ?_ | refine r_lcr ?_ | refine r_forl ?_ | refine r_fort ?_ | refine r_fors ?_ | refine r_forr ?_ | refine r_forr2 ?_
  | refine r_mx ?_ | refine r_sl ?_ | refine r_part ?_ | refine r_nopart ?_ | refine r_exi ?_ | refine r_asgS ?_ | refine r_is_int_int ?_ | refine r_is_int_bool ?_ | refine r_is_int_str ?_ | refine r_is_str_str ?_ | refine r_is_str_int ?_ | refine r_is_str_list ?_
  | refine r_make ?_ | refine r_bm ?_ | refine r_chain ?_ | refine r_itT ?_ | refine r_itF ?_ | refine r_itnT ?_ | refine r_itnF ?_)
local macro_rules | `(tactic| walk_at "rs1") => `(tactic| with_reducible first
  | refine r_gn ?_ | refine r_asg ?_ | refine r_ret ?_ | refine r_retN ?_ | refine r_drop ?_ | refine r_ifs ?_ | refine r_next ?_ | refine r_var rfl ?_ | refine r_c ?_ | refine r_op ?_ | refine r_un ?_
  | refine r_U ?_ | refine r_I0 ?_ | refine r_eqI ?_ | refine r_neI ?_ | refine r_eqS ?_ | refine r_neS ?_ | refine r_test ?_ | refine r_tB ?_ | refine r_exb ?_ | refine r_and ?_ | refine r_or ?_ | refine r_not ?_
  | refine r_andV ?_ | refine r_orV ?_ | refine r_notV ?_ | refine r_ifE ?_ | refine r_nil ?_ | refine r_cons ?_ | refine r_cb ?_ | refine r_tup ?_ | refine r_lst ?_ | refine r_call ?_ | refine r_callS ?_ | refine r_meth ?_ | refine r_fld ?_ | refine r_sfld ?_
  | refine r_lcl ?_ | refine r_lct ?_ | refine r_lcr ?_ | refine r_forl ?_ | refine r_fort ?_ | refine r_fors ?_ | refine r_forr ?_ | refine r_forr2 ?_
  | refine r_mx ?_ | refine r_sl ?_ | refine r_part ?_ | refine r_nopart ?_ | refine r_exi ?_ | refine r_asgS ?_ | refine r_is_int_int ?_ | refine r_is_int_bool ?_ | refine r_is_int_str ?_ | refine r_is_str_str ?_ | refine r_is_str_int ?_ | refine r_is_str_list ?_
  | refine r_make ?_ | refine r_bm ?_ | refine r_chain ?_ | refine r_itT ?_ | refine r_itF ?_ | refine r_itnT ?_ | refine r_itnF ?_)
local macro_rules | `(tactic| walk_at "rs") => `(tactic| repeat walk_at "rs1")
local macro_rules | `(tactic| walk_at "rd") => `(tactic| repeat walk_at "rd1")
local macro_rules | `(tactic| walk_at "pf") => `(tactic| repeat first | exact pf_nil | exact pf_hit | (apply pf_m; decide +kernel))
local macro_rules | `(tactic| walk_at "pos") => `(tactic| (first | (show (0 : Int) < _; decide) | exact ⟨by decide, by decide⟩ | omega))
local macro_rules | `(tactic| walk_at "md") => `(tactic| refine r_I (by walk_at "pos") ?_)
local macro_rules | `(tactic| walk_at "cell") => `(tactic| refine ⟨_, _, rfl, by assumption, by decide, fun _ => ?_⟩)
local macro_rules | `(tactic| walk_at "ml") => `(tactic| first | refine r_I (.inr ⟨by decide, by decide⟩) ?_ | refine r_I (.inl ⟨by decide, by decide⟩) ?_)
/-! ### prices and items -/
def spWorth (_ : PySem.W.Frag) : Sp := fun vs H Q _ => ∃ n c p : Int, vs = [.int n, .int c, .int p] ∧ (-(2 ^ 64) < c ∧ c < 2 ^ 64) ∧ (0 < p ∧ p < 1073741824) ∧ Q (.int (n * c / p)) H
theorem len_Worth {K : PySem.W.Frag} {vs : List V} {H : Hp} {Q : VK} {E : XK} (h : spWorth K vs H Q E) : vs.length = 3 := by
  obtain ⟨_, _, _, rfl, _⟩ := h; rfl
theorem ok_Worth {P : Program} {w : World} {K : PySem.W.Frag} {mg : Str → Option Value} {base : Heap} (T : Tx w K mg) : FnOk P w K mg base CX0 1 (He.fAd K dWorth.at_) (fdO K dWorth.at_) P_Worth (spWorth K) := by
  refine T.f_Worth.ok sc_Worth (fun vs H Q E h => len_Worth h) (fun cdv A outer s H vs Q E hr h => ⟨_, PSs.nox ((pss_one (ps_ret (pe_op op_fdiv (pe_op op_mul (pv 0) (pv 1)) (pv 2))))), ?_⟩)
  obtain ⟨n, c, p, rfl, hc, hp, q⟩ := h
  walk_at "rd"
  refine r_I (.inr hc) ?_
  walk_at "rd"
  exact r_I hp q
/-! ### a line -/
def LnAt (K : PySem.W.Frag) (H : Hp) (a : Addr) (l : Ln) : Prop := ∃ dx, H a = some (.ins (He.ga K "Line") dx (lnF l))
/-- the prices of a line are within their bounds -/
def Ln.ok (l : Ln) : Prop := (0 ≤ l.cents ∧ l.cents ≤ 1000000000) ∧ (1 ≤ l.pack ∧ l.pack ≤ 1000)
def Ln.kept (l : Ln) : Int := l.sent - l.home
def Ln.toCome (l : Ln) : Int := l.ordered - l.sent + l.again
def Ln.worth (l : Ln) : Int := l.kept * l.cents / l.pack
def Ln.charge (l : Ln) : Int := l.worth - l.credited
def spLn (K : PySem.W.Frag) (g : Ln → Int) : Sp := fun vs H Q _ => ∃ (a : Addr) (l : Ln), vs = [.ref a] ∧ LnAt K H a l ∧ l.ok ∧ Q (.int (g l)) H
theorem len_ln {K : PySem.W.Frag} {g : Ln → Int} {vs : List V} {H : Hp} {Q : VK} {E : XK} (h : spLn K g vs H Q E) : vs.length = 1 := by
  obtain ⟨_, _, rfl, _⟩ := h; rfl
abbrev spLineKept (K : PySem.W.Frag) := spLn K Ln.kept
abbrev spLineToCome (K : PySem.W.Frag) := spLn K Ln.toCome
abbrev spLineKeptWorth (K : PySem.W.Frag) := spLn K Ln.worth
abbrev spLineCharge (K : PySem.W.Frag) := spLn K Ln.charge
abbrev len_LineKept {K : PySem.W.Frag} {vs : List V} {H : Hp} {Q : VK} {E : XK} (h : spLineKept K vs H Q E) := len_ln h
abbrev len_LineToCome {K : PySem.W.Frag} {vs : List V} {H : Hp} {Q : VK} {E : XK} (h : spLineToCome K vs H Q E) := len_ln h
abbrev len_LineKeptWorth {K : PySem.W.Frag} {vs : List V} {H : Hp} {Q : VK} {E : XK} (h : spLineKeptWorth K vs H Q E) := len_ln h
abbrev len_LineCharge {K : PySem.W.Frag} {vs : List V} {H : Hp} {Q : VK} {E : XK} (h : spLineCharge K vs H Q E) := len_ln h
theorem ok_LineKept {P : Program} {w : World} {K : PySem.W.Frag} {mg : Str → Option Value} {base : Heap} (T : Tx w K mg) : FnOk P w K mg base CX0 1 (He.fAd K dLineKept.at_) (fdO K dLineKept.at_) P_LineKept (spLineKept K) := by
  refine T.f_LineKept.ok sc_LineKept (fun vs H Q E h => len_LineKept h) (fun cdv A outer s H vs Q E hr h => ⟨_, PSs.nox ((pss_one (ps_ret (pe_op op_sub (pe_fld (pv 0) rfl) (pe_fld (pv 0) rfl))))), ?_⟩)
  obtain ⟨a, l, rfl, ⟨dx, ha⟩, ho, q⟩ := h
  walk_at "rd"
  refine r_f ha T.cl_Line T.n_Line_sent (lk_Line_sent l) ?_
  walk_at "rd"
  refine r_f ha T.cl_Line T.n_Line_home (lk_Line_home l) ?_
  walk_at "rd"
  exact q
theorem ok_LineToCome {P : Program} {w : World} {K : PySem.W.Frag} {mg : Str → Option Value} {base : Heap} (T : Tx w K mg) : FnOk P w K mg base CX0 1 (He.fAd K dLineToCome.at_) (fdO K dLineToCome.at_) P_LineToCome (spLineToCome K) := by
  refine T.f_LineToCome.ok sc_LineToCome (fun vs H Q E h => len_LineToCome h) (fun cdv A outer s H vs Q E hr h => ⟨_, PSs.nox ((pss_one (ps_ret (pe_op op_add (pe_op op_sub (pe_fld (pv 0) rfl) (pe_fld (pv 0) rfl)) (pe_fld (pv 0) rfl))))), ?_⟩)
  obtain ⟨a, l, rfl, ⟨dx, ha⟩, ho, q⟩ := h
  walk_at "rd"
  refine r_f ha T.cl_Line T.n_Line_ordered (lk_Line_ordered l) ?_
  walk_at "rd"
  refine r_f ha T.cl_Line T.n_Line_sent (lk_Line_sent l) ?_
  walk_at "rd"
  refine r_f ha T.cl_Line T.n_Line_again (lk_Line_again l) ?_
  walk_at "rd"
  exact q
theorem ok_LineKeptWorth {P : Program} {w : World} {K : PySem.W.Frag} {mg : Str → Option Value} {base : Heap} (T : Tx w K mg) : FnOk P w K mg base CX0 2 (He.fAd K dLineKeptWorth.at_) (fdO K dLineKeptWorth.at_) P_LineKeptWorth (spLineKeptWorth K) := by
  refine T.f_LineKeptWorth.ok sc_LineKeptWorth (fun vs H Q E h => len_LineKeptWorth h) (fun cdv A outer s H vs Q E hr h => ⟨_, PSs.nox ((pss_one (ps_ret (pe_call (ok_Worth T) (hr.mono (by decide)) rfl T.g_Worth T.f_Worth.kp T.b_Worth .nil pass0 (pa_cons (pe_meth0 (pv 0) T.cl_Line T.m_Line_kept (ok_LineKept T) (hr.mono (by decide)) T.b_LineKept .nil pass0) (pa_cons (pe_fld (pv 0) rfl) (pa_cons (pe_fld (pv 0) rfl) pa_nil))))))), ?_⟩)
  obtain ⟨a, l, rfl, ⟨dx, ha⟩, ho, q⟩ := h
  walk_at "rd"
  refine r_m ha (no_Line_kept l) ?_
  walk_at "rd"
  refine ⟨a, l, rfl, ⟨dx, ha⟩, ho, ?_⟩
  walk_at "rd"
  refine r_f ha T.cl_Line T.n_Line_cents (lk_Line_cents l) ?_
  walk_at "rd"
  refine r_f ha T.cl_Line T.n_Line_pack (lk_Line_pack l) ?_
  walk_at "rd"
  obtain ⟨h1, h2⟩ := ho
  exact ⟨_, _, _, rfl, by omega, by omega, q⟩
theorem ok_LineCharge {P : Program} {w : World} {K : PySem.W.Frag} {mg : Str → Option Value} {base : Heap} (T : Tx w K mg) : FnOk P w K mg base CX0 3 (He.fAd K dLineCharge.at_) (fdO K dLineCharge.at_) P_LineCharge (spLineCharge K) := by
  refine T.f_LineCharge.ok sc_LineCharge (fun vs H Q E h => len_LineCharge h) (fun cdv A outer s H vs Q E hr h => ⟨_, PSs.nox ((pss_one (ps_ret (pe_op op_sub (pe_meth0 (pv 0) T.cl_Line T.m_Line_kept_worth (ok_LineKeptWorth T) (hr.mono (by decide)) T.b_LineKeptWorth .nil pass0) (pe_fld (pv 0) rfl))))), ?_⟩)
  obtain ⟨a, l, rfl, ⟨dx, ha⟩, ho, q⟩ := h
  walk_at "rd"
  refine r_m ha (no_Line_kept_worth l) ?_
  walk_at "rd"
  refine ⟨a, l, rfl, ⟨dx, ha⟩, ho, ?_⟩
  walk_at "rd"
  refine r_f ha T.cl_Line T.n_Line_credited (lk_Line_credited l) ?_
  walk_at "rd"
  exact q

/-! ### items, lines as they are told -/
abbrev letters : Str := "abcdefghijklmnopqrstuvwxyz"
def isItem (z : Str) : Bool := decide (∀ c ∈ z.cps.toList, c ∈ letters.cps.toList) && decide (1 ≤ z.length ∧ z.length ≤ 12)
def spIsItem (_ : PySem.W.Frag) : Sp := fun vs H Q _ => ∃ z : Str, vs = [.str z] ∧ z.length ≤ 100000 ∧ Q (.bl (isItem z)) H
theorem len_IsItem {K : PySem.W.Frag} {vs : List V} {H : Hp} {Q : VK} {E : XK} (h : spIsItem K vs H Q E) : vs.length = 1 := by
  obtain ⟨_, rfl, _⟩ := h; rfl
theorem isItem_no {z : Str} {i : Nat} {c : Nat} (h : z.cps[i]? = some c) (n : ¬ c ∈ letters.cps.toList) : isItem z = false := by
  have hm : c ∈ z.cps.toList := by
    have h2 : z.cps.toList[i]? = some c := by simpa using h
    exact List.mem_of_getElem? h2
  unfold isItem
  rw [decide_eq_false (fun q => n (q c hm))]
  rfl
theorem isItem_yes {z : Str} (h : ∀ j c, j < z.cps.size → z.cps[j]? = some c → c ∈ letters.cps.toList) : isItem z = decide (1 ≤ z.length ∧ z.length ≤ 12) := by
  unfold isItem
  rw [decide_eq_true (fun c hc => ?_)]
  · rfl
  · obtain ⟨j, hj⟩ := List.getElem?_of_mem hc
    have h2 : z.cps[j]? = some c := by simpa using hj
    exact h j c (Array.getElem?_eq_some_iff.mp h2).1 h2
theorem ok_IsItem {P : Program} {w : World} {K : PySem.W.Frag} {mg : Str → Option Value} {base : Heap} (T : Tx w K mg) : FnOk P w K mg base CX0 1 (He.fAd K dIsItem.at_) (fdO K dIsItem.at_) P_IsItem (spIsItem K) := by
  refine T.f_IsItem.ok sc_IsItem (fun vs H Q E h => len_IsItem h) (fun cdv A outer s H vs Q E hr h => ⟨_, PSs.nox ((pss_cons (ps_for PassesOwn.never rfl (pi_str (pv 0)) (pg_name (i := 1) sc_IsItem.nd rfl (Or.inl rfl)) (pss_one (ps_if (pt_cmpR op_notIn_sign (pv 1) (pe_gc rfl T.c_LETTERS) (by rfl)) (pss_one (ps_ret pe_bl)) pss_nil)))
      (pss_one (ps_ret (pe_chain op_le op_le pe_int (pe_callB call_len_str (by rfl) T.b_len (by decide +kernel) (pa_cons (pv 0) pa_nil)) (pe_gc rfl T.c_MOST_LETTERS)))))), ?_⟩)
  obtain ⟨z, rfl, hz, q⟩ := h
  walk_at "rd"
  refine ⟨z, rfl, for_it walk_str (fun i σ H' => ∃ v, σ = [some (.str z), v] ∧ H' = H ∧ ∀ j c, j < i → z.cps[j]? = some c → c ∈ letters.cps.toList) ⟨none, rfl, rfl, fun j c hj => absurd hj (Nat.not_lt_zero _)⟩ (fun _ _ _ _ _ => trivial) ?_ ?_⟩
  · rintro i x σ H1 H2 hi ⟨v, rfl, rfl, hp⟩ ⟨rfl, c, hc, rfl⟩
    walk_at "rd"
    refine ⟨c, _, rfl, rfl, ?_⟩
    walk_at "rd"
    refine r_itn (fun hn => ?_) (fun hy => ?_)
    · walk_at "rd"
      rw [isItem_no hc hn] at q
      exact q
    · walk_at "rd"
      refine ⟨_, rfl, rfl, fun j c' hj e => ?_⟩
      by_cases h : j = i
      · subst h
        rw [hc] at e
        rw [← Option.some.inj e]
        exact hy
      · exact hp j c' (by omega) e
  · rintro σ H1 ⟨v, rfl, rfl, hp⟩
    walk_at "rd"
    refine ⟨z, rfl, sz5 hz, ?_⟩
    rw [isItem_yes hp] at q
    walk_at "rd"
    refine r_itd (fun h1 => ?_) (fun h1 => ?_)
    · walk_at "rd"
      have e : decide (1 ≤ z.length ∧ z.length ≤ 12) = decide ((z.length : Int) ≤ 12) := by
        by_cases h2 : z.length ≤ 12
        · rw [decide_eq_true (by omega), decide_eq_true (by omega)]
        · rw [decide_eq_false (by omega), decide_eq_false (by omega)]
      rw [e] at q
      exact q
    · rw [decide_eq_false (by omega)] at q
      exact q
/-- a line as it is handed in -/
structure Lt where
  item : Str
  pieces : Int
  cents : Int
  pack : Int
def LtAt (H : Hp) (v : V) (t : Lt) : Prop := ∃ a, v = .ref a ∧ H a = some (.tup [.str t.item, .int t.pieces, .int t.cents, .int t.pack])
inductive Er where
  | noDeed | noLines | noItem | noNumber | fullBook | noOrder | sameOrder | noLine | tooMuch | nothingDone
  deriving DecidableEq
def Er.name : Er → Str
  | .noDeed => "NoDeed" | .noLines => "NoLines" | .noItem => "NoItem" | .noNumber => "NoNumber" | .fullBook => "FullBook"
  | .noOrder => "NoOrder" | .sameOrder => "SameOrder" | .noLine => "NoLine" | .tooMuch => "TooMuch" | .nothingDone => "NothingDone"
def numOk (t : Lt) : Prop := (1 ≤ t.pieces ∧ t.pieces ≤ 1000000) ∧ (0 ≤ t.cents ∧ t.cents ≤ 1000000000) ∧ (1 ≤ t.pack ∧ t.pack ≤ 1000)
instance (t : Lt) : Decidable (numOk t) := by unfold numOk; infer_instance
def ltCheck (t : Lt) : Option Er := if isItem t.item then (if numOk t then none else some .noNumber) else some .noItem
/-- what leaves: by the verdict -/
def Out (K : PySem.W.Frag) (r : Option Er) (ok : Prop) (E : Value → Prop) : Prop := match r with
  | none => ok
  | some e => E (.ref (He.ga K e.name))
def spCheckLine (K : PySem.W.Frag) : Sp := fun vs H Q E => ∃ (v : V) (t : Lt), vs = [v] ∧ LtAt H v t ∧ t.item.length ≤ 100000 ∧ Out K (ltCheck t) (Q .non H) fun c => E c none H
theorem len_CheckLine {K : PySem.W.Frag} {vs : List V} {H : Hp} {Q : VK} {E : XK} (h : spCheckLine K vs H Q E) : vs.length = 1 := by
  obtain ⟨_, _, rfl, _⟩ := h; rfl
theorem ok_CheckLine {P : Program} {w : World} {K : PySem.W.Frag} {mg : Str → Option Value} {base : Heap} (T : Tx w K mg) : FnOk P w K mg base (L2.CX P w) 2 (He.fAd K dCheckLine.at_) (fdO K dCheckLine.at_) P_CheckLine (spCheckLine K) := by
  refine T.f_CheckLine.ok sc_CheckLine (fun vs H Q E h => len_CheckLine h) (fun cdv A outer s H vs Q E hr h => ⟨_, ((pss_cons (ps_if (pt_not (pt_val (pe_call (ok_IsItem T) (hr.mono (by decide)) rfl T.g_IsItem T.f_IsItem.kp T.b_IsItem .nil pass0 (pa_cons (pe_ix ix_tup (pv 0) pe_int (fun _ _ => rfl)) pa_nil)))) (pss_one (ps_raise rfl (takes_of rfl rfl rfl rfl) (pmk_own PySem.F.excBase_ValueError T.x_NoItem.1 T.g_NoItem T.x_NoItem.2.1 (raises_own T.x_NoItem.2.2.1 T.x_NoItem.2.2.2) rfl))) pss_nil)
      (pss_cons (ps_if (pt_not (pt_chain op_le op_le pe_int (pe_ix ix_tup (pv 0) pe_int (fun _ _ => rfl)) (pe_gc rfl T.c_MOST_PIECES))) (pss_one (ps_raise rfl (takes_of rfl rfl rfl rfl) (pmk_own PySem.F.excBase_ValueError T.x_NoNumber.1 T.g_NoNumber T.x_NoNumber.2.1 (raises_own T.x_NoNumber.2.2.1 T.x_NoNumber.2.2.2) rfl))) pss_nil)
      (pss_one (ps_if (PW.pt (pw_or (pt_not (pt_chain op_le op_le pe_int (pe_ix ix_tup (pv 0) pe_int (fun _ _ => rfl)) (pe_gc rfl T.c_MOST_CENTS))) (pw_or1 (pt_not (pt_chain op_le op_le pe_int (pe_ix ix_tup (pv 0) pe_int (fun _ _ => rfl)) (pe_gc rfl T.c_MOST_PACK)))))) (pss_one (ps_raise rfl (takes_of rfl rfl rfl rfl) (pmk_own PySem.F.excBase_ValueError T.x_NoNumber.1 T.g_NoNumber T.x_NoNumber.2.1 (raises_own T.x_NoNumber.2.2.1 T.x_NoNumber.2.2.2) rfl))) pss_nil))))), ?_⟩)
  obtain ⟨v, t, rfl, ⟨a, rfl, ha⟩, hz, o⟩ := h
  walk_at "rd"
  refine r_ixT (SqT.of ha) (atI_get (j := 0) rfl rfl) ?_
  walk_at "rd"
  refine ⟨t.item, rfl, hz, ?_⟩
  walk_at "rd"
  unfold ltCheck at o
  cases hi : isItem t.item with
  | false =>
    rw [hi] at o
    walk_at "rd"
    exact o
  | true =>
    rw [hi, if_pos rfl] at o
    walk_at "rd"
    refine r_ixT (SqT.of ha) (atI_get (j := 1) rfl rfl) ?_
    walk_at "rd"
    have bad : ¬ numOk t → E (.ref (He.ga K "NoNumber")) none H := fun n => by
      rw [if_neg n] at o
      exact o
    refine r_itd (fun h1 => ?_) (fun h1 => ?_)
    · walk_at "rd"
      refine r_itn (fun h2 => ?_) (fun h2 => ?_)
      · exact bad fun z => h2 z.1.2
      walk_at "rd"
      refine r_ixT (SqT.of ha) (atI_get (j := 2) rfl rfl) ?_
      walk_at "rd"
      refine r_itd (fun h3 => ?_) (fun h3 => ?_)
      · walk_at "rd"
        refine r_itn (fun h4 => ?_) (fun h4 => ?_)
        · exact bad fun z => h4 z.2.1.2
        walk_at "rd"
        refine r_ixT (SqT.of ha) (atI_get (j := 3) rfl rfl) ?_
        walk_at "rd"
        refine r_itd (fun h5 => ?_) (fun h5 => ?_)
        · walk_at "rd"
          refine r_itn (fun h6 => ?_) (fun h6 => ?_)
          · exact bad fun z => h6 z.2.2.2
          walk_at "rd"
          rw [if_pos (show numOk t from ⟨⟨h1, h2⟩, ⟨h3, h4⟩, h5, h6⟩)] at o
          exact o
        · walk_at "rd"
          exact bad fun z => h5 z.2.2.1
      · walk_at "rd"
        exact bad fun z => h3 z.2.1.1
    · walk_at "rd"
      exact bad fun z => h1 z.1.1
/-! ### a line's deeds -/
def Lt.ln (t : Lt) : Ln := ⟨t.item, t.pieces, t.cents, t.pack, 0, 0, 0, 0⟩
def spLineInit (K : PySem.W.Frag) : Sp := fun vs H Q _ => ∃ (a dx : Addr) (v : V) (t : Lt), vs = [.ref a, v] ∧ H a = some (.ins (He.ga K "Line") dx []) ∧ LtAt H v t ∧ ∀ H', LnAt K H' a t.ln → But (· = a) H H' → Q .non H'
theorem len_LineInit {K : PySem.W.Frag} {vs : List V} {H : Hp} {Q : VK} {E : XK} (h : spLineInit K vs H Q E) : vs.length = 2 := by
  obtain ⟨_, _, _, _, rfl, _⟩ := h; rfl
theorem ok_LineInit {P : Program} {w : World} {K : PySem.W.Frag} {mg : Str → Option Value} {base : Heap} (T : Tx w K mg) : FnOk P w K mg base CX0 1 (He.fAd K dLineInit.at_) (fdO K dLineInit.at_) P_LineInit (spLineInit K) := by
  refine T.f_LineInit.ok sc_LineInit (fun vs H Q E h => len_LineInit h) (fun cdv A outer s H vs Q E hr h => ⟨_, PSs.nox ((pss_cons (ps_fld (pv 0) (pe_ix ix_tup (pv 1) pe_int (fun _ _ => rfl)) rfl)
      (pss_cons (ps_fld (pv 0) (pe_ix ix_tup (pv 1) pe_int (fun _ _ => rfl)) rfl)
      (pss_cons (ps_fld (pv 0) (pe_ix ix_tup (pv 1) pe_int (fun _ _ => rfl)) rfl)
      (pss_cons (ps_fld (pv 0) (pe_ix ix_tup (pv 1) pe_int (fun _ _ => rfl)) rfl)
      (pss_cons (ps_fld (pv 0) pe_int rfl)
      (pss_cons (ps_fld (pv 0) pe_int rfl)
      (pss_cons (ps_fld (pv 0) pe_int rfl)
      (pss_one (ps_fld (pv 0) pe_int rfl)))))))))), ?_⟩)
  obtain ⟨a, dx, v, t, rfl, ha, ⟨b, rfl, hb⟩, k⟩ := h
  have ab : b ≠ a := ne_of hb ha (by intro q; cases q)
  walk_at "rd"
  refine r_ixT (SqT.of hb) (atI_get (j := 0) rfl rfl) ?_
  walk_at "rd"
  refine r_sf ha T.cl_Line T.n_Line_item (by walk_at "pf") (by simp) ?_
  walk_at "rd"
  refine r_ixT (SqT.of (by rw [upd_ne ab]; exact hb)) (atI_get (j := 1) rfl rfl) ?_
  walk_at "rd"
  refine r_sf upd_same T.cl_Line T.n_Line_ordered (by walk_at "pf") (by simp) ?_
  rw [upd_upd]
  walk_at "rd"
  refine r_ixT (SqT.of (by rw [upd_ne ab]; exact hb)) (atI_get (j := 2) rfl rfl) ?_
  walk_at "rd"
  refine r_sf upd_same T.cl_Line T.n_Line_cents (by walk_at "pf") (by simp) ?_
  rw [upd_upd]
  walk_at "rd"
  refine r_ixT (SqT.of (by rw [upd_ne ab]; exact hb)) (atI_get (j := 3) rfl rfl) ?_
  walk_at "rd"
  refine r_sf upd_same T.cl_Line T.n_Line_pack (by walk_at "pf") (by simp) ?_
  rw [upd_upd]
  walk_at "rd"
  refine r_sf upd_same T.cl_Line T.n_Line_sent (by walk_at "pf") (by simp) ?_
  rw [upd_upd]
  walk_at "rd"
  refine r_sf upd_same T.cl_Line T.n_Line_home (by walk_at "pf") (by simp) ?_
  rw [upd_upd]
  walk_at "rd"
  refine r_sf upd_same T.cl_Line T.n_Line_again (by walk_at "pf") (by simp) ?_
  rw [upd_upd]
  walk_at "rd"
  refine r_sf upd_same T.cl_Line T.n_Line_credited (by walk_at "pf") (by simp) ?_
  rw [upd_upd]
  walk_at "rd"
  exact k _ ⟨dx, upd_same⟩ (But.ins ha rfl)
/-- a line's deed: refused, or the line behind it -/
def spLd (K : PySem.W.Frag) (g : Ln → Int → Option Ln) : Sp := fun vs H Q E => ∃ (a : Addr) (l : Ln) (n : Int), vs = [.ref a, .int n] ∧ LnAt K H a l ∧ l.ok ∧
  (g l n = none → E (.ref (He.ga K "TooMuch")) none H) ∧ ∀ l', g l n = some l' → ∀ H', LnAt K H' a l' → But (· = a) H H' → Q .non H'
theorem len_ld {K : PySem.W.Frag} {g : Ln → Int → Option Ln} {vs : List V} {H : Hp} {Q : VK} {E : XK} (h : spLd K g vs H Q E) : vs.length = 2 := by
  obtain ⟨_, _, _, rfl, _⟩ := h; rfl
def Ln.deliver (l : Ln) (n : Int) : Option Ln := if n > l.toCome then none else some { l with sent := l.sent + n }
def Ln.reduce (l : Ln) (n : Int) : Option Ln := if n > l.charge then none else some { l with credited := l.credited + n }
def Ln.cut (l : Ln) : Ln := { l with credited := if l.worth < l.credited then l.worth else l.credited }
def Ln.bring (anew : Bool) (l : Ln) (n : Int) : Option Ln := if n > l.kept then none else some (Ln.cut (if anew then { l with home := l.home + n, again := l.again + n } else { l with home := l.home + n }))
abbrev spLineDeliver (K : PySem.W.Frag) := spLd K Ln.deliver
abbrev spLineReduce (K : PySem.W.Frag) := spLd K Ln.reduce
abbrev len_LineDeliver {K : PySem.W.Frag} {vs : List V} {H : Hp} {Q : VK} {E : XK} (h : spLineDeliver K vs H Q E) := len_ld h
abbrev len_LineReduce {K : PySem.W.Frag} {vs : List V} {H : Hp} {Q : VK} {E : XK} (h : spLineReduce K vs H Q E) := len_ld h
theorem ok_LineDeliver {P : Program} {w : World} {K : PySem.W.Frag} {mg : Str → Option Value} {base : Heap} (T : Tx w K mg) : FnOk P w K mg base (L2.CX P w) 2 (He.fAd K dLineDeliver.at_) (fdO K dLineDeliver.at_) P_LineDeliver (spLineDeliver K) := by
  refine T.f_LineDeliver.ok sc_LineDeliver (fun vs H Q E h => len_LineDeliver h) (fun cdv A outer s H vs Q E hr h => ⟨_, ((pss_cons (ps_if (pt_cmpR op_gt (pv 1) (pe_meth0 (pv 0) T.cl_Line T.m_Line_to_come (ok_LineToCome T) (hr.mono (by decide)) T.b_LineToCome .nil pass0) (nomark _)) (pss_one (ps_raise rfl (takes_of rfl rfl rfl rfl) (pmk_own PySem.F.excBase_ValueError T.x_TooMuch.1 T.g_TooMuch T.x_TooMuch.2.1 (raises_own T.x_TooMuch.2.2.1 T.x_TooMuch.2.2.2) rfl))) pss_nil)
      (pss_one (ps_fld (pv 0) (pe_op op_add (pe_fld (pv 0) rfl) (pv 1)) rfl)))), ?_⟩)
  obtain ⟨a, l, n, rfl, ⟨dx, ha⟩, ho, no, k⟩ := h
  walk_at "rd"
  refine r_m ha (no_Line_to_come l) ?_
  walk_at "rd"
  refine ⟨a, l, rfl, ⟨dx, ha⟩, ho, ?_⟩
  walk_at "rd"
  unfold Ln.deliver at no k
  refine r_itd (fun c => ?_) (fun c => ?_)
  · rw [if_pos c] at no
    exact no rfl
  · rw [if_neg c] at k
    walk_at "rd"
    refine r_f ha T.cl_Line T.n_Line_sent (lk_Line_sent l) ?_
    walk_at "rd"
    refine r_sf ha T.cl_Line T.n_Line_sent (pt_Line_sent l _) (by show 8 ≤ 20; decide) ?_
    exact k _ rfl _ ⟨dx, upd_same⟩ (But.ins ha rfl)
theorem ok_LineReduce {P : Program} {w : World} {K : PySem.W.Frag} {mg : Str → Option Value} {base : Heap} (T : Tx w K mg) : FnOk P w K mg base (L2.CX P w) 4 (He.fAd K dLineReduce.at_) (fdO K dLineReduce.at_) P_LineReduce (spLineReduce K) := by
  refine T.f_LineReduce.ok sc_LineReduce (fun vs H Q E h => len_LineReduce h) (fun cdv A outer s H vs Q E hr h => ⟨_, ((pss_cons (ps_if (pt_cmpR op_gt (pv 1) (pe_meth0 (pv 0) T.cl_Line T.m_Line_charge (ok_LineCharge T) (hr.mono (by decide)) T.b_LineCharge .nil pass0) (nomark _)) (pss_one (ps_raise rfl (takes_of rfl rfl rfl rfl) (pmk_own PySem.F.excBase_ValueError T.x_TooMuch.1 T.g_TooMuch T.x_TooMuch.2.1 (raises_own T.x_TooMuch.2.2.1 T.x_TooMuch.2.2.2) rfl))) pss_nil)
      (pss_one (ps_fld (pv 0) (pe_op op_add (pe_fld (pv 0) rfl) (pv 1)) rfl)))), ?_⟩)
  obtain ⟨a, l, n, rfl, ⟨dx, ha⟩, ho, no, k⟩ := h
  walk_at "rd"
  refine r_m ha (no_Line_charge l) ?_
  walk_at "rd"
  refine ⟨a, l, rfl, ⟨dx, ha⟩, ho, ?_⟩
  walk_at "rd"
  unfold Ln.reduce at no k
  refine r_itd (fun c => ?_) (fun c => ?_)
  · rw [if_pos c] at no
    exact no rfl
  · rw [if_neg c] at k
    walk_at "rd"
    refine r_f ha T.cl_Line T.n_Line_credited (lk_Line_credited l) ?_
    walk_at "rd"
    refine r_sf ha T.cl_Line T.n_Line_credited (pt_Line_credited l _) (by show 8 ≤ 20; decide) ?_
    exact k _ rfl _ ⟨dx, upd_same⟩ (But.ins ha rfl)
def spLineBring (K : PySem.W.Frag) : Sp := fun vs H Q E => ∃ (b : Bool) (v : V) (n : V), vs = [v, n, .bl b] ∧ spLd K (Ln.bring b) [v, n] H Q E
theorem len_LineBring {K : PySem.W.Frag} {vs : List V} {H : Hp} {Q : VK} {E : XK} (h : spLineBring K vs H Q E) : vs.length = 3 := by
  obtain ⟨_, _, _, rfl, _⟩ := h; rfl
theorem ok_LineBring {P : Program} {w : World} {K : PySem.W.Frag} {mg : Str → Option Value} {base : Heap} (T : Tx w K mg) : FnOk P w K mg base (L2.CX P w) 3 (He.fAd K dLineBring.at_) (fdO K dLineBring.at_) P_LineBring (spLineBring K) := by
  refine T.f_LineBring.ok sc_LineBring (fun vs H Q E h => len_LineBring h) (fun cdv A outer s H vs Q E hr h => ⟨_, ((pss_cons (ps_if (pt_cmpR op_gt (pv 1) (pe_meth0 (pv 0) T.cl_Line T.m_Line_kept (ok_LineKept T) (hr.mono (by decide)) T.b_LineKept .nil pass0) (nomark _)) (pss_one (ps_raise rfl (takes_of rfl rfl rfl rfl) (pmk_own PySem.F.excBase_ValueError T.x_TooMuch.1 T.g_TooMuch T.x_TooMuch.2.1 (raises_own T.x_TooMuch.2.2.1 T.x_TooMuch.2.2.2) rfl))) pss_nil)
      (pss_cons (ps_fld (pv 0) (pe_op op_add (pe_fld (pv 0) rfl) (pv 1)) rfl)
      (pss_cons (ps_if (pt_val (pv 2)) (pss_one (ps_fld (pv 0) (pe_op op_add (pe_fld (pv 0) rfl) (pv 1)) rfl)) pss_nil)
      (pss_one (ps_fld (pv 0) (pe_callB (call_min2 rfl) (by rfl) T.b_min (by decide +kernel) (pa_cons (pe_fld (pv 0) rfl) (pa_cons (pe_meth0 (pv 0) T.cl_Line T.m_Line_kept_worth (ok_LineKeptWorth T) (hr.mono (by decide)) T.b_LineKeptWorth .nil pass0) pa_nil))) rfl)))))), ?_⟩)
  obtain ⟨anew, v, n, rfl, a, l, m, e, ⟨dx, ha⟩, ho, no, k⟩ := h
  cases e
  walk_at "rd"
  refine r_m ha (no_Line_kept l) ?_
  walk_at "rd"
  refine ⟨a, l, rfl, ⟨dx, ha⟩, ho, ?_⟩
  walk_at "rd"
  unfold Ln.bring at no k
  refine r_itd (fun c => ?_) (fun c => ?_)
  · rw [if_pos c] at no
    exact no rfl
  · rw [if_neg c] at k
    walk_at "rd"
    refine r_f ha T.cl_Line T.n_Line_home (lk_Line_home l) ?_
    walk_at "rd"
    refine r_sf ha T.cl_Line T.n_Line_home (pt_Line_home l _) (by show 8 ≤ 20; decide) ?_
    walk_at "rd"
    have fin : ∀ (l2 : Ln) (H2 : Hp), l2.ok → H2 a = some (.ins (He.ga K "Line") dx (lnF l2)) → But (· = a) H H2 → (∀ H', LnAt K H' a l2.cut → But (· = a) H H' → Q .non H') → sFld K (tVar 0)
        (tCB (fun xs H Q => ∃ i j, xs = [V.int i, V.int j] ∧ Q (V.int (if j < i then j else i)) H) (tCons (tFld K (tVar 0) "credited") (tCons (tMeth (He.ga K "Line") "kept_worth" (spLineKeptWorth K) [] E0 (tVar 0) tNil) tNil)))
        "credited" { nx := fun _ H' => Q .non H', rt := Q } (start N_LineBring [V.ref a, V.int m, V.bl anew]) H2 := by
      intro l2 H2 ok2 h2 b2 k2
      walk_at "rd"
      refine r_f h2 T.cl_Line T.n_Line_credited (lk_Line_credited l2) ?_
      walk_at "rd"
      refine r_m h2 (no_Line_kept_worth l2) ?_
      walk_at "rd"
      refine ⟨a, l2, rfl, ⟨dx, h2⟩, ok2, ?_⟩
      walk_at "rd"
      refine ⟨_, _, rfl, ?_⟩
      walk_at "rd"
      refine r_sf h2 T.cl_Line T.n_Line_credited (pt_Line_credited l2 _) (by show 8 ≤ 20; decide) ?_
      exact k2 _ ⟨dx, upd_same⟩ (b2.trans (But.ins h2 rfl))
    cases anew with
    | true =>
      walk_at "rd"
      refine r_f upd_same T.cl_Line T.n_Line_again (lk_Line_again _) ?_
      walk_at "rd"
      refine r_sf upd_same T.cl_Line T.n_Line_again (pt_Line_again _ _) (by show 8 ≤ 20; decide) ?_
      rw [upd_upd]
      exact fin { l with home := l.home + m, again := l.again + m } _ ho upd_same (But.ins ha rfl) (fun H' h1 h2 => k _ rfl H' h1 h2)
    | false =>
      refine r_itF (r_next ?_)
      exact fin { l with home := l.home + m } _ ho upd_same (But.ins ha rfl) (fun H' h1 h2 => k _ rfl H' h1 h2)
def lnTold (l : Ln) : List V := [.str l.item, .int l.ordered, .int l.sent, .int l.home, .int l.again, .int l.credited]
def spLineNumbers (K : PySem.W.Frag) : Sp := fun vs H Q _ => ∃ (a : Addr) (l : Ln), vs = [.ref a] ∧ LnAt K H a l ∧ ∀ p, H p = none → Q (.ref p) (upd H p (.tup (lnTold l)))
theorem len_LineNumbers {K : PySem.W.Frag} {vs : List V} {H : Hp} {Q : VK} {E : XK} (h : spLineNumbers K vs H Q E) : vs.length = 1 := by
  obtain ⟨_, _, rfl, _⟩ := h; rfl
theorem ok_LineNumbers {P : Program} {w : World} {K : PySem.W.Frag} {mg : Str → Option Value} {base : Heap} (T : Tx w K mg) : FnOk P w K mg base CX0 1 (He.fAd K dLineNumbers.at_) (fdO K dLineNumbers.at_) P_LineNumbers (spLineNumbers K) := by
  refine T.f_LineNumbers.ok sc_LineNumbers (fun vs H Q E h => len_LineNumbers h) (fun cdv A outer s H vs Q E hr h => ⟨_, PSs.nox ((pss_one (ps_ret (pe_tup (pa_cons (pe_fld (pv 0) rfl) (pa_cons (pe_fld (pv 0) rfl) (pa_cons (pe_fld (pv 0) rfl) (pa_cons (pe_fld (pv 0) rfl) (pa_cons (pe_fld (pv 0) rfl) (pa_cons (pe_fld (pv 0) rfl) pa_nil)))))))))), ?_⟩)
  obtain ⟨a, l, rfl, ⟨dx, ha⟩, k⟩ := h
  walk_at "rd"
  refine r_f ha T.cl_Line T.n_Line_item (lk_Line_item l) ?_
  walk_at "rd"
  refine r_f ha T.cl_Line T.n_Line_ordered (lk_Line_ordered l) ?_
  walk_at "rd"
  refine r_f ha T.cl_Line T.n_Line_sent (lk_Line_sent l) ?_
  walk_at "rd"
  refine r_f ha T.cl_Line T.n_Line_home (lk_Line_home l) ?_
  walk_at "rd"
  refine r_f ha T.cl_Line T.n_Line_again (lk_Line_again l) ?_
  walk_at "rd"
  refine r_f ha T.cl_Line T.n_Line_credited (lk_Line_credited l) ?_
  walk_at "rd"
  exact r_mk (by simp) k

/-! ### an order -/
structure Od where
  lines : List Ln
  money : Int
  marks : List (Str × Int)
/-- where an order lies -/
structure OL where
  o : Addr
  ll : Addr
  lm : Addr
  las : List Addr
def OL.foot (p : OL) (a : Addr) : Prop := a = p.o ∨ a = p.ll ∨ a = p.lm ∨ a ∈ p.las
def MkAt (H : Hp) (v : V) (m : Str × Int) : Prop := ∃ b, v = .ref b ∧ H b = some (.tup [.str m.1, .int m.2])
structure OdAt (K : PySem.W.Frag) (H : Hp) (p : OL) (o : Od) : Prop where
  ob : ∃ dx, H p.o = some (.ins (He.ga K "Order") dx (odF p.ll o.money p.lm))
  ll : H p.ll = some (.lst (p.las.map V.ref))
  len : p.las.length = o.lines.length
  ln : ∀ (i : Nat) a l, p.las[i]? = some a → o.lines[i]? = some l → LnAt K H a l
  nd : p.las.Nodup
  dif : p.ll ≠ p.lm
  lm : ∃ ts, H p.lm = some (.lst ts) ∧ Paired (MkAt H) ts o.marks
structure Od.ok (o : Od) : Prop where
  ln : ∀ l, l ∈ o.lines → l.ok
  few : o.lines.length ≤ 20
def Od.owing (o : Od) : Int := (o.lines.map Ln.charge).sum - o.money
theorem But.lnAt {K : PySem.W.Frag} {S : Addr → Prop} {H H' : Hp} {a : Addr} {l : Ln} (b : But S H H') (h : LnAt K H a l) (n : ¬ S a) : LnAt K H' a l := by
  obtain ⟨dx, e⟩ := h
  exact ⟨dx, b.keep _ _ e n⟩
theorem But.mks {S : Addr → Prop} {H H' : Hp} (b : But S H H') {ts : List V} {ms : List (Str × Int)} (h : Paired (MkAt H) ts ms) : Paired (MkAt H') ts ms :=
  Paired.mapP h fun _ _ ⟨c, e, q⟩ => ⟨c, e, b.tup _ _ q⟩
/-- an order that is left alone -/
theorem OdAt.keep {K : PySem.W.Frag} {S : Addr → Prop} {H H' : Hp} {p : OL} {o : Od} (h : OdAt K H p o) (b : But S H H') (n : ∀ a, p.foot a → ¬ S a) : OdAt K H' p o where
  ob := by
    obtain ⟨dx, e⟩ := h.ob
    exact ⟨dx, b.keep _ _ e (n _ (.inl rfl))⟩
  ll := b.keep _ _ h.ll (n _ (.inr (.inl rfl)))
  len := h.len
  ln := fun i a l e1 e2 => b.lnAt (h.ln i a l e1 e2) (n _ (.inr (.inr (.inr (List.mem_of_getElem? e1)))))
  nd := h.nd
  dif := h.dif
  lm := by
    obtain ⟨ts, e, q⟩ := h.lm
    exact ⟨ts, b.keep _ _ e (n _ (.inr (.inr (.inl rfl)))), b.mks q⟩
theorem OdAt.same {K : PySem.W.Frag} {H H' : Hp} {p : OL} {o : Od} (h : OdAt K H p o) (s : Same H H') : OdAt K H' p o := h.keep (But.of (S := fun _ => False) s) fun _ _ => id
theorem ref_at {as : List Addr} {i : Nat} {x : V} (h : (as.map V.ref)[i]? = some x) : ∃ a, as[i]? = some a ∧ x = V.ref a := by
  rw [List.getElem?_map] at h
  cases e : as[i]? with
  | none => rw [e] at h; cases h
  | some a =>
    rw [e] at h
    exact ⟨a, rfl, (Option.some.inj h).symm⟩
def spOrderOwing (K : PySem.W.Frag) : Sp := fun vs H Q _ => ∃ (p : OL) (o : Od), vs = [.ref p.o] ∧ OdAt K H p o ∧ o.ok ∧ ∀ H', Same H H' → Q (.int o.owing) H'
theorem len_OrderOwing {K : PySem.W.Frag} {vs : List V} {H : Hp} {Q : VK} {E : XK} (h : spOrderOwing K vs H Q E) : vs.length = 1 := by
  obtain ⟨_, _, rfl, _⟩ := h; rfl
theorem ok_OrderOwing {P : Program} {w : World} {K : PySem.W.Frag} {mg : Str → Option Value} {base : Heap} (T : Tx w K mg) : FnOk P w K mg base CX0 4 (He.fAd K dOrderOwing.at_) (fdO K dOrderOwing.at_) P_OrderOwing (spOrderOwing K) := by
  refine T.f_OrderOwing.ok sc_OrderOwing (fun vs H Q E h => len_OrderOwing h) (fun cdv A outer s H vs Q E hr h => ⟨_, PSs.nox ((pss_one (ps_ret (pe_op op_sub (pe_callB (cr_sum rfl) (by rfl) T.b_sum (by decide +kernel) (pa_cons (pe_lc (own := [("line", 1)]) (g := gName 1) (tt := tYes) rfl sc_OrderOwing.nd (pi_list (pe_fld (pv 0) rfl)) (blkOk_by (N := N_OrderOwing) (sc := defScope sOrderOwing) (by decide +kernel)) (fun _ _ _ _ _ => pg_name (i := 1) sc_OrderOwing.nd rfl (Or.inl rfl)) (fun _ _ _ _ _ => pts_nil) (fun _ _ _ _ _ => (pe_meth0 (pv 1) T.cl_Line T.m_Line_charge (ok_LineCharge T) (hr.mono (by decide)) T.b_LineCharge .nil pass0))) pa_nil)) (pe_fld (pv 0) rfl))))), ?_⟩)
  obtain ⟨p, o, rfl, O, ok, k⟩ := h
  obtain ⟨dx, ho⟩ := O.ob
  walk_at "rd"
  refine r_f ho T.cl_Order T.n_Order_lines (lk_Order_lines _ _ _) ?_
  refine lcp_list (ys := o.lines.map fun l => V.int l.charge) (SqL.of O.ll) (by simp [O.len]) (by have := ok.few; simp [O.len]; omega) ?_ ?_
  · intro i x y H' R ex ey s q
    obtain ⟨a, ea, rfl⟩ := ref_at ex
    rw [List.getElem?_map] at ey
    cases el : o.lines[i]? with
    | none => rw [el] at ey; cases ey
    | some l =>
      rw [el] at ey
      have e2 : V.int l.charge = y := Option.some.inj ey
      subst e2
      obtain ⟨dl, hl⟩ := O.ln i a l ea el
      walk_at "rd"
      refine r_m (s _ _ hl) (no_Line_charge l) ?_
      walk_at "rd"
      exact ⟨a, l, rfl, ⟨dl, s _ _ hl⟩, ok.ln l (List.mem_of_getElem? el), q _ (Same.refl _)⟩
  · intro D H' hD s e
    walk_at "rd"
    refine ⟨D, o.lines.map Ln.charge, rfl, SqL.of (by rw [e, List.map_map]; rfl), ?_⟩
    walk_at "rd"
    refine r_f (s _ _ ho) T.cl_Order T.n_Order_money (lk_Order_money _ _ _) ?_
    walk_at "rd"
    exact k _ s
def spOrderNeedOver (K : PySem.W.Frag) : Sp := fun vs H Q E => ∃ (p : OL) (o : Od) (n : Int), vs = [.ref p.o, .int n] ∧ OdAt K H p o ∧ o.ok ∧
  (n > -o.owing → ∀ H', Same H H' → E (.ref (He.ga K "TooMuch")) none H') ∧ (¬ n > -o.owing → ∀ H', Same H H' → Q .non H')
theorem len_OrderNeedOver {K : PySem.W.Frag} {vs : List V} {H : Hp} {Q : VK} {E : XK} (h : spOrderNeedOver K vs H Q E) : vs.length = 2 := by
  obtain ⟨_, _, _, rfl, _⟩ := h; rfl
theorem ok_OrderNeedOver {P : Program} {w : World} {K : PySem.W.Frag} {mg : Str → Option Value} {base : Heap} (T : Tx w K mg) : FnOk P w K mg base (L2.CX P w) 5 (He.fAd K dOrderNeedOver.at_) (fdO K dOrderNeedOver.at_) P_OrderNeedOver (spOrderNeedOver K) := by
  refine T.f_OrderNeedOver.ok sc_OrderNeedOver (fun vs H Q E h => len_OrderNeedOver h) (fun cdv A outer s H vs Q E hr h => ⟨_, ((pss_one (ps_if (pt_cmpR op_gt (pv 1) (pe_un un_neg (pe_meth0 (pv 0) T.cl_Order T.m_Order_owing (ok_OrderOwing T) (hr.mono (by decide)) T.b_OrderOwing .nil pass0)) (nomark _)) (pss_one (ps_raise rfl (takes_of rfl rfl rfl rfl) (pmk_own PySem.F.excBase_ValueError T.x_TooMuch.1 T.g_TooMuch T.x_TooMuch.2.1 (raises_own T.x_TooMuch.2.2.1 T.x_TooMuch.2.2.2) rfl))) pss_nil))), ?_⟩)
  obtain ⟨p, o, n, rfl, O, ok, k1, k2⟩ := h
  obtain ⟨dx, ho⟩ := O.ob
  walk_at "rd"
  refine r_m ho (no_Order_owing _ _ _) ?_
  walk_at "rd"
  refine ⟨p, o, rfl, O, ok, fun H' s => ?_⟩
  walk_at "rd"
  refine r_itd (fun c => k1 c _ s) (fun c => ?_)
  walk_at "rd"
  exact k2 c _ s
def spOrderLineOf (K : PySem.W.Frag) : Sp := fun vs H Q E => ∃ (p : OL) (o : Od) (n : Int), vs = [.ref p.o, .int n] ∧ OdAt K H p o ∧
  (¬ (0 ≤ n ∧ n < o.lines.length) → E (.ref (He.ga K "NoLine")) none H) ∧ (∀ (i : Nat) a, n = (i : Int) → p.las[i]? = some a → Q (.ref a) H)
theorem len_OrderLineOf {K : PySem.W.Frag} {vs : List V} {H : Hp} {Q : VK} {E : XK} (h : spOrderLineOf K vs H Q E) : vs.length = 2 := by
  obtain ⟨_, _, _, rfl, _⟩ := h; rfl
theorem ok_OrderLineOf {P : Program} {w : World} {K : PySem.W.Frag} {mg : Str → Option Value} {base : Heap} (T : Tx w K mg) : FnOk P w K mg base (L2.CX P w) 1 (He.fAd K dOrderLineOf.at_) (fdO K dOrderLineOf.at_) P_OrderLineOf (spOrderLineOf K) := by
  refine T.f_OrderLineOf.ok sc_OrderLineOf (fun vs H Q E h => len_OrderLineOf h) (fun cdv A outer s H vs Q E hr h => ⟨_, ((pss_cons (ps_if (pt_not (pt_chain op_le op_lt pe_int (pv 1) (pe_callB call_len_seq (by rfl) T.b_len (by decide +kernel) (pa_cons (pe_fld (pv 0) rfl) pa_nil)))) (pss_one (ps_raise rfl (takes_of rfl rfl rfl rfl) (pmk_own PySem.F.excBase_ValueError T.x_NoLine.1 T.g_NoLine T.x_NoLine.2.1 (raises_own T.x_NoLine.2.2.1 T.x_NoLine.2.2.2) rfl))) pss_nil)
      (pss_one (ps_ret (pe_ix ix_list (pe_fld (pv 0) rfl) (pv 1) (fun _ _ => rfl)))))), ?_⟩)
  obtain ⟨p, o, n, rfl, O, k1, k2⟩ := h
  obtain ⟨dx, ho⟩ := O.ob
  walk_at "rd"
  refine r_itd (fun c => ?_) (fun c => ?_)
  · walk_at "rd"
    refine r_f ho T.cl_Order T.n_Order_lines (lk_Order_lines _ _ _) ?_
    walk_at "rd"
    refine ⟨_, _, rfl, .inl (SqL.of O.ll), ?_⟩
    walk_at "rd"
    rw [List.length_map, O.len]
    refine r_itn (fun c2 => k1 fun z => c2 z.2) (fun c2 => ?_)
    walk_at "rd"
    refine r_f ho T.cl_Order T.n_Order_lines (lk_Order_lines _ _ _) ?_
    walk_at "rd"
    obtain ⟨i, rfl⟩ : ∃ i : Nat, n = (i : Int) := ⟨n.toNat, by omega⟩
    have hi : i < p.las.length := by rw [O.len]; omega
    refine r_ixL (SqL.of O.ll) (atI_get (j := i) rfl (by rw [List.getElem?_map, List.getElem?_eq_getElem hi]; rfl)) ?_
    exact k2 i _ rfl (List.getElem?_eq_getElem hi)
  · walk_at "rd"
    exact k1 fun z => c z.1
def spOrderTake (K : PySem.W.Frag) : Sp := fun vs H Q _ => ∃ (p : OL) (o : Od) (n : Int), vs = [.ref p.o, .int n] ∧ OdAt K H p o ∧
  ∀ H', OdAt K H' p { o with money := o.money + n } → But (· = p.o) H H' → Q .non H'
theorem len_OrderTake {K : PySem.W.Frag} {vs : List V} {H : Hp} {Q : VK} {E : XK} (h : spOrderTake K vs H Q E) : vs.length = 2 := by
  obtain ⟨_, _, _, rfl, _⟩ := h; rfl
theorem ln_ne {K : PySem.W.Frag} {H : Hp} {a b C dx : Addr} {l : Ln} {x y : Addr} {m : Int} (h : LnAt K H a l) (q : H b = some (.ins C dx (odF x m y))) : a ≠ b := by
  obtain ⟨d, e⟩ := h
  refine ne_of e q fun z => ?_
  injection z with _ _ z
  have z2 := congrArg List.length z
  revert z2
  show 8 = 3 → False
  decide
theorem ok_OrderTake {P : Program} {w : World} {K : PySem.W.Frag} {mg : Str → Option Value} {base : Heap} (T : Tx w K mg) : FnOk P w K mg base CX0 1 (He.fAd K dOrderTake.at_) (fdO K dOrderTake.at_) P_OrderTake (spOrderTake K) := by
  refine T.f_OrderTake.ok sc_OrderTake (fun vs H Q E h => len_OrderTake h) (fun cdv A outer s H vs Q E hr h => ⟨_, PSs.nox ((pss_one (ps_fld (pv 0) (pe_op op_add (pe_fld (pv 0) rfl) (pv 1)) rfl))), ?_⟩)
  obtain ⟨p, o, n, rfl, O, k⟩ := h
  obtain ⟨dx, ho⟩ := O.ob
  walk_at "rd"
  refine r_f ho T.cl_Order T.n_Order_money (lk_Order_money _ _ _) ?_
  walk_at "rd"
  refine r_sf ho T.cl_Order T.n_Order_money (pt_Order_money _ _ _ _) (by show 3 ≤ 20; decide) ?_
  have b : But (· = p.o) H (upd H p.o (.ins (He.ga K "Order") dx (odF p.ll (o.money + n) p.lm))) := But.ins ho rfl
  obtain ⟨ts, et, pt⟩ := O.lm
  refine k _ ⟨⟨dx, upd_same⟩, ?_, O.len, fun i a l e1 e2 => ?_, O.nd, O.dif, ts, ?_, b.mks pt⟩ b
  · exact b.keep _ _ O.ll (ne_of O.ll ho (by intro q; cases q))
  · exact b.lnAt (O.ln i a l e1 e2) (ln_ne (O.ln i a l e1 e2) ho)
  · exact b.keep _ _ et (ne_of et ho (by intro q; cases q))
def spOrderMark (K : PySem.W.Frag) : Sp := fun vs H Q _ => ∃ (p : OL) (o : Od) (w : Str) (n : Int), vs = [.ref p.o, .str w, .int n] ∧ OdAt K H p o ∧ o.ok ∧ o.marks.length < 100000 ∧
  ∀ H', OdAt K H' p { o with marks := o.marks ++ [(w, o.owing - n)] } → But (· = p.lm) H H' → Q (.int (o.owing - n)) H'
theorem len_OrderMark {K : PySem.W.Frag} {vs : List V} {H : Hp} {Q : VK} {E : XK} (h : spOrderMark K vs H Q E) : vs.length = 3 := by
  obtain ⟨_, _, _, _, rfl, _⟩ := h; rfl
theorem ok_OrderMark {P : Program} {w : World} {K : PySem.W.Frag} {mg : Str → Option Value} {base : Heap} (T : Tx w K mg) : FnOk P w K mg base CX0 5 (He.fAd K dOrderMark.at_) (fdO K dOrderMark.at_) P_OrderMark (spOrderMark K) := by
  refine T.f_OrderMark.ok sc_OrderMark (fun vs H Q E h => len_OrderMark h) (fun cdv A outer s H vs Q E hr h => ⟨_, PSs.nox ((pss_cons (ps_set (i := 3) sc_OrderMark.nd rfl (Or.inl rfl) (pe_op op_sub (pe_meth0 (pv 0) T.cl_Order T.m_Order_owing (ok_OrderOwing T) (hr.mono (by decide)) T.b_OrderOwing .nil pass0) (pv 2)))
      (pss_cons (ps_expr (pe_bm PySem.F.plainAttrs_list PySem.F.slot_list_append PySem.F.type_list_append mt_append (pe_fld (pv 0) rfl) (pa_cons (pe_tup (pa_cons (pv 1) (pa_cons (pv 3) pa_nil))) pa_nil)))
      (pss_one (ps_ret (pv 3)))))), ?_⟩)
  obtain ⟨p, o, w', n, rfl, O, ok, hz, k⟩ := h
  obtain ⟨dx, ho⟩ := O.ob
  walk_at "rd"
  refine r_m ho (no_Order_owing _ _ _) ?_
  walk_at "rd"
  refine ⟨p, o, rfl, O, ok, fun H1 s => ?_⟩
  walk_at "rd"
  refine r_f (s _ _ ho) T.cl_Order T.n_Order_marks (lk_Order_marks _ _ _) ?_
  obtain ⟨ts, et, pt⟩ := O.lm
  refine r_tyL (SqL.of (s _ _ et)) ?_
  walk_at "rd"
  refine r_mk (by simp) fun b hb => ?_
  walk_at "rd"
  have ne1 : p.lm ≠ b := ne_of_none (s _ _ et) hb
  have e1 : upd H1 b (.tup [V.str w', V.int (o.owing - n)]) p.lm = some (.lst ts) := by
    rw [upd_ne ne1]; exact s _ _ et
  refine r_app e1 (by rw [pt.length]; exact sz5l hz) ?_
  walk_at "rd"
  have s2 : Same H (upd H1 b (.tup [V.str w', V.int (o.owing - n)])) := s.trans (same_upd hb)
  have bt : But (· = p.lm) H (upd (upd H1 b (.tup [V.str w', V.int (o.owing - n)])) p.lm (.lst (ts ++ [.ref b]))) := (But.of s2).trans (But.lst e1 rfl)
  refine k _ ⟨⟨dx, ?_⟩, ?_, O.len, fun i a l h1 h2 => ?_, O.nd, O.dif, _, upd_same, ?_⟩ bt
  · exact bt.keep _ _ ho (ne_of ho et (by intro q; cases q))
  · exact bt.keep _ _ O.ll O.dif
  · obtain ⟨dl, hl⟩ := O.ln i a l h1 h2
    exact bt.lnAt ⟨dl, hl⟩ (ne_of hl et (by intro q; cases q))
  · refine Paired.snoc (bt.mks pt) ⟨b, rfl, ?_⟩
    rw [upd_ne (Ne.symm ne1)]
    exact upd_same

/-! ### an order's line is turned -/
theorem OdAt.line {K : PySem.W.Frag} {H H' : Hp} {p : OL} {o : Od} {i : Nat} {a : Addr} {l l' : Ln} (O : OdAt K H p o) (ea : p.las[i]? = some a) (el : o.lines[i]? = some l) (h : LnAt K H' a l') (b : But (· = a) H H') :
    OdAt K H' p { o with lines := o.lines.set i l' } := by
  obtain ⟨dx, ho⟩ := O.ob
  obtain ⟨da, ha⟩ := O.ln i a l ea el
  obtain ⟨ts, et, pt⟩ := O.lm
  refine ⟨⟨dx, b.keep _ _ ho (Ne.symm (ln_ne ⟨da, ha⟩ ho))⟩, b.keep _ _ O.ll (ne_of O.ll ha (by intro q; cases q)), by simp [O.len], fun j c m e1 e2 => ?_, O.nd, O.dif, ts, b.keep _ _ et (ne_of et ha (by intro q; cases q)), b.mks pt⟩
  by_cases hj : i = j
  · subst hj
    have hl : i < o.lines.length := (List.getElem?_eq_some_iff.mp el).1
    rw [ea] at e1
    cases e1
    rw [List.getElem?_set_self hl] at e2
    cases e2
    exact h
  · rw [List.getElem?_set_ne hj] at e2
    refine b.lnAt (O.ln j c m e1 e2) fun z => hj ?_
    subst z
    exact nd_ix O.nd ea e1
def Ln.turn (w : Str) (l : Ln) (n : Int) : Option Ln := if w = "deliver" then l.deliver n else if w = "credit" then l.reduce n else l.bring (decide (w = "swap")) n
def spOrderTurnLine (K : PySem.W.Frag) : Sp := fun vs H Q E => ∃ (p : OL) (o : Od) (w : Str) (i : Nat) (l : Ln) (n : Int), vs = [.ref p.o, .str w, .int (i : Int), .int n] ∧ OdAt K H p o ∧ o.ok ∧ o.lines[i]? = some l ∧
  (l.turn w n = none → E (.ref (He.ga K "TooMuch")) none H) ∧ ∀ l', l.turn w n = some l' → ∀ H', OdAt K H' p { o with lines := o.lines.set i l' } → But (· ∈ p.las) H H' → Q .non H'
theorem len_OrderTurnLine {K : PySem.W.Frag} {vs : List V} {H : Hp} {Q : VK} {E : XK} (h : spOrderTurnLine K vs H Q E) : vs.length = 4 := by
  obtain ⟨_, _, _, _, _, _, rfl, _⟩ := h; rfl
theorem ok_OrderTurnLine {P : Program} {w : World} {K : PySem.W.Frag} {mg : Str → Option Value} {base : Heap} (T : Tx w K mg) : FnOk P w K mg base (L2.CX P w) 5 (He.fAd K dOrderTurnLine.at_) (fdO K dOrderTurnLine.at_) P_OrderTurnLine (spOrderTurnLine K) := by
  refine T.f_OrderTurnLine.ok sc_OrderTurnLine (fun vs H Q E h => len_OrderTurnLine h) (fun cdv A outer s H vs Q E hr h => ⟨_, ((pss_cons (ps_set (i := 4) sc_OrderTurnLine.nd rfl (Or.inl rfl) (pe_meth (pv 0) T.cl_Order T.m_Order_line_of (ok_OrderLineOf T) (hr.mono (by decide)) T.b_OrderLineOf .nil (passes_call (takes_of rfl rfl rfl rfl) (fun _ _ _ _ h => h)) (pa_cons (pv 2) pa_nil)))
      (pss_one (ps_if (pt_cmpR op_eq (pv 1) pe_str (nomark _)) (pss_one (ps_expr (pe_meth (pv 4) T.cl_Line T.m_Line_deliver (ok_LineDeliver T) (hr.mono (by decide)) T.b_LineDeliver .nil (passes_call (takes_of rfl rfl rfl rfl) (fun _ _ _ _ h => h)) (pa_cons (pv 3) pa_nil)))) (pss_one (ps_if (pt_cmpR op_eq (pv 1) pe_str (nomark _)) (pss_one (ps_expr (pe_meth (pv 4) T.cl_Line T.m_Line_reduce (ok_LineReduce T) (hr.mono (by decide)) T.b_LineReduce .nil (passes_call (takes_of rfl rfl rfl rfl) (fun _ _ _ _ h => h)) (pa_cons (pv 3) pa_nil)))) (pss_one (ps_expr (pe_meth (pv 4) T.cl_Line T.m_Line_bring (ok_LineBring T) (hr.mono (by decide)) T.b_LineBring .nil (passes_call (takes_of rfl rfl rfl rfl) (fun _ _ _ _ h => h)) (pa_cons (pv 3) (pa_cons (pe_cmpR op_eq (pv 1) pe_str (nomark _)) pa_nil))))))))))), ?_⟩)
  obtain ⟨p, o, w', i, l, n, rfl, O, ok, el, k1, k2⟩ := h
  obtain ⟨dx, ho⟩ := O.ob
  walk_at "rd"
  refine r_m ho (no_Order_line_of _ _ _) ?_
  walk_at "rd"
  have hi : i < o.lines.length := (List.getElem?_eq_some_iff.mp el).1
  refine ⟨p, o, _, rfl, O, fun c => absurd ⟨by omega, by omega⟩ c, fun j a ej ea => ?_⟩
  have ej2 : i = j := by omega
  subst ej2
  have okl := ok.ln l (List.mem_of_getElem? el)
  obtain ⟨da, ha⟩ := O.ln i a l ea el
  walk_at "rd"
  unfold Ln.turn at k1 k2
  have mem : a ∈ p.las := List.mem_of_getElem? ea
  refine r_itd (fun c => ?_) (fun c => ?_)
  · rw [if_pos c] at k1 k2
    walk_at "rd"
    refine r_m ha (no_Line_deliver l) ?_
    walk_at "rd"
    refine ⟨a, l, n, rfl, ⟨da, ha⟩, okl, k1, fun l' e' H' h' b => ?_⟩
    exact k2 l' e' H' (O.line ea el h' b) (b.mono fun x hx => by rw [hx]; exact mem)
  · rw [if_neg c] at k1 k2
    walk_at "rd"
    refine r_itd (fun c2 => ?_) (fun c2 => ?_)
    · rw [if_pos c2] at k1 k2
      walk_at "rd"
      refine r_m ha (no_Line_reduce l) ?_
      walk_at "rd"
      refine ⟨a, l, n, rfl, ⟨da, ha⟩, okl, k1, fun l' e' H' h' b => ?_⟩
      exact k2 l' e' H' (O.line ea el h' b) (b.mono fun x hx => by rw [hx]; exact mem)
    · rw [if_neg c2] at k1 k2
      walk_at "rd"
      refine r_m ha (no_Line_bring l) ?_
      walk_at "rd"
      refine ⟨_, _, _, rfl, a, l, n, rfl, ⟨da, ha⟩, okl, k1, fun l' e' H' h' b => ?_⟩
      exact k2 l' e' H' (O.line ea el h' b) (b.mono fun x hx => by rw [hx]; exact mem)
/-! ### a new order -/
abbrev LtsAt (H : Hp) : List V → List Lt → Prop := Paired (LtAt H)
theorem Paired.get {α β : Type} {F : α → β → Prop} : ∀ {l₁ : List α} {l₂ : List β} {i : Nat} {a : α} {b : β}, Paired F l₁ l₂ → l₁[i]? = some a → l₂[i]? = some b → F a b
  | _, _, _, _, _, .nil, h, _ => by simp at h
  | _, _, 0, _, _, .cons r _, h, q => by
    cases h
    cases q
    exact r
  | _, _, i + 1, _, _, .cons _ t, h, q => Paired.get (i := i) t h q
theorem But.lt {S : Addr → Prop} {H H' : Hp} (b : But S H H') {v : V} {t : Lt} (h : LtAt H v t) : LtAt H' v t := by
  obtain ⟨a, e, q⟩ := h
  exact ⟨a, e, b.tup _ _ q⟩
theorem But.lts {S : Addr → Prop} {H H' : Hp} (b : But S H H') {vs : List V} {ts : List Lt} (h : LtsAt H vs ts) : LtsAt H' vs ts := Paired.mapP h fun _ _ q => b.lt q
theorem nodup_snoc {as : List Addr} {a : Addr} (h : as.Nodup) (n : ¬ a ∈ as) : (as ++ [a]).Nodup := by
  rw [List.nodup_append]
  refine ⟨h, by simp, fun x hx y hy => ?_⟩
  have e : y = a := by simpa using hy
  subst e
  exact fun z => n (by rw [← z]; exact hx)
def spOrderInit (K : PySem.W.Frag) : Sp := fun vs H Q _ => ∃ (a dx l : Addr) (xs : List V) (ts : List Lt), vs = [.ref a, .ref l] ∧ H a = some (.ins (He.ga K "Order") dx []) ∧ SqL K H l xs ∧ LtsAt H xs ts ∧ xs.length ≤ 100000 ∧
  ∀ (p : OL) (H' : Hp), p.o = a → OdAt K H' p ⟨ts.map Lt.ln, 0, []⟩ → (∀ b, p.foot b → b = a ∨ H b = none) → But (· = a) H H' → Q .non H'
theorem len_OrderInit {K : PySem.W.Frag} {vs : List V} {H : Hp} {Q : VK} {E : XK} (h : spOrderInit K vs H Q E) : vs.length = 2 := by
  obtain ⟨_, _, _, _, _, rfl, _⟩ := h; rfl
theorem ok_OrderInit {P : Program} {w : World} {K : PySem.W.Frag} {mg : Str → Option Value} {base : Heap} (T : Tx w K mg) : FnOk P w K mg base CX0 3 (He.fAd K dOrderInit.at_) (fdO K dOrderInit.at_) P_OrderInit (spOrderInit K) := by
  refine T.f_OrderInit.ok sc_OrderInit (fun vs H Q E h => len_OrderInit h) (fun cdv A outer s H vs Q E hr h => ⟨_, PSs.nox ((pss_cons (ps_fld (pv 0) (pe_lc (own := [("told", 2)]) (g := gName 2) (tt := tYes) rfl sc_OrderInit.nd (pi_list (pv 1)) (blkOk_by (N := N_OrderInit) (sc := defScope sOrderInit) (by decide +kernel)) (fun _ _ _ _ _ => pg_name (i := 2) sc_OrderInit.nd rfl (Or.inl rfl)) (fun _ _ _ _ _ => pts_nil) (fun _ _ _ _ _ => (pe_make T.mk_Line (ok_LineInit T) (hr.mono (by decide)) rfl T.g_Line T.b_LineInit .nil pass0 (pa_cons (pv 2) pa_nil)))) rfl)
      (pss_cons (ps_fld (pv 0) pe_int rfl)
      (pss_one (ps_fld (pv 0) (pe_lst pa_nil) rfl))))), ?_⟩)
  obtain ⟨a, dx, l, xs, ts, rfl, ha, hl, pt, hz, k⟩ := h
  walk_at "rd"
  refine ⟨l, rfl, ⟨xs, hl⟩, fun D hD => ?_⟩
  refine lc_list (K := K) (a := l) (xs := xs) (fun i H' => ∃ as : List Addr, as.length = i ∧ H' D = some (.lst (as.map V.ref)) ∧ as.Nodup ∧ Same H H' ∧ (∀ b, b ∈ as → H b = none ∧ b ≠ D) ∧
    ∀ (j : Nat) b t, as[j]? = some b → ts[j]? = some t → LnAt K H' b t.ln) ⟨[], rfl, upd_same, List.nodup_nil, same_upd hD, fun b hb => (by cases hb), fun j b t h => by simp at h⟩ (fun i H' _ ⟨_, _, _, _, s, _⟩ => s.seq hl) ?_ ?_
  · rintro i x H' hi ⟨as, hlen, hd, nd, s, fr, hln⟩
    have hi2 : i < ts.length := by rw [← pt.length]; exact (List.getElem?_eq_some_iff.mp hi).1
    have ht : LtAt H' x ts[i] := (But.of (S := fun _ => False) s).lt (Paired.get pt hi (List.getElem?_eq_getElem hi2))
    refine ⟨wipe1, r_yes (r_itT ?_)⟩
    walk_at "rd"
    intro y dy ny ndy ne
    have s1 : Same H' (upd (upd H' dy (.own y)) y (.ins (He.ga K "Line") dy [])) := fun b o e => by
      rw [upd_ne (ne_of_none e ny), upd_ne (ne_of_none e ndy)]
      exact e
    refine ⟨y, dy, x, ts[i], rfl, upd_same, (But.of (S := fun _ => False) s1).lt ht, fun H2 h2 b2 => ⟨rfl, ?_⟩⟩
    have s2 : Same H' H2 := fun b o e => b2.keep _ _ (s1 _ _ e) (ne_of_none e ny)
    have nyD : y ≠ D := Ne.symm (ne_of_none hd ny)
    have nya : ¬ y ∈ as := fun hm => by
      obtain ⟨j, hj⟩ := List.getElem?_of_mem hm
      have hj2 : j < as.length := (List.getElem?_eq_some_iff.mp hj).1
      have hjt : j < ts.length := by omega
      obtain ⟨_, q⟩ := hln j y _ hj (List.getElem?_eq_getElem hjt)
      rw [q] at ny
      cases ny
    refine ⟨_, s2 _ _ hd, ?_, as ++ [y], by simp [hlen], ?_, nodup_snoc nd nya, ?_, ?_, ?_⟩
    · refine sz5l ?_
      rw [List.length_map, hlen]
      have := (List.getElem?_eq_some_iff.mp hi).1
      omega
    · rw [upd_same, List.map_append]; rfl
    · exact fun b o e => by
        rw [upd_ne (ne_of_none e hD)]
        exact s2 _ _ (s _ _ e)
    · intro b hb
      rcases List.mem_append.mp hb with h | h
      · exact fr b h
      · have e : b = y := by simpa using h
        subst e
        exact ⟨Same.free s ny, nyD⟩
    · intro j b t e1 e2
      by_cases hj : j < as.length
      · rw [List.getElem?_append_left hj] at e1
        obtain ⟨d, q⟩ := hln j b t e1 e2
        exact ⟨d, by rw [upd_ne (fr b (List.mem_of_getElem? e1)).2]; exact s2 _ _ q⟩
      · have hj2 : j = as.length := by
          have := (List.getElem?_eq_some_iff.mp e1).1
          simp at this
          omega
        subst hj2
        rw [List.getElem?_append_right (Nat.le_refl _), Nat.sub_self] at e1
        cases e1
        rw [hlen, List.getElem?_eq_getElem hi2] at e2
        cases e2
        obtain ⟨d, q⟩ := h2
        exact ⟨d, by rw [upd_ne nyD]; exact q⟩
  · rintro H2 ⟨as, hlen, hd, nd, s, fr, hln⟩
    have Da : a ≠ D := ne_of_none ha hD
    walk_at "rd"
    refine r_sf (s _ _ ha) T.cl_Order T.n_Order_lines (by walk_at "pf") (by simp) ?_
    walk_at "rd"
    refine r_sf upd_same T.cl_Order T.n_Order_money (by walk_at "pf") (by simp) ?_
    rw [upd_upd]
    walk_at "rd"
    refine r_mk (by simp) fun M hM => ?_
    have hM2 : H2 M = none := by
      by_cases z : M = a
      · subst z
        rw [upd_same] at hM
        cases hM
      · rw [upd_ne z] at hM
        exact hM
    have aM : a ≠ M := ne_of_none (s _ _ ha) hM2
    walk_at "rd"
    refine r_sf (by rw [upd_ne aM]; exact upd_same) T.cl_Order T.n_Order_marks (by walk_at "pf") (by simp) ?_
    have DM : D ≠ M := ne_of_none hd hM2
    have b1 : But (· = a) H (upd (upd (upd H2 a (.ins (He.ga K "Order") dx [("lines", .ref D), ("money", .int 0)])) M (.lst [])) a (.ins (He.ga K "Order") dx [("lines", .ref D), ("money", .int 0), ("marks", .ref M)])) := by
      have c1 : But (· = a) H (upd H2 a (.ins (He.ga K "Order") dx [("lines", .ref D), ("money", .int 0)])) := (But.of s).trans (But.ins (s _ _ ha) rfl)
      have c2 : But (· = a) H (upd (upd H2 a (.ins (He.ga K "Order") dx [("lines", .ref D), ("money", .int 0)])) M (.lst [])) := c1.trans (But.of (same_upd hM))
      exact c2.trans (But.ins (C := He.ga K "Order") (dx := dx) (fs := [("lines", .ref D), ("money", .int 0)]) (by rw [upd_ne aM]; exact upd_same) rfl)
    refine k ⟨a, D, M, as⟩ _ rfl ⟨⟨dx, upd_same⟩, ?_, by simp [hlen, pt.length], fun i c m e1 e2 => ?_, nd, DM, [], ?_, .nil⟩ ?_ b1
    · show upd _ _ _ D = _
      rw [upd_ne (Ne.symm Da), upd_ne DM, upd_ne (Ne.symm Da)]
      exact hd
    · have e2' : (ts.map Lt.ln)[i]? = some m := e2
      rw [List.getElem?_map] at e2'
      cases et : ts[i]? with
      | none => rw [et] at e2'; cases e2'
      | some t =>
        rw [et] at e2'
        cases e2'
        obtain ⟨d, q⟩ := hln i c t e1 et
        have ca : c ≠ a := Ne.symm (ne_of_none ha (fr c (List.mem_of_getElem? e1)).1)
        have cM : c ≠ M := ne_of_none q hM2
        exact ⟨d, by rw [upd_ne ca, upd_ne cM, upd_ne ca]; exact q⟩
    · show upd _ _ _ M = _
      rw [upd_ne (Ne.symm aM)]
      exact upd_same
    · intro b hb
      rcases hb with h | h | h | h
      · exact .inl h
      · rw [h]; exact .inr hD
      · rw [h]; exact .inr (Same.free s hM2)
      · exact .inr (fr b h).1

/-! ### a book -/
inductive Dd where
  | ord (ls : List Lt)
  | ln (w : Str) (o l n : Int)
  | mo (w : Str) (o n : Int)
  | mv (o p n : Int)
structure Bk where
  each : List Od
  trail : List Dd
inductive Role where
  | no | book | each | trail | deed | ord (j : Nat)
structure Lay where
  each : Addr
  trail : Addr
  ords : List OL
  own : Addr → Role
def Dd.good : Dd → Prop
  | .ord _ => True
  | .ln w _ _ _ => w = "deliver" ∨ w = "back" ∨ w = "swap" ∨ w = "credit"
  | .mo w _ _ => w = "pay" ∨ w = "refund"
  | .mv _ _ _ => True
/-- a deed as it lies: F holds of the list of an order's lines -/
def DdAt (F : Addr → Prop) (H : Hp) (v : V) : Dd → Prop
  | .ord ls => ∃ t l xs, v = .ref t ∧ H t = some (.tup [.str "order", .ref l]) ∧ H l = some (.lst xs) ∧ F l ∧ LtsAt H xs ls
  | .ln w o l n => ∃ t, v = .ref t ∧ H t = some (.tup [.str w, .int o, .int l, .int n])
  | .mo w o n => ∃ t, v = .ref t ∧ H t = some (.tup [.str w, .int o, .int n])
  | .mv o p n => ∃ t, v = .ref t ∧ H t = some (.tup [.str "move", .int o, .int p, .int n])
theorem DdAt.imp {F F' : Addr → Prop} {H : Hp} {v : V} {d : Dd} (h : DdAt F H v d) (m : ∀ a, F a → (∃ o, H a = some o) → F' a) : DdAt F' H v d := by
  cases d with
  | ord ls => obtain ⟨t, l, xs, e, h1, h2, f, q⟩ := h; exact ⟨t, l, xs, e, h1, h2, m _ f ⟨_, h2⟩, q⟩
  | _ => exact h
theorem DdAt.keep {F S : Addr → Prop} {H H' : Hp} {v : V} {d : Dd} (h : DdAt F H v d) (b : But S H H') (n : ∀ a, F a → ¬ S a) : DdAt F H' v d := by
  cases d with
  | ord ls => obtain ⟨t, l, xs, e, h1, h2, f, q⟩ := h; exact ⟨t, l, xs, e, b.tup _ _ h1, b.keep _ _ h2 (n _ f), f, b.lts q⟩
  | ln w o l n => obtain ⟨t, e, h1⟩ := h; exact ⟨t, e, b.tup _ _ h1⟩
  | mo w o n => obtain ⟨t, e, h1⟩ := h; exact ⟨t, e, b.tup _ _ h1⟩
  | mv o p n => obtain ⟨t, e, h1⟩ := h; exact ⟨t, e, b.tup _ _ h1⟩
structure BookAt (K : PySem.W.Frag) (H : Hp) (b : Addr) (B : Bk) (L : Lay) : Prop where
  ob : ∃ dx, H b = some (.ins (He.ga K "Book") dx (bkF L.each L.trail))
  rb : L.own b = .book
  ev : H L.each = some (.lst (L.ords.map fun p => V.ref p.o))
  re : L.own L.each = .each
  tr : ∃ ts, H L.trail = some (.lst ts) ∧ Paired (DdAt (fun a => L.own a = .deed) H) ts B.trail
  rt : L.own L.trail = .trail
  len : L.ords.length = B.each.length
  od : ∀ (j : Nat) p o, L.ords[j]? = some p → B.each[j]? = some o → OdAt K H p o
  ro : ∀ (j : Nat) p, L.ords[j]? = some p → ∀ a, p.foot a → L.own a = .ord j
  dom : ∀ a, L.own a ≠ .no → ∃ o, H a = some o
structure Bk.ok (B : Bk) : Prop where
  od : ∀ o, o ∈ B.each → o.ok
  few : B.each.length ≤ 40
  mks : ∀ o, o ∈ B.each → o.marks.length ≤ B.trail.length
  good : ∀ d, d ∈ B.trail → d.good
def Lay.foot (L : Lay) (a : Addr) : Prop := L.own a ≠ .no
theorem BookAt.fresh {K : PySem.W.Frag} {H : Hp} {b : Addr} {B : Bk} {L : Lay} (h : BookAt K H b B L) {a : Addr} (e : H a = none) : L.own a = .no := by
  by_cases z : L.own a = .no
  · exact z
  · obtain ⟨o, q⟩ := h.dom a z
    rw [e] at q
    cases q
theorem BookAt.keep {K : PySem.W.Frag} {S : Addr → Prop} {H H' : Hp} {b : Addr} {B : Bk} {L : Lay} (h : BookAt K H b B L) (bt : But S H H') (n : ∀ a, L.own a ≠ .no → ¬ S a) : BookAt K H' b B L where
  ob := by
    obtain ⟨dx, e⟩ := h.ob
    exact ⟨dx, bt.keep _ _ e (n _ (by rw [h.rb]; intro q; cases q))⟩
  rb := h.rb
  ev := bt.keep _ _ h.ev (n _ (by rw [h.re]; intro q; cases q))
  re := h.re
  tr := by
    obtain ⟨ts, e, q⟩ := h.tr
    exact ⟨ts, bt.keep _ _ e (n _ (by rw [h.rt]; intro q; cases q)), Paired.mapP q fun _ _ z => z.keep bt fun a f => n a (by rw [f]; intro q; cases q)⟩
  rt := h.rt
  len := h.len
  od := fun j p o e1 e2 => (h.od j p o e1 e2).keep bt fun a f => n a (by rw [h.ro j p e1 a f]; intro q; cases q)
  ro := h.ro
  dom := fun a z => by
    obtain ⟨o, e⟩ := h.dom a z
    exact ⟨o, bt.keep _ _ e (n a z)⟩
theorem BookAt.same {K : PySem.W.Frag} {H H' : Hp} {b : Addr} {B : Bk} {L : Lay} (h : BookAt K H b B L) (s : Same H H') : BookAt K H' b B L := h.keep (But.of (S := fun _ => False) s) fun _ _ => id
/-- one order is changed -/
theorem BookAt.one {K : PySem.W.Frag} {H H' : Hp} {b : Addr} {B : Bk} {L : Lay} {j : Nat} {p : OL} {o' : Od} (h : BookAt K H b B L) (hp : L.ords[j]? = some p) (O : OdAt K H' p o') (bt : But p.foot H H')
    (dm : ∀ a, p.foot a → ∃ o, H' a = some o) : BookAt K H' b { B with each := B.each.set j o' } L := by
  have n : ∀ a, L.own a ≠ .ord j → ¬ p.foot a := fun a z f => z (h.ro j p hp a f)
  refine ⟨?_, h.rb, bt.keep _ _ h.ev (n _ (by rw [h.re]; intro q; cases q)), h.re, ?_, h.rt, by simp [h.len], fun i q o e1 e2 => ?_, h.ro, fun a z => ?_⟩
  · obtain ⟨dx, e⟩ := h.ob
    exact ⟨dx, bt.keep _ _ e (n _ (by rw [h.rb]; intro q; cases q))⟩
  · obtain ⟨ts, e, q⟩ := h.tr
    exact ⟨ts, bt.keep _ _ e (n _ (by rw [h.rt]; intro q; cases q)), Paired.mapP q fun _ _ z => z.keep bt fun a f => n a (by rw [f]; intro q; cases q)⟩
  · by_cases hj : j = i
    · subst hj
      rw [hp] at e1
      cases e1
      have hl : j < B.each.length := by rw [← h.len]; exact (List.getElem?_eq_some_iff.mp hp).1
      have e2' : (B.each.set j o')[j]? = some o := e2
      rw [List.getElem?_set_self hl] at e2'
      cases e2'
      exact O
    · have e2' : (B.each.set j o')[i]? = some o := e2
      rw [List.getElem?_set_ne hj] at e2'
      refine (h.od i q o e1 e2').keep bt fun a f => n a ?_
      rw [h.ro i q e1 a f]
      intro z
      cases z
      exact hj rfl
  · by_cases f : p.foot a
    · exact dm a f
    · obtain ⟨o, e⟩ := h.dom a z
      exact ⟨o, bt.keep _ _ e f⟩
theorem OdAt.dom {K : PySem.W.Frag} {H : Hp} {p : OL} {o : Od} (O : OdAt K H p o) : ∀ a, p.foot a → ∃ u, H a = some u := by
  intro a f
  rcases f with f | f | f | f
  · obtain ⟨dx, e⟩ := O.ob
    exact ⟨_, by rw [f]; exact e⟩
  · exact ⟨_, by rw [f]; exact O.ll⟩
  · obtain ⟨ts, e, _⟩ := O.lm
    exact ⟨_, by rw [f]; exact e⟩
  · obtain ⟨i, hi⟩ := List.getElem?_of_mem f
    have hl : i < o.lines.length := by rw [← O.len]; exact (List.getElem?_eq_some_iff.mp hi).1
    obtain ⟨dx, e⟩ := O.ln i a _ hi (List.getElem?_eq_getElem hl)
    exact ⟨_, e⟩
/-- how the heap may be behind a book's method -/
structure Mod (L L' : Lay) (H H' : Hp) : Prop where
  but : But L.foot H H'
  grow : ∀ a, L'.own a ≠ .no → L.own a ≠ .no ∨ H a = none
theorem Mod.same {L : Lay} {H H' : Hp} (s : Same H H') : Mod L L H H' := ⟨But.of s, fun _ z => .inl z⟩
theorem Mod.trans {L L1 L2 : Lay} {H H1 H2 : Hp} (a : Mod L L1 H H1) (b : Mod L1 L2 H1 H2) (back : ∀ x, H1 x = none → H x = none) : Mod L L2 H H2 where
  but := a.but.mut b.but fun x z => (a.grow x z).elim .inl .inr
  grow := fun x z => (b.grow x z).elim (fun q => a.grow x q) fun q => .inr (back x q)
/-! ### the small methods -/
def spBookOrderOf (K : PySem.W.Frag) : Sp := fun vs H Q E => ∃ (b : Addr) (B : Bk) (L : Lay) (n : Int), vs = [.ref b, .int n] ∧ BookAt K H b B L ∧
  (¬ (0 ≤ n ∧ n < B.each.length) → E (.ref (He.ga K "NoOrder")) none H) ∧ ∀ (j : Nat) p o, n = (j : Int) → L.ords[j]? = some p → B.each[j]? = some o → Q (.ref p.o) H
theorem len_BookOrderOf {K : PySem.W.Frag} {vs : List V} {H : Hp} {Q : VK} {E : XK} (h : spBookOrderOf K vs H Q E) : vs.length = 2 := by
  obtain ⟨_, _, _, _, rfl, _⟩ := h; rfl
theorem ok_BookOrderOf {P : Program} {w : World} {K : PySem.W.Frag} {mg : Str → Option Value} {base : Heap} (T : Tx w K mg) : FnOk P w K mg base (L2.CX P w) 1 (He.fAd K dBookOrderOf.at_) (fdO K dBookOrderOf.at_) P_BookOrderOf (spBookOrderOf K) := by
  refine T.f_BookOrderOf.ok sc_BookOrderOf (fun vs H Q E h => len_BookOrderOf h) (fun cdv A outer s H vs Q E hr h => ⟨_, ((pss_cons (ps_if (pt_not (pt_chain op_le op_lt pe_int (pv 1) (pe_callB call_len_seq (by rfl) T.b_len (by decide +kernel) (pa_cons (pe_fld (pv 0) rfl) pa_nil)))) (pss_one (ps_raise rfl (takes_of rfl rfl rfl rfl) (pmk_own PySem.F.excBase_ValueError T.x_NoOrder.1 T.g_NoOrder T.x_NoOrder.2.1 (raises_own T.x_NoOrder.2.2.1 T.x_NoOrder.2.2.2) rfl))) pss_nil)
      (pss_one (ps_ret (pe_ix ix_list (pe_fld (pv 0) rfl) (pv 1) (fun _ _ => rfl)))))), ?_⟩)
  obtain ⟨b, B, L, n, rfl, h, k1, k2⟩ := h
  obtain ⟨dx, hb⟩ := h.ob
  walk_at "rd"
  refine r_itd (fun c => ?_) (fun c => ?_)
  · walk_at "rd"
    refine r_f hb T.cl_Book T.n_Book_each (lk_Book_each _ _) ?_
    walk_at "rd"
    refine ⟨_, _, rfl, .inl (SqL.of h.ev), ?_⟩
    walk_at "rd"
    rw [List.length_map, h.len]
    refine r_itn (fun c2 => k1 fun z => c2 z.2) (fun c2 => ?_)
    walk_at "rd"
    refine r_f hb T.cl_Book T.n_Book_each (lk_Book_each _ _) ?_
    walk_at "rd"
    obtain ⟨j, rfl⟩ : ∃ i : Nat, n = (i : Int) := ⟨n.toNat, by omega⟩
    have hj2 : j < B.each.length := by omega
    have hj : j < L.ords.length := by rw [h.len]; exact hj2
    refine r_ixL (SqL.of h.ev) (atI_get (j := j) rfl (by rw [List.getElem?_map, List.getElem?_eq_getElem hj]; rfl)) ?_
    exact k2 j _ _ rfl (List.getElem?_eq_getElem hj) (List.getElem?_eq_getElem hj2)
  · walk_at "rd"
    exact k1 fun z => c z.1
def spBookNeedNumber (K : PySem.W.Frag) : Sp := fun vs H Q E => ∃ (v : V) (n : Int), vs = [v, .int n] ∧ (n < 1 → E (.ref (He.ga K "NoNumber")) none H) ∧ (¬ n < 1 → Q .non H)
theorem len_BookNeedNumber {K : PySem.W.Frag} {vs : List V} {H : Hp} {Q : VK} {E : XK} (h : spBookNeedNumber K vs H Q E) : vs.length = 2 := by
  obtain ⟨_, _, rfl, _⟩ := h; rfl
theorem ok_BookNeedNumber {P : Program} {w : World} {K : PySem.W.Frag} {mg : Str → Option Value} {base : Heap} (T : Tx w K mg) : FnOk P w K mg base (L2.CX P w) 1 (He.fAd K dBookNeedNumber.at_) (fdO K dBookNeedNumber.at_) P_BookNeedNumber (spBookNeedNumber K) := by
  refine T.f_BookNeedNumber.ok sc_BookNeedNumber (fun vs H Q E h => len_BookNeedNumber h) (fun cdv A outer s H vs Q E hr h => ⟨_, ((pss_one (ps_if (pt_cmpR op_lt (pv 1) pe_int (nomark _)) (pss_one (ps_raise rfl (takes_of rfl rfl rfl rfl) (pmk_own PySem.F.excBase_ValueError T.x_NoNumber.1 T.g_NoNumber T.x_NoNumber.2.1 (raises_own T.x_NoNumber.2.2.1 T.x_NoNumber.2.2.2) rfl))) pss_nil))), ?_⟩)
  obtain ⟨v, n, rfl, k1, k2⟩ := h
  walk_at "rd"
  refine r_itd (fun c => k1 c) (fun c => ?_)
  walk_at "rd"
  exact k2 c
def spOwn (_ : PySem.W.Frag) : Sp := fun vs H Q _ => ∃ (v : V) (d : Dd), vs = [v] ∧ DdAt (fun _ => True) H v d ∧ d.good ∧ (∀ ls, d = .ord ls → ls.length ≤ 100000) ∧ ∀ v' H', Same H H' → DdAt (fun a => H a = none) H' v' d → Q v' H'
theorem len_Own {K : PySem.W.Frag} {vs : List V} {H : Hp} {Q : VK} {E : XK} (h : spOwn K vs H Q E) : vs.length = 1 := by
  obtain ⟨_, _, rfl, _⟩ := h; rfl
theorem good_ord {d : Dd} (g : d.good) : (∀ w o l n, d = .ln w o l n → ¬ w = "order") ∧ ∀ w o n, d = .mo w o n → ¬ w = "order" := by
  refine ⟨fun w o l n e => ?_, fun w o n e => ?_⟩
  · subst e
    rcases g with rfl | rfl | rfl | rfl <;> decide +kernel
  · subst e
    rcases g with rfl | rfl <;> decide +kernel
theorem ok_Own {P : Program} {w : World} {K : PySem.W.Frag} {mg : Str → Option Value} {base : Heap} (T : Tx w K mg) : FnOk P w K mg base CX0 1 (He.fAd K dOwn.at_) (fdO K dOwn.at_) P_Own (spOwn K) := by
  refine T.f_Own.ok sc_Own (fun vs H Q E h => len_Own h) (fun cdv A outer s H vs Q E hr h => ⟨_, PSs.nox ((pss_cons (ps_if (pt_cmpR op_eq (pe_ix ix_tup (pv 0) pe_int (fun _ _ => rfl)) pe_str (nomark _)) (pss_one (ps_ret (pe_tup (pa_cons pe_str (pa_cons (pe_lc (own := [("line", 1)]) (g := gName 1) (tt := tYes) rfl sc_Own.nd (pi_list (pe_ix ix_tup (pv 0) pe_int (fun _ _ => rfl))) (blkOk_by (N := N_Own) (sc := defScope sOwn) (by decide +kernel)) (fun _ _ _ _ _ => pg_name (i := 1) sc_Own.nd rfl (Or.inl rfl)) (fun _ _ _ _ _ => pts_nil) (fun _ _ _ _ _ => (pv 1))) pa_nil))))) pss_nil)
      (pss_one (ps_ret (pv 0))))), ?_⟩)
  obtain ⟨v, d, rfl, hd, g, few, k⟩ := h
  cases d with
  | ord ls =>
    obtain ⟨t, l, xs, rfl, ht, hl, _, pt⟩ := hd
    walk_at "rd"
    refine r_ixT (SqT.of ht) (atI_get (j := 0) rfl rfl) ?_
    walk_at "rd"
    refine r_ity rfl ?_
    walk_at "rd"
    refine r_ixT (SqT.of ht) (atI_get (j := 1) rfl rfl) ?_
    refine lcp_list (ys := xs) (SqL.of hl) rfl (by rw [pt.length]; exact few _ rfl) (fun i x y H' R ex ey s q => ?_) (fun D H' hD s e => ?_)
    · rw [ex] at ey
      cases ey
      walk_at "rd"
      exact q _ (Same.refl _)
    · walk_at "rd"
      refine r_mk (by simp) fun t2 ht2 => ?_
      refine k _ _ (s.trans (same_upd ht2)) ⟨t2, D, xs, rfl, upd_same, by rw [upd_ne (ne_of_none e ht2)]; exact e, hD, ?_⟩
      exact (But.of (S := fun _ => False) (s.trans (same_upd ht2))).lts pt
  | ln w o l n =>
    obtain ⟨t, rfl, ht⟩ := hd
    walk_at "rd"
    refine r_ixT (SqT.of ht) (atI_get (j := 0) rfl rfl) ?_
    walk_at "rd"
    refine r_itz ((good_ord g).1 _ _ _ _ rfl) ?_
    walk_at "rd"
    exact k _ _ (Same.refl _) ⟨t, rfl, ht⟩
  | mo w o n =>
    obtain ⟨t, rfl, ht⟩ := hd
    walk_at "rd"
    refine r_ixT (SqT.of ht) (atI_get (j := 0) rfl rfl) ?_
    walk_at "rd"
    refine r_itz ((good_ord g).2 _ _ _ rfl) ?_
    walk_at "rd"
    exact k _ _ (Same.refl _) ⟨t, rfl, ht⟩
  | mv o p n =>
    obtain ⟨t, rfl, ht⟩ := hd
    walk_at "rd"
    refine r_ixT (SqT.of ht) (atI_get (j := 0) rfl rfl) ?_
    walk_at "rd"
    refine r_itz (by decide +kernel) ?_
    walk_at "rd"
    exact k _ _ (Same.refl _) ⟨t, rfl, ht⟩

/-! ### what a deed does -/
def errV (K : PySem.W.Frag) (e : Er) : Value := .ref (He.ga K e.name)
def firstErr (ls : List Lt) : Option Er := ls.findSome? ltCheck
def ordErr (n : Nat) (ls : List Lt) : Option Er := if ¬ (1 ≤ ls.length ∧ ls.length ≤ 20) then some .noLines else match firstErr ls with
  | some e => some e
  | none => if n = 40 then some .fullBook else none
def at_ {α : Type} (xs : List α) (n : Int) : Option (Nat × α) := if 0 ≤ n then (xs[n.toNat]?).map fun x => (n.toNat, x) else none
theorem at_some {α : Type} {xs : List α} {j : Nat} {x : α} (h : xs[j]? = some x) : at_ xs (j : Int) = some (j, x) := by
  unfold at_
  rw [if_pos (by omega)]
  simp [h]
theorem at_0 {α : Type} {x : α} {xs : List α} : at_ (x :: xs) 0 = some (0, x) := by
  simp [at_]
theorem at_none {α : Type} {xs : List α} {n : Int} (h : ¬ (0 ≤ n ∧ n < xs.length)) : at_ xs n = none := by
  unfold at_
  by_cases c : 0 ≤ n
  · rw [if_pos c, List.getElem?_eq_none (by omega)]; rfl
  · rw [if_neg c]
theorem at_of {α : Type} {xs : List α} {n : Int} {j : Nat} {x : α} (h : at_ xs n = some (j, x)) : n = (j : Int) ∧ xs[j]? = some x := by
  unfold at_ at h
  by_cases c : 0 ≤ n
  · rw [if_pos c] at h
    cases e : xs[n.toNat]? with
    | none => rw [e] at h; cases h
    | some y =>
      rw [e] at h
      cases h
      exact ⟨by omega, e⟩
  · rw [if_neg c] at h
    cases h
theorem at_or {α : Type} (xs : List α) (n : Int) : (at_ xs n = none ∧ ¬ (0 ≤ n ∧ n < xs.length)) ∨ ∃ (j : Nat) (x : α), n = (j : Int) ∧ xs[j]? = some x ∧ at_ xs n = some (j, x) := by
  by_cases c : 0 ≤ n ∧ n < xs.length
  · obtain ⟨j, rfl⟩ : ∃ i : Nat, n = (i : Int) := ⟨n.toNat, by omega⟩
    have hj : j < xs.length := by omega
    exact .inr ⟨j, xs[j], rfl, List.getElem?_eq_getElem hj, at_some (List.getElem?_eq_getElem hj)⟩
  · exact .inl ⟨at_none c, c⟩
def Od.pay (o : Od) (n : Int) : Od := { o with money := o.money + n }
def Od.mark (o : Od) (w : Str) (c : Int) : Od := { o with marks := o.marks ++ [(w, c)] }
abbrev Res := Except Er (List Od × List (Int × Int))
def stepLn (es : List Od) (w : Str) (o l n : Int) : Res := match at_ es o with
  | none => .error .noOrder
  | some (j, od) => match at_ od.lines l with
    | none => .error .noLine
    | some (i, x) => if n < 1 then .error .noNumber else match x.turn w n with
      | none => .error .tooMuch
      | some x' => .ok (es.set j (Od.mark { od with lines := od.lines.set i x' } w (Od.owing { od with lines := od.lines.set i x' } - od.owing)), [(o, Od.owing { od with lines := od.lines.set i x' } - od.owing)])
def stepMo (es : List Od) (w : Str) (o n : Int) : Res := match at_ es o with
  | none => .error .noOrder
  | some (j, od) => if n < 1 then .error .noNumber else if w = "pay" then .ok (es.set j (Od.mark (od.pay n) w ((od.pay n).owing - od.owing)), [(o, (od.pay n).owing - od.owing)])
    else if n > -od.owing then .error .tooMuch else .ok (es.set j (Od.mark (od.pay (-n)) w ((od.pay (-n)).owing - od.owing)), [(o, (od.pay (-n)).owing - od.owing)])
def stepMv (es : List Od) (o p n : Int) : Res := match at_ es o with
  | none => .error .noOrder
  | some (i, a) => match at_ es p with
    | none => .error .noOrder
    | some (j, b) => if o = p then .error .sameOrder else if n < 1 then .error .noNumber else if n > -a.owing then .error .tooMuch
      else .ok ((es.set i (Od.mark (a.pay (-n)) "move" ((a.pay (-n)).owing - a.owing))).set j (Od.mark (b.pay n) "move" ((b.pay n).owing - b.owing)), [(o, (a.pay (-n)).owing - a.owing), (p, (b.pay n).owing - b.owing)])
def stepOrd (es : List Od) (ls : List Lt) : Res := match ordErr es.length ls with
  | some e => .error e
  | none => .ok (es ++ [⟨ls.map Lt.ln, 0, []⟩], [])
def step (es : List Od) : Dd → Res
  | .ord ls => stepOrd es ls
  | .ln w o l n => stepLn es w o l n
  | .mo w o n => stepMo es w o n
  | .mv o p n => stepMv es o p n
/-- what a deed changed, as it is told -/
def PrAt (H : Hp) (v : V) (c : Int × Int) : Prop := ∃ t, v = .ref t ∧ H t = some (.tup [.int c.1, .int c.2])
def ChAt (H : Hp) (r : Addr) (cs : List (Int × Int)) : Prop := ∃ xs, H r = some (.lst xs) ∧ Paired (PrAt H) xs cs
theorem But.prs {S : Addr → Prop} {H H' : Hp} (b : But S H H') {xs : List V} {cs : List (Int × Int)} (h : Paired (PrAt H) xs cs) : Paired (PrAt H') xs cs := Paired.mapP h fun _ _ ⟨t, e, q⟩ => ⟨t, e, b.tup _ _ q⟩
/-! ### a new order -/
noncomputable def Lay.add (L : Lay) (p : OL) : Lay := ⟨L.each, L.trail, L.ords ++ [p], fun a => @ite _ (p.foot a) (Classical.propDecidable _) (.ord L.ords.length) (L.own a)⟩
theorem Lay.add_in {L : Lay} {p : OL} {a : Addr} (h : p.foot a) : (L.add p).own a = .ord L.ords.length := by
  exact @if_pos _ (Classical.propDecidable _) h _ _ _
theorem Lay.add_out {L : Lay} {p : OL} {a : Addr} (h : ¬ p.foot a) : (L.add p).own a = L.own a := by
  exact @if_neg _ (Classical.propDecidable _) h _ _ _
theorem BookAt.add {K : PySem.W.Frag} {H H2 : Hp} {b : Addr} {B : Bk} {L : Lay} {p : OL} {o : Od} (h : BookAt K H b B L) (hx : ∀ a, p.foot a → H a = none) (O : OdAt K H2 p o) (s : Same H H2) :
    BookAt K (upd H2 L.each (.lst ((L.ords ++ [p]).map fun p => V.ref p.o))) b { B with each := B.each ++ [o] } (L.add p) ∧ Mod L (L.add p) H (upd H2 L.each (.lst ((L.ords ++ [p]).map fun p => V.ref p.o))) := by
  have ev2 := s _ _ h.ev
  have bt : But (· = L.each) H (upd H2 L.each (.lst ((L.ords ++ [p]).map fun p => V.ref p.o))) := (But.of s).trans (But.lst ev2 rfl)
  have bt2 : But (· = L.each) H2 (upd H2 L.each (.lst ((L.ords ++ [p]).map fun p => V.ref p.o))) := But.lst ev2 rfl
  have old : ∀ a, L.own a ≠ .no → ¬ p.foot a := fun a z f => by
    obtain ⟨u, q⟩ := h.dom a z
    rw [hx a f] at q
    cases q
  have fe : ∀ a, p.foot a → ¬ a = L.each := fun a f z => by
    have q := h.ev
    rw [← z, hx a f] at q
    cases q
  have own : ∀ a, L.own a ≠ .no → (L.add p).own a = L.own a := fun a z => Lay.add_out (old a z)
  have z1 : ∀ {r : Role} {a : Addr}, L.own a = r → r ≠ .no → (L.add p).own a = r := fun {r a} e n => by
    rw [own a (by rw [e]; exact n), e]
  refine ⟨⟨?_, z1 h.rb (by intro q; cases q), upd_same, z1 h.re (by intro q; cases q), ?_, z1 h.rt (by intro q; cases q), by simp [Lay.add, h.len], fun j q u e1 e2 => ?_, fun j q e1 a f => ?_, fun a z => ?_⟩, ⟨?_, ?_⟩⟩
  · obtain ⟨dx, e⟩ := h.ob
    exact ⟨dx, bt.keep _ _ e (ne_of e h.ev (by intro q; cases q))⟩
  · obtain ⟨ts, e, q⟩ := h.tr
    refine ⟨ts, bt.keep _ _ e fun z => ?_, Paired.mapP q fun _ _ z => (z.keep bt fun a f y => ?_).imp fun a f _ => z1 f (by intro q; cases q)⟩
    · have q1 := h.rt
      have z' : L.trail = L.each := z
      rw [z', h.re] at q1
      cases q1
    · have f' : L.own a = .deed := f
      have y' : a = L.each := y
      rw [y', h.re] at f'
      cases f'
  · by_cases hj : j < L.ords.length
    · have e1' : (L.ords ++ [p])[j]? = some q := e1
      rw [List.getElem?_append_left hj] at e1'
      have e2' : (B.each ++ [o])[j]? = some u := e2
      rw [List.getElem?_append_left (by rw [← h.len]; exact hj)] at e2'
      refine (h.od j q u e1' e2').keep bt fun a f z => ?_
      have q1 := h.ro j q e1' a f
      have z' : a = L.each := z
      rw [z', h.re] at q1
      cases q1
    · have e1' : (L.ords ++ [p])[j]? = some q := e1
      have hj2 : j = L.ords.length := by
        have := (List.getElem?_eq_some_iff.mp e1').1
        simp at this
        omega
      subst hj2
      rw [List.getElem?_append_right (Nat.le_refl _), Nat.sub_self] at e1'
      cases e1'
      have e2' : (B.each ++ [o])[L.ords.length]? = some u := e2
      rw [h.len, List.getElem?_append_right (Nat.le_refl _), Nat.sub_self] at e2'
      cases e2'
      exact O.keep bt2 fun a f z => fe a f z
  · by_cases hj : j < L.ords.length
    · have e1' : (L.ords ++ [p])[j]? = some q := e1
      rw [List.getElem?_append_left hj] at e1'
      exact z1 (h.ro j q e1' a f) (by intro q; cases q)
    · have e1' : (L.ords ++ [p])[j]? = some q := e1
      have hj2 : j = L.ords.length := by
        have := (List.getElem?_eq_some_iff.mp e1').1
        simp at this
        omega
      subst hj2
      rw [List.getElem?_append_right (Nat.le_refl _), Nat.sub_self] at e1'
      cases e1'
      exact Lay.add_in f
  · by_cases f : p.foot a
    · obtain ⟨u, q⟩ := O.dom a f
      exact ⟨u, bt2.keep _ _ q (fe a f)⟩
    · rw [Lay.add_out f] at z
      by_cases y : a = L.each
      · exact ⟨_, by rw [y]; exact upd_same⟩
      · obtain ⟨u, q⟩ := h.dom a z
        exact ⟨u, bt.keep _ _ q y⟩
  · refine bt.mono fun a y => ?_
    have y' : a = L.each := y
    show L.own a ≠ .no
    rw [y', h.re]
    intro q
    cases q
  · intro a z
    by_cases f : p.foot a
    · exact .inr (hx a f)
    · rw [Lay.add_out f] at z
      exact .inl z
theorem firstErr_at {ls : List Lt} {i : Nat} {t : Lt} {e : Er} (h : ∀ (j : Nat) u, j < i → ls[j]? = some u → ltCheck u = none) (ht : ls[i]? = some t) (he : ltCheck t = some e) : firstErr ls = some e := by
  induction ls generalizing i with
  | nil => simp at ht
  | cons a l ih =>
    cases i with
    | zero =>
      cases ht
      unfold firstErr
      rw [List.findSome?_cons, he]
    | succ n =>
      have ha : ltCheck a = none := h 0 a (Nat.succ_pos _) rfl
      have q := ih (i := n) (fun j u hj hu => h (j + 1) u (by omega) (by simpa using hu)) (by simpa using ht)
      unfold firstErr at q ⊢
      rw [List.findSome?_cons, ha]
      exact q
theorem firstErr_none {ls : List Lt} (h : ∀ (j : Nat) u, j < ls.length → ls[j]? = some u → ltCheck u = none) : firstErr ls = none := by
  unfold firstErr
  rw [List.findSome?_eq_none_iff]
  intro x hx
  obtain ⟨j, hj⟩ := List.getElem?_of_mem hx
  exact h j x (List.getElem?_eq_some_iff.mp hj).1 hj
def spBookBegin (K : PySem.W.Frag) : Sp := fun vs H Q E => ∃ (b : Addr) (B : Bk) (L : Lay) (l : Addr) (xs : List V) (ls : List Lt), vs = [.ref b, .ref l] ∧ BookAt K H b B L ∧ B.each.length ≤ 40 ∧ H l = some (.lst xs) ∧ LtsAt H xs ls ∧ xs.length ≤ 100000 ∧
  (∀ t, t ∈ ls → t.item.length ≤ 100000) ∧ (∀ e, ordErr B.each.length ls = some e → E (errV K e) none H) ∧
  (ordErr B.each.length ls = none → ∀ r L' H', BookAt K H' b { B with each := B.each ++ [⟨ls.map Lt.ln, 0, []⟩] } L' → Mod L L' H H' → (∀ a, H' a = none → H a = none) → H r = none → L'.own r = .no → H' r = some (.lst []) → Q (.ref r) H')
theorem len_BookBegin {K : PySem.W.Frag} {vs : List V} {H : Hp} {Q : VK} {E : XK} (h : spBookBegin K vs H Q E) : vs.length = 2 := by
  obtain ⟨_, _, _, _, _, _, rfl, _⟩ := h; rfl
theorem ok_BookBegin {P : Program} {w : World} {K : PySem.W.Frag} {mg : Str → Option Value} {base : Heap} (T : Tx w K mg) : FnOk P w K mg base (L2.CX P w) 5 (He.fAd K dBookBegin.at_) (fdO K dBookBegin.at_) P_BookBegin (spBookBegin K) := by
  refine T.f_BookBegin.ok sc_BookBegin (fun vs H Q E h => len_BookBegin h) (fun cdv A outer s H vs Q E hr h => ⟨_, ((pss_cons (ps_if (pt_not (pt_chain op_le op_le pe_int (pe_callB call_len_seq (by rfl) T.b_len (by decide +kernel) (pa_cons (pv 1) pa_nil)) (pe_gc rfl T.c_MOST_LINES))) (pss_one (ps_raise rfl (takes_of rfl rfl rfl rfl) (pmk_own PySem.F.excBase_ValueError T.x_NoLines.1 T.g_NoLines T.x_NoLines.2.1 (raises_own T.x_NoLines.2.2.1 T.x_NoLines.2.2.2) rfl))) pss_nil)
      (pss_cons (ps_for (passes_of rfl) rfl (pi_list (pv 1)) (pg_name (i := 2) sc_BookBegin.nd rfl (Or.inl rfl)) (pss_one (ps_expr (pe_call (ok_CheckLine T) (hr.mono (by decide)) rfl T.g_CheckLine T.f_CheckLine.kp T.b_CheckLine .nil (passes_call (takes_of rfl rfl rfl rfl) (fun _ _ _ _ h => h)) (pa_cons (pv 2) pa_nil)))))
      (pss_cons (ps_if (pt_cmpR op_eq (pe_callB call_len_seq (by rfl) T.b_len (by decide +kernel) (pa_cons (pe_fld (pv 0) rfl) pa_nil)) (pe_gc rfl T.c_MOST_ORDERS) (nomark _)) (pss_one (ps_raise rfl (takes_of rfl rfl rfl rfl) (pmk_own PySem.F.excBase_ValueError T.x_FullBook.1 T.g_FullBook T.x_FullBook.2.1 (raises_own T.x_FullBook.2.2.1 T.x_FullBook.2.2.2) rfl))) pss_nil)
      (pss_cons (ps_expr (pe_bm PySem.F.plainAttrs_list PySem.F.slot_list_append PySem.F.type_list_append mt_append (pe_fld (pv 0) rfl) (pa_cons (pe_make T.mk_Order (ok_OrderInit T) (hr.mono (by decide)) rfl T.g_Order T.b_OrderInit .nil pass0 (pa_cons (pv 1) pa_nil)) pa_nil)))
      (pss_one (ps_ret (pe_lst pa_nil)))))))), ?_⟩)
  obtain ⟨b, B, L, l, xs, ls, rfl, h, hfew, hl, pt, hz, hit, kE, k⟩ := h
  obtain ⟨dx, hb⟩ := h.ob
  have len := pt.length
  walk_at "rd"
  refine ⟨_, _, rfl, .inl (SqL.of hl), ?_⟩
  walk_at "rd"
  have bad : ¬ (1 ≤ ls.length ∧ ls.length ≤ 20) → E (.ref (He.ga K "NoLines")) none H := fun n => kE .noLines (by unfold ordErr; rw [if_pos n])
  refine r_itd (fun c1 => ?_) (fun c1 => ?_)
  rotate_left
  · walk_at "rd"
    exact bad fun z => by omega
  walk_at "rd"
  refine r_itn (fun c2 => ?_) (fun c2 => ?_)
  · exact bad fun z => by omega
  walk_at "rd"
  have gl : 1 ≤ ls.length ∧ ls.length ≤ 20 := by omega
  refine ⟨l, rfl, ⟨xs, SqL.of hl⟩, for_list (K := K) (a := l) (xs := xs) (fun i σ H' => ∃ v, σ = [some (.ref b), some (.ref l), v] ∧ H' = H ∧ ∀ (j : Nat) u, j < i → ls[j]? = some u → ltCheck u = none)
    ⟨none, rfl, rfl, fun j u hj => absurd hj (Nat.not_lt_zero _)⟩ (fun i σ H' _ ⟨_, _, e, _⟩ => by rw [e]; exact SqL.of hl) ?_ ?_⟩
  · rintro i x σ H' hi ⟨v, rfl, rfl, hp⟩
    have hi2 : i < ls.length := by rw [← len]; exact (List.getElem?_eq_some_iff.mp hi).1
    have et : ls[i]? = some ls[i] := List.getElem?_eq_getElem hi2
    walk_at "rd"
    refine ⟨x, ls[i], rfl, Paired.get pt hi et, hit _ (List.mem_of_getElem? et), ?_⟩
    cases ce : ltCheck ls[i] with
    | none =>
      refine ⟨_, rfl, rfl, fun j u hj hu => ?_⟩
      by_cases hji : j = i
      · subst hji
        rw [et] at hu
        cases hu
        exact ce
      · exact hp j u (by omega) hu
    | some e =>
      refine kE e ?_
      unfold ordErr
      rw [if_neg (fun z => z gl), firstErr_at hp et ce]
  · rintro σ H' ⟨v, rfl, rfl, hp⟩
    have fe : firstErr ls = none := firstErr_none fun j u hj hu => hp j u (by rw [len]; exact hj) hu
    walk_at "rd"
    refine r_f hb T.cl_Book T.n_Book_each (lk_Book_each _ _) ?_
    walk_at "rd"
    refine ⟨_, _, rfl, .inl (SqL.of h.ev), ?_⟩
    walk_at "rd"
    rw [List.length_map, h.len]
    refine r_itd (fun c => ?_) (fun c => ?_)
    · walk_at "rd"
      refine kE .fullBook ?_
      unfold ordErr
      rw [if_neg (fun z => z gl), fe]
      show (if B.each.length = 40 then some Er.fullBook else none) = _
      rw [if_pos (by omega)]
    walk_at "rd"
    refine r_f hb T.cl_Book T.n_Book_each (lk_Book_each _ _) ?_
    refine r_tyL (SqL.of h.ev) ?_
    walk_at "rd"
    intro x dy nx ndy ne
    have s1 : Same H' (upd (upd H' dy (.own x)) x (.ins (He.ga K "Order") dy [])) := fun a u e => by
      rw [upd_ne (ne_of_none e nx), upd_ne (ne_of_none e ndy)]
      exact e
    refine ⟨x, dy, l, xs, ls, rfl, upd_same, s1.seq (SqL.of hl), (But.of (S := fun _ => False) s1).lts pt, hz, fun p H2 hpo O hfr b2 => ⟨rfl, ?_⟩⟩
    have s2 : Same H' H2 := fun a u e => b2.keep _ _ (s1 _ _ e) (ne_of_none e nx)
    walk_at "rd"
    refine r_app (s2 _ _ h.ev) (by rw [List.length_map, h.len]; refine sz5l ?_; omega) ?_
    have hfoot : ∀ a, p.foot a → H' a = none := fun a f => by
      rcases hfr a f with z | z
      · rw [z]; exact nx
      · exact Same.free s1 z
    obtain ⟨BA, MA⟩ := h.add hfoot O s2
    have e3 : (L.ords ++ [p]).map (fun p => V.ref p.o) = L.ords.map (fun p => V.ref p.o) ++ [V.ref x] := by
      rw [List.map_append, ← hpo]; rfl
    rw [e3] at BA MA
    walk_at "rd"
    refine r_mk (by simp) fun r hr => ?_
    have back : ∀ a, upd H2 L.each (.lst (L.ords.map (fun p => V.ref p.o) ++ [V.ref x])) a = none → H' a = none := fun a e => by
      by_cases z : a = L.each
      · rw [z, upd_same] at e; cases e
      · rw [upd_ne z] at e
        exact Same.free s2 e
    refine k ?_ r (L.add p) _ (BA.same (same_upd hr)) ⟨MA.but.trans (But.of (same_upd hr)), MA.grow⟩ (fun a e => back a ?_) (back r hr) (BA.fresh hr) upd_same
    · unfold ordErr
      rw [if_neg (fun z => z gl), fe]
      show (if B.each.length = 40 then some Er.fullBook else none) = none
      rw [if_neg (by omega)]
    · by_cases z : a = r
      · rw [z, upd_same] at e; cases e
      · rw [upd_ne z] at e
        exact e

/-! ### deeds of one order, moves -/
theorem turn_ok {w : Str} {l l' : Ln} {n : Int} (h : l.ok) (e : l.turn w n = some l') : l'.ok := by
  unfold Ln.turn Ln.deliver Ln.reduce Ln.bring Ln.cut at e
  obtain ⟨h1, h2⟩ := h
  repeat' split at e
  all_goals first
    | (cases e; exact ⟨h1, h2⟩)
    | cases e
theorem Od.ok.line {o : Od} {i : Nat} {l l' : Ln} {w : Str} {n : Int} (h : o.ok) (el : o.lines[i]? = some l) (e : l.turn w n = some l') : Od.ok { o with lines := o.lines.set i l' } := by
  refine ⟨fun x hx => ?_, by simpa using h.few⟩
  have hx' : x ∈ o.lines.set i l' := hx
  rcases List.mem_or_eq_of_mem_set hx' with z | z
  · exact h.ln x z
  · rw [z]
    exact turn_ok (h.ln l (List.mem_of_getElem? el)) e
theorem Od.ok.pay {o : Od} {n : Int} (h : o.ok) : (o.pay n).ok := ⟨h.ln, h.few⟩
theorem Od.ok.mark {o : Od} {w : Str} {n : Int} (h : o.ok) : (o.mark w n).ok := ⟨h.ln, h.few⟩
theorem BookAt.footOf {K : PySem.W.Frag} {H : Hp} {b : Addr} {B : Bk} {L : Lay} {j : Nat} {p : OL} (h : BookAt K H b B L) (hp : L.ords[j]? = some p) : ∀ a, p.foot a → L.foot a := fun a f => by
  show L.own a ≠ .no
  rw [h.ro j p hp a f]
  intro q
  cases q
theorem OL.foot_las {p : OL} {a : Addr} (h : a ∈ p.las) : p.foot a := .inr (.inr (.inr h))
theorem OL.foot_lm {p : OL} {a : Addr} (h : a = p.lm) : p.foot a := .inr (.inr (.inl h))
theorem OL.foot_o {p : OL} {a : Addr} (h : a = p.o) : p.foot a := .inl h
/-- what a deed of one order ends in: the pair told in a new list -/
def OneK (K : PySem.W.Frag) (b : Addr) (B : Bk) (L : Lay) (H : Hp) (r : Res) (Q : VK) (E : XK) : Prop :=
  (∀ e, r = .error e → ∀ H', Same H H' → E (errV K e) none H') ∧
  ∀ es cs, r = .ok (es, cs) → ∀ r H', BookAt K H' b { B with each := es } L → But L.foot H H' → (∀ a, H' a = none → H a = none) → H r = none → ChAt H' r cs → Q (.ref r) H'
def spBookOne (K : PySem.W.Frag) : Sp := fun vs H Q E => ∃ (b : Addr) (B : Bk) (L : Lay) (v : V) (d : Dd), vs = [.ref b, v] ∧ BookAt K H b B L ∧ B.ok ∧ B.trail.length < 100000 ∧ DdAt (fun _ => True) H v d ∧
  ((∃ w o l n, d = .ln w o l n) ∨ ∃ w o n, d = .mo w o n) ∧ OneK K b B L H (step B.each d) Q E
theorem len_BookOne {K : PySem.W.Frag} {vs : List V} {H : Hp} {Q : VK} {E : XK} (h : spBookOne K vs H Q E) : vs.length = 2 := by
  obtain ⟨_, _, _, _, _, rfl, _⟩ := h; rfl
theorem same_none {H H' : Hp} (s : Same H H') {a : Addr} (h : H' a = none) : H a = none := Same.free s h
theorem upd_none {H : Hp} {a b : Addr} {o : HO} (h : upd H a o b = none) : b ≠ a ∧ H b = none := by
  by_cases z : b = a
  · rw [z, upd_same] at h; cases h
  · rw [upd_ne z] at h
    exact ⟨z, h⟩
/-- nothing goes -/
def Stay (H H' : Hp) : Prop := ∀ a, H' a = none → H a = none
theorem But.stay {p : OL} {K : PySem.W.Frag} {H H' : Hp} {o : Od} (b : But p.foot H H') (O : OdAt K H' p o) : Stay H H' := fun a e => by
  cases q : H a with
  | none => rfl
  | some u =>
    by_cases f : p.foot a
    · obtain ⟨x, z⟩ := O.dom a f
      rw [z] at e; cases e
    · rw [b.keep _ _ q f] at e; cases e
/-- the end of a deed of one order: mark, the pair, the list -/
theorem one_end {K : PySem.W.Frag} {H H1 H2 : Hp} {b : Addr} {B : Bk} {L : Lay} {j : Nat} {p : OL} {od' : Od} {o c : Int} {Q : VK} {t r : Addr} (h : BookAt K H b B L) (hp : L.ords[j]? = some p) (s : Same H H1)
    (O : OdAt K H2 p od') (bt : But p.foot H1 H2) (ht : H2 t = none) (hr : upd H2 t (.tup [.int o, .int c]) r = none)
    (k : ∀ r H', BookAt K H' b { B with each := B.each.set j od' } L → But L.foot H H' → (∀ a, H' a = none → H a = none) → H r = none → ChAt H' r [(o, c)] → Q (.ref r) H') :
    Q (.ref r) (upd (upd H2 t (.tup [.int o, .int c])) r (.lst [.ref t])) := by
  obtain ⟨rt, r2⟩ := upd_none hr
  have h1 := h.same s
  have h2 := h1.one hp O bt O.dom
  have s3 : Same H2 (upd (upd H2 t (.tup [.int o, .int c])) r (.lst [.ref t])) := (same_upd ht).trans (same_upd hr)
  refine k r _ (h2.same s3) (((But.of s).trans (bt.mono (h1.footOf hp))).trans (But.of s3)) (fun a e => same_none s (bt.stay O a (same_none s3 e))) (same_none s (bt.stay O r r2)) ⟨[.ref t], upd_same, .cons ⟨t, rfl, ?_⟩ .nil⟩
  rw [upd_ne (Ne.symm rt)]
  exact upd_same
theorem ok_BookOne {P : Program} {w : World} {K : PySem.W.Frag} {mg : Str → Option Value} {base : Heap} (T : Tx w K mg) : FnOk P w K mg base (L2.CX P w) 6 (He.fAd K dBookOne.at_) (fdO K dBookOne.at_) P_BookOne (spBookOne K) := by
  refine T.f_BookOne.ok sc_BookOne (fun vs H Q E h => len_BookOne h) (fun cdv A outer s H vs Q E hr h => ⟨_, ((pss_cons (ps_set (i := 2) sc_BookOne.nd rfl (Or.inl rfl) (pe_meth (pv 0) T.cl_Book T.m_Book_order_of (ok_BookOrderOf T) (hr.mono (by decide)) T.b_BookOrderOf .nil (passes_call (takes_of rfl rfl rfl rfl) (fun _ _ _ _ h => h)) (pa_cons (pe_ix ix_tup (pv 1) pe_int (fun _ _ => rfl)) pa_nil)))
      (pss_cons (ps_if (pt_cmpR op_eq (pe_callB call_len_seq (by rfl) T.b_len (by decide +kernel) (pa_cons (pv 1) pa_nil)) pe_int (nomark _)) (pss_one (ps_expr (pe_meth (pv 2) T.cl_Order T.m_Order_line_of (ok_OrderLineOf T) (hr.mono (by decide)) T.b_OrderLineOf .nil (passes_call (takes_of rfl rfl rfl rfl) (fun _ _ _ _ h => h)) (pa_cons (pe_ix ix_tup (pv 1) pe_int (fun _ _ => rfl)) pa_nil)))) pss_nil)
      (pss_cons (ps_set (i := 3) sc_BookOne.nd rfl (Or.inl rfl) (pe_ix ix_tup (pv 1) (pe_op op_sub (pe_callB call_len_seq (by rfl) T.b_len (by decide +kernel) (pa_cons (pv 1) pa_nil)) pe_int) (fun _ _ => rfl)))
      (pss_cons (ps_expr (pe_meth (pv 0) T.cl_Book T.m_Book_need_number (ok_BookNeedNumber T) (hr.mono (by decide)) T.b_BookNeedNumber .nil (passes_call (takes_of rfl rfl rfl rfl) (fun _ _ _ _ h => h)) (pa_cons (pv 3) pa_nil)))
      (pss_cons (ps_set (i := 4) sc_BookOne.nd rfl (Or.inl rfl) (pe_meth0 (pv 2) T.cl_Order T.m_Order_owing (ok_OrderOwing T) (hr.mono (by decide)) T.b_OrderOwing .nil pass0))
      (pss_cons (ps_if (pt_cmpR op_eq (pe_callB call_len_seq (by rfl) T.b_len (by decide +kernel) (pa_cons (pv 1) pa_nil)) pe_int (nomark _)) (pss_one (ps_expr (pe_meth (pv 2) T.cl_Order T.m_Order_turn_line (ok_OrderTurnLine T) (hr.mono (by decide)) T.b_OrderTurnLine .nil (passes_call (takes_of rfl rfl rfl rfl) (fun _ _ _ _ h => h)) (pa_cons (pe_ix ix_tup (pv 1) pe_int (fun _ _ => rfl)) (pa_cons (pe_ix ix_tup (pv 1) pe_int (fun _ _ => rfl)) (pa_cons (pv 3) pa_nil)))))) (pss_one (ps_if (pt_cmpR op_eq (pe_ix ix_tup (pv 1) pe_int (fun _ _ => rfl)) pe_str (nomark _)) (pss_one (ps_expr (pe_meth (pv 2) T.cl_Order T.m_Order_take (ok_OrderTake T) (hr.mono (by decide)) T.b_OrderTake .nil pass0 (pa_cons (pv 3) pa_nil)))) (pss_cons (ps_expr (pe_meth (pv 2) T.cl_Order T.m_Order_need_over (ok_OrderNeedOver T) (hr.mono (by decide)) T.b_OrderNeedOver .nil (passes_call (takes_of rfl rfl rfl rfl) (fun _ _ _ _ h => h)) (pa_cons (pv 3) pa_nil)))
      (pss_one (ps_expr (pe_meth (pv 2) T.cl_Order T.m_Order_take (ok_OrderTake T) (hr.mono (by decide)) T.b_OrderTake .nil pass0 (pa_cons (pe_un un_neg (pv 3)) pa_nil))))))))
      (pss_one (ps_ret (pe_lst (pa_cons (pe_tup (pa_cons (pe_ix ix_tup (pv 1) pe_int (fun _ _ => rfl)) (pa_cons (pe_meth (pv 2) T.cl_Order T.m_Order_mark (ok_OrderMark T) (hr.mono (by decide)) T.b_OrderMark .nil pass0 (pa_cons (pe_ix ix_tup (pv 1) pe_int (fun _ _ => rfl)) (pa_cons (pv 4) pa_nil))) pa_nil))) pa_nil))))))))))), ?_⟩)
  obtain ⟨b, B, L, v, d, rfl, h, ok, hz, hd, hc, kE, k⟩ := h
  obtain ⟨dx, hb⟩ := h.ob
  rcases hc with ⟨w', o, l, n, rfl⟩ | ⟨w', o, n, rfl⟩
  · obtain ⟨t, rfl, ht⟩ := hd
    walk_at "rd"
    refine r_m hb (no_Book_order_of _ _) ?_
    walk_at "rd"
    refine r_ixT (SqT.of ht) (atI_get (j := 1) rfl rfl) ?_
    walk_at "rd"
    change (∀ e, stepLn B.each w' o l n = .error e → _) at kE
    change (∀ es cs, stepLn B.each w' o l n = .ok (es, cs) → _) at k
    unfold stepLn at kE k
    refine ⟨b, B, L, o, rfl, h, fun c => kE .noOrder (by rw [at_none c]) _ (Same.refl _), fun j p od ej ep eo => ?_⟩
    subst ej
    rw [at_some eo] at kE k
    dsimp only at kE k
    have O := h.od j p od ep eo
    obtain ⟨do_, ho⟩ := O.ob
    have oko := ok.od od (List.mem_of_getElem? eo)
    walk_at "rd"
    refine ⟨_, _, rfl, .inr (SqT.of ht), ?_⟩
    walk_at "rd"
    refine r_ity rfl ?_
    walk_at "rd"
    refine r_m ho (no_Order_line_of _ _ _) ?_
    walk_at "rd"
    refine r_ixT (SqT.of ht) (atI_get (j := 2) rfl rfl) ?_
    walk_at "rd"
    refine ⟨p, od, l, rfl, O, fun c => kE .noLine (by rw [at_none c]) _ (Same.refl _), fun i a ei ea => ?_⟩
    subst ei
    have hi : i < od.lines.length := by rw [← O.len]; exact (List.getElem?_eq_some_iff.mp ea).1
    have el : od.lines[i]? = some od.lines[i] := List.getElem?_eq_getElem hi
    rw [at_some el] at kE k
    dsimp only at kE k
    walk_at "rd"
    refine ⟨_, _, rfl, .inr (SqT.of ht), ?_⟩
    walk_at "rd"
    refine r_ixT (SqT.of ht) (atI_get (j := 3) rfl rfl) ?_
    walk_at "rd"
    refine r_m hb (no_Book_need_number _ _) ?_
    walk_at "rd"
    refine ⟨_, n, rfl, fun c => kE .noNumber (by rw [if_pos c]) _ (Same.refl _), fun c => ?_⟩
    rw [if_neg c] at kE k
    walk_at "rd"
    refine r_m ho (no_Order_owing _ _ _) ?_
    walk_at "rd"
    refine ⟨p, od, rfl, O, oko, fun H1 s1 => ?_⟩
    walk_at "rd"
    refine ⟨_, _, rfl, .inr (SqT.of (s1 _ _ ht)), ?_⟩
    walk_at "rd"
    refine r_ity rfl ?_
    walk_at "rd"
    have O1 := O.same s1
    refine r_m (s1 _ _ ho) (no_Order_turn_line _ _ _) ?_
    walk_at "rd"
    refine r_ixT (SqT.of (s1 _ _ ht)) (atI_get (j := 0) rfl rfl) ?_
    walk_at "rd"
    refine r_ixT (SqT.of (s1 _ _ ht)) (atI_get (j := 2) rfl rfl) ?_
    walk_at "rd"
    refine ⟨p, od, w', i, od.lines[i], n, rfl, O1, oko, el, fun e => kE .tooMuch (by rw [e]) _ s1, fun l' e H2 O2 b2 => ?_⟩
    rw [e] at k
    dsimp only at k
    obtain ⟨do2, ho2⟩ := O2.ob
    walk_at "rd"
    have ht2 : H2 t = some (.tup [.str w', .int (j : Int), .int (i : Int), .int n]) := b2.tup _ _ (s1 _ _ ht)
    refine r_ixT (SqT.of ht2) (atI_get (j := 1) rfl rfl) ?_
    walk_at "rd"
    refine r_m ho2 (no_Order_mark _ _ _) ?_
    walk_at "rd"
    refine r_ixT (SqT.of ht2) (atI_get (j := 0) rfl rfl) ?_
    walk_at "rd"
    have mk := ok.mks od (List.mem_of_getElem? eo)
    refine ⟨p, _, w', _, rfl, O2, oko.line el e, Nat.lt_of_le_of_lt mk hz, fun H3 O3 b3 => ?_⟩
    walk_at "rd"
    refine r_mk (by simp) fun t4 ht4 => ?_
    walk_at "rd"
    refine r_mk (by simp) fun r5 hr5 => ?_
    exact one_end h ep s1 O3 ((b2.mono fun a z => OL.foot_las z).trans (b3.mono fun a z => OL.foot_lm z)) ht4 hr5 (k _ _ rfl)
  · obtain ⟨t, rfl, ht⟩ := hd
    walk_at "rd"
    refine r_m hb (no_Book_order_of _ _) ?_
    walk_at "rd"
    refine r_ixT (SqT.of ht) (atI_get (j := 1) rfl rfl) ?_
    walk_at "rd"
    change (∀ e, stepMo B.each w' o n = .error e → _) at kE
    change (∀ es cs, stepMo B.each w' o n = .ok (es, cs) → _) at k
    unfold stepMo at kE k
    refine ⟨b, B, L, o, rfl, h, fun c => kE .noOrder (by rw [at_none c]) _ (Same.refl _), fun j p od ej ep eo => ?_⟩
    subst ej
    rw [at_some eo] at kE k
    dsimp only at kE k
    have O := h.od j p od ep eo
    obtain ⟨do_, ho⟩ := O.ob
    have oko := ok.od od (List.mem_of_getElem? eo)
    have mk := ok.mks od (List.mem_of_getElem? eo)
    walk_at "rd"
    refine ⟨_, _, rfl, .inr (SqT.of ht), ?_⟩
    walk_at "rd"
    refine r_itz (show ¬ ((3 : Nat) : Int) = 4 by decide) ?_
    walk_at "rd"
    refine ⟨_, _, rfl, .inr (SqT.of ht), ?_⟩
    walk_at "rd"
    refine r_ixT (SqT.of ht) (atI_get (j := 2) rfl rfl) ?_
    walk_at "rd"
    refine r_m hb (no_Book_need_number _ _) ?_
    walk_at "rd"
    refine ⟨_, n, rfl, fun c => kE .noNumber (by rw [if_pos c]) _ (Same.refl _), fun c => ?_⟩
    rw [if_neg c] at kE k
    walk_at "rd"
    refine r_m ho (no_Order_owing _ _ _) ?_
    walk_at "rd"
    refine ⟨p, od, rfl, O, oko, fun H1 s1 => ?_⟩
    walk_at "rd"
    refine ⟨_, _, rfl, .inr (SqT.of (s1 _ _ ht)), ?_⟩
    walk_at "rd"
    refine r_itz (show ¬ ((3 : Nat) : Int) = 4 by decide) ?_
    have O1 := O.same s1
    walk_at "rd"
    refine r_ixT (SqT.of (s1 _ _ ht)) (atI_get (j := 0) rfl rfl) ?_
    walk_at "rd"
    refine r_itd (fun cw => ?_) (fun cw => ?_)
    · rw [if_pos cw] at k
      walk_at "rd"
      refine r_m (s1 _ _ ho) (no_Order_take _ _ _) ?_
      walk_at "rd"
      refine ⟨p, od, n, rfl, O1, fun H2 O2 b2 => ?_⟩
      obtain ⟨do2, ho2⟩ := O2.ob
      walk_at "rd"
      have ht2 : H2 t = some (.tup [.str w', .int (j : Int), .int n]) := b2.tup _ _ (s1 _ _ ht)
      refine r_ixT (SqT.of ht2) (atI_get (j := 1) rfl rfl) ?_
      walk_at "rd"
      refine r_m ho2 (no_Order_mark _ _ _) ?_
      walk_at "rd"
      refine r_ixT (SqT.of ht2) (atI_get (j := 0) rfl rfl) ?_
      walk_at "rd"
      refine ⟨p, _, w', _, rfl, O2, oko.pay, Nat.lt_of_le_of_lt mk hz, fun H3 O3 b3 => ?_⟩
      walk_at "rd"
      refine r_mk (by simp) fun t4 ht4 => ?_
      walk_at "rd"
      refine r_mk (by simp) fun r5 hr5 => ?_
      exact one_end h ep s1 O3 ((b2.mono fun a z => OL.foot_o z).trans (b3.mono fun a z => OL.foot_lm z)) ht4 hr5 (k _ _ rfl)
    · rw [if_neg cw] at kE k
      walk_at "rd"
      refine r_m (s1 _ _ ho) (no_Order_need_over _ _ _) ?_
      walk_at "rd"
      refine ⟨p, od, n, rfl, O1, oko, fun c2 H2 s2 => kE .tooMuch (by rw [if_pos c2]) _ (s1.trans s2), fun c2 H2 s2 => ?_⟩
      rw [if_neg c2] at k
      walk_at "rd"
      refine r_m (s2 _ _ (s1 _ _ ho)) (no_Order_take _ _ _) ?_
      walk_at "rd"
      refine ⟨p, od, -n, rfl, O1.same s2, fun H3 O3 b3 => ?_⟩
      obtain ⟨do3, ho3⟩ := O3.ob
      walk_at "rd"
      have ht3 : H3 t = some (.tup [.str w', .int (j : Int), .int n]) := b3.tup _ _ (s2 _ _ (s1 _ _ ht))
      refine r_ixT (SqT.of ht3) (atI_get (j := 1) rfl rfl) ?_
      walk_at "rd"
      refine r_m ho3 (no_Order_mark _ _ _) ?_
      walk_at "rd"
      refine r_ixT (SqT.of ht3) (atI_get (j := 0) rfl rfl) ?_
      walk_at "rd"
      refine ⟨p, _, w', _, rfl, O3, oko.pay, Nat.lt_of_le_of_lt mk hz, fun H4 O4 b4 => ?_⟩
      walk_at "rd"
      refine r_mk (by simp) fun t4 ht4 => ?_
      walk_at "rd"
      refine r_mk (by simp) fun r5 hr5 => ?_
      exact one_end h ep (s1.trans s2) O4 ((b3.mono fun a z => OL.foot_o z).trans (b4.mono fun a z => OL.foot_lm z)) ht4 hr5 (k _ _ rfl)

/-! ### a move -/
theorem Stay.of {H H' : Hp} (s : Same H H') : Stay H H' := fun _ e => Same.free s e
theorem Stay.trans {H H1 H2 : Hp} (a : Stay H H1) (b : Stay H1 H2) : Stay H H2 := fun x e => a x (b x e)
def spBookShift (K : PySem.W.Frag) : Sp := fun vs H Q E => ∃ (b : Addr) (B : Bk) (L : Lay) (v : V) (o p n : Int), vs = [.ref b, v] ∧ BookAt K H b B L ∧ B.ok ∧ B.trail.length < 100000 ∧ DdAt (fun _ => True) H v (.mv o p n) ∧
  OneK K b B L H (stepMv B.each o p n) Q E
theorem len_BookShift {K : PySem.W.Frag} {vs : List V} {H : Hp} {Q : VK} {E : XK} (h : spBookShift K vs H Q E) : vs.length = 2 := by
  obtain ⟨_, _, _, _, _, _, _, rfl, _⟩ := h; rfl
theorem ok_BookShift {P : Program} {w : World} {K : PySem.W.Frag} {mg : Str → Option Value} {base : Heap} (T : Tx w K mg) : FnOk P w K mg base (L2.CX P w) 6 (He.fAd K dBookShift.at_) (fdO K dBookShift.at_) P_BookShift (spBookShift K) := by
  refine T.f_BookShift.ok sc_BookShift (fun vs H Q E h => len_BookShift h) (fun cdv A outer s H vs Q E hr h => ⟨_, ((pss_cons (ps_set (i := 2) sc_BookShift.nd rfl (Or.inl rfl) (pe_meth (pv 0) T.cl_Book T.m_Book_order_of (ok_BookOrderOf T) (hr.mono (by decide)) T.b_BookOrderOf .nil (passes_call (takes_of rfl rfl rfl rfl) (fun _ _ _ _ h => h)) (pa_cons (pe_ix ix_tup (pv 1) pe_int (fun _ _ => rfl)) pa_nil)))
      (pss_cons (ps_set (i := 3) sc_BookShift.nd rfl (Or.inl rfl) (pe_meth (pv 0) T.cl_Book T.m_Book_order_of (ok_BookOrderOf T) (hr.mono (by decide)) T.b_BookOrderOf .nil (passes_call (takes_of rfl rfl rfl rfl) (fun _ _ _ _ h => h)) (pa_cons (pe_ix ix_tup (pv 1) pe_int (fun _ _ => rfl)) pa_nil)))
      (pss_cons (ps_if (pt_cmpR op_eq (pe_ix ix_tup (pv 1) pe_int (fun _ _ => rfl)) (pe_ix ix_tup (pv 1) pe_int (fun _ _ => rfl)) (nomark _)) (pss_one (ps_raise rfl (takes_of rfl rfl rfl rfl) (pmk_own PySem.F.excBase_ValueError T.x_SameOrder.1 T.g_SameOrder T.x_SameOrder.2.1 (raises_own T.x_SameOrder.2.2.1 T.x_SameOrder.2.2.2) rfl))) pss_nil)
      (pss_cons (ps_expr (pe_meth (pv 0) T.cl_Book T.m_Book_need_number (ok_BookNeedNumber T) (hr.mono (by decide)) T.b_BookNeedNumber .nil (passes_call (takes_of rfl rfl rfl rfl) (fun _ _ _ _ h => h)) (pa_cons (pe_ix ix_tup (pv 1) pe_int (fun _ _ => rfl)) pa_nil)))
      (pss_cons (ps_expr (pe_meth (pv 2) T.cl_Order T.m_Order_need_over (ok_OrderNeedOver T) (hr.mono (by decide)) T.b_OrderNeedOver .nil (passes_call (takes_of rfl rfl rfl rfl) (fun _ _ _ _ h => h)) (pa_cons (pe_ix ix_tup (pv 1) pe_int (fun _ _ => rfl)) pa_nil)))
      (pss_cons (ps_set (i := 4) sc_BookShift.nd rfl (Or.inl rfl) (pe_lst (pa_cons (pe_meth0 (pv 2) T.cl_Order T.m_Order_owing (ok_OrderOwing T) (hr.mono (by decide)) T.b_OrderOwing .nil pass0) (pa_cons (pe_meth0 (pv 3) T.cl_Order T.m_Order_owing (ok_OrderOwing T) (hr.mono (by decide)) T.b_OrderOwing .nil pass0) pa_nil))))
      (pss_cons (ps_expr (pe_meth (pv 2) T.cl_Order T.m_Order_take (ok_OrderTake T) (hr.mono (by decide)) T.b_OrderTake .nil pass0 (pa_cons (pe_un un_neg (pe_ix ix_tup (pv 1) pe_int (fun _ _ => rfl))) pa_nil)))
      (pss_cons (ps_expr (pe_meth (pv 3) T.cl_Order T.m_Order_take (ok_OrderTake T) (hr.mono (by decide)) T.b_OrderTake .nil pass0 (pa_cons (pe_ix ix_tup (pv 1) pe_int (fun _ _ => rfl)) pa_nil)))
      (pss_one (ps_ret (pe_lst (pa_cons (pe_tup (pa_cons (pe_ix ix_tup (pv 1) pe_int (fun _ _ => rfl)) (pa_cons (pe_meth (pv 2) T.cl_Order T.m_Order_mark (ok_OrderMark T) (hr.mono (by decide)) T.b_OrderMark .nil pass0 (pa_cons pe_str (pa_cons (pe_ix ix_list (pv 4) pe_int (fun _ _ => rfl)) pa_nil))) pa_nil))) (pa_cons (pe_tup (pa_cons (pe_ix ix_tup (pv 1) pe_int (fun _ _ => rfl)) (pa_cons (pe_meth (pv 3) T.cl_Order T.m_Order_mark (ok_OrderMark T) (hr.mono (by decide)) T.b_OrderMark .nil pass0 (pa_cons pe_str (pa_cons (pe_ix ix_list (pv 4) pe_int (fun _ _ => rfl)) pa_nil))) pa_nil))) pa_nil)))))))))))))), ?_⟩)
  obtain ⟨b, B, L, v, o, p, n, rfl, h, ok, hz, ⟨t, rfl, ht⟩, kE, k⟩ := h
  obtain ⟨dx, hb⟩ := h.ob
  unfold stepMv at kE k
  walk_at "rd"
  refine r_m hb (no_Book_order_of _ _) ?_
  walk_at "rd"
  refine r_ixT (SqT.of ht) (atI_get (j := 1) rfl rfl) ?_
  walk_at "rd"
  refine ⟨b, B, L, o, rfl, h, fun c => kE .noOrder (by rw [at_none c]) _ (Same.refl _), fun i p1 od1 ei ep1 eo1 => ?_⟩
  subst ei
  rw [at_some eo1] at kE k
  dsimp only at kE k
  walk_at "rd"
  refine r_m hb (no_Book_order_of _ _) ?_
  walk_at "rd"
  refine r_ixT (SqT.of ht) (atI_get (j := 2) rfl rfl) ?_
  walk_at "rd"
  refine ⟨b, B, L, p, rfl, h, fun c => kE .noOrder (by rw [at_none c]) _ (Same.refl _), fun j p2 od2 ej ep2 eo2 => ?_⟩
  subst ej
  rw [at_some eo2] at kE k
  dsimp only at kE k
  walk_at "rd"
  refine r_ixT (SqT.of ht) (atI_get (j := 1) rfl rfl) ?_
  walk_at "rd"
  refine r_ixT (SqT.of ht) (atI_get (j := 2) rfl rfl) ?_
  walk_at "rd"
  refine r_itd (fun c => kE .sameOrder (by rw [if_pos c]) _ (Same.refl _)) (fun c => ?_)
  rw [if_neg c] at kE k
  have hij : i ≠ j := fun z => c (by rw [z])
  have O1 := h.od i p1 od1 ep1 eo1
  have O2 := h.od j p2 od2 ep2 eo2
  obtain ⟨d1, ho1⟩ := O1.ob
  obtain ⟨d2, ho2⟩ := O2.ob
  have ok1 := ok.od od1 (List.mem_of_getElem? eo1)
  have ok2 := ok.od od2 (List.mem_of_getElem? eo2)
  have mk1 := Nat.lt_of_le_of_lt (ok.mks od1 (List.mem_of_getElem? eo1)) hz
  have mk2 := Nat.lt_of_le_of_lt (ok.mks od2 (List.mem_of_getElem? eo2)) hz
  walk_at "rd"
  refine r_m hb (no_Book_need_number _ _) ?_
  walk_at "rd"
  refine r_ixT (SqT.of ht) (atI_get (j := 3) rfl rfl) ?_
  walk_at "rd"
  refine ⟨_, n, rfl, fun c => kE .noNumber (by rw [if_pos c]) _ (Same.refl _), fun c => ?_⟩
  rw [if_neg c] at kE k
  walk_at "rd"
  refine r_m ho1 (no_Order_need_over _ _ _) ?_
  walk_at "rd"
  refine r_ixT (SqT.of ht) (atI_get (j := 3) rfl rfl) ?_
  walk_at "rd"
  refine ⟨p1, od1, n, rfl, O1, ok1, fun c2 H2 s2 => kE .tooMuch (by rw [if_pos c2]) _ s2, fun c2 H1 s1 => ?_⟩
  rw [if_neg c2] at k
  walk_at "rd"
  refine r_m (s1 _ _ ho1) (no_Order_owing _ _ _) ?_
  walk_at "rd"
  refine ⟨p1, od1, rfl, O1.same s1, ok1, fun H2 s2 => ?_⟩
  walk_at "rd"
  have s12 := s1.trans s2
  refine r_m (s12 _ _ ho2) (no_Order_owing _ _ _) ?_
  walk_at "rd"
  refine ⟨p2, od2, rfl, O2.same s12, ok2, fun H3 s3 => ?_⟩
  walk_at "rd"
  have s13 := s12.trans s3
  refine r_mk (by simp) fun a ha => ?_
  have s14 : Same H (upd H3 a (.lst [.int od1.owing, .int od2.owing])) := s13.trans (same_upd ha)
  have h4 := h.same s14
  have la4 : upd H3 a (.lst [.int od1.owing, .int od2.owing]) a = some (.lst [.int od1.owing, .int od2.owing]) := upd_same
  have aH : H a = none := Same.free s13 ha
  have af : ∀ {q : OL} {m : Nat}, L.ords[m]? = some q → ¬ q.foot a := fun {q m} e f => by
    have z := h.ro m q e a f
    rw [h.fresh aH] at z
    cases z
  revert h4 la4 s14
  generalize upd H3 a (.lst [.int od1.owing, .int od2.owing]) = H4
  intro s14 h4 la4
  walk_at "rd"
  refine r_m (s14 _ _ ho1) (no_Order_take _ _ _) ?_
  walk_at "rd"
  refine r_ixT (SqT.of (s14 _ _ ht)) (atI_get (j := 3) rfl rfl) ?_
  walk_at "rd"
  refine ⟨p1, od1, -n, rfl, h4.od i p1 od1 ep1 eo1, fun H5 O5 b5 => ?_⟩
  have b5' : But p1.foot H4 H5 := b5.mono fun x z => OL.foot_o z
  have h5 := h4.one ep1 O5 b5' O5.dom
  have t5 := b5.tup _ _ (s14 _ _ ht)
  have la5 := b5'.keep _ _ la4 (af ep1)
  have O52 := h5.od j p2 od2 ep2 (by
    show (B.each.set i _)[j]? = _
    rw [List.getElem?_set_ne hij]; exact eo2)
  obtain ⟨d52, ho52⟩ := O52.ob
  walk_at "rd"
  refine r_m ho52 (no_Order_take _ _ _) ?_
  walk_at "rd"
  refine r_ixT (SqT.of t5) (atI_get (j := 3) rfl rfl) ?_
  walk_at "rd"
  refine ⟨p2, od2, n, rfl, O52, fun H6 O6 b6 => ?_⟩
  have b6' : But p2.foot H5 H6 := b6.mono fun x z => OL.foot_o z
  have h6 := h5.one ep2 O6 b6' O6.dom
  have t6 := b6.tup _ _ t5
  have la6 := b6'.keep _ _ la5 (af ep2)
  have li : i < B.each.length := (List.getElem?_eq_some_iff.mp eo1).1
  have lj : j < B.each.length := (List.getElem?_eq_some_iff.mp eo2).1
  have O61 := h6.od i p1 { od1 with money := od1.money + -n } ep1 (by
    show ((B.each.set i _).set j _)[i]? = _
    rw [List.getElem?_set_ne (Ne.symm hij), List.getElem?_set_self li])
  obtain ⟨d61, ho61⟩ := O61.ob
  walk_at "rd"
  refine r_ixT (SqT.of t6) (atI_get (j := 1) rfl rfl) ?_
  walk_at "rd"
  refine r_m ho61 (no_Order_mark _ _ _) ?_
  walk_at "rd"
  refine r_ixL (SqL.of la6) (atI_get (j := 0) rfl rfl) ?_
  walk_at "rd"
  refine ⟨p1, _, "move", _, rfl, O61, ok1.pay, mk1, fun H7 O7 b7 => ?_⟩
  have b7' : But p1.foot H6 H7 := b7.mono fun x z => OL.foot_lm z
  have h7 := h6.one ep1 O7 b7' O7.dom
  have t7 := b7.tup _ _ t6
  have la7 := b7'.keep _ _ la6 (af ep1)
  walk_at "rd"
  refine r_mk (by simp) fun t1 ht1 => ?_
  have s8 := same_upd (o := .tup [.int (i : Int), .int (Od.owing { od1 with money := od1.money + -n } - od1.owing)]) ht1
  have e1 : upd H7 t1 (.tup [.int (i : Int), .int (Od.owing { od1 with money := od1.money + -n } - od1.owing)]) t1 = some (.tup [.int (i : Int), .int (Od.owing { od1 with money := od1.money + -n } - od1.owing)]) := upd_same
  have h8 := h7.same s8
  revert e1 h8 s8
  generalize upd H7 t1 (.tup [.int (i : Int), .int (Od.owing { od1 with money := od1.money + -n } - od1.owing)]) = H8
  intro s8 e1 h8
  walk_at "rd"
  refine r_ixT (SqT.of (s8 _ _ t7)) (atI_get (j := 2) rfl rfl) ?_
  walk_at "rd"
  have O82 := h8.od j p2 { od2 with money := od2.money + n } ep2 (by
    show (((B.each.set i _).set j _).set i _)[j]? = _
    rw [List.getElem?_set_ne hij, List.getElem?_set_self (by simpa using lj)])
  obtain ⟨d82, ho82⟩ := O82.ob
  refine r_m ho82 (no_Order_mark _ _ _) ?_
  walk_at "rd"
  refine r_ixL (SqL.of (s8 _ _ la7)) (atI_get (j := 1) rfl rfl) ?_
  walk_at "rd"
  refine ⟨p2, _, "move", _, rfl, O82, ok2.pay, mk2, fun H9 O9 b9 => ?_⟩
  have b9' : But p2.foot H8 H9 := b9.mono fun x z => OL.foot_lm z
  have h9 := h8.one ep2 O9 b9' O9.dom
  have e9 := b9.tup _ _ e1
  walk_at "rd"
  refine r_mk (by simp) fun t2 ht2 => ?_
  walk_at "rd"
  refine r_mk (by simp) fun r hr => ?_
  obtain ⟨rt, hr9⟩ := upd_none hr
  have s10 := (same_upd (o := .tup [.int (j : Int), .int (Od.owing { od2 with money := od2.money + n } - od2.owing)]) ht2).trans (same_upd (o := .lst [.ref t1, .ref t2]) hr)
  have f1 := h.footOf ep1
  have f2 := h.footOf ep2
  have bt : But L.foot H H9 := (((((But.of s14).trans (b5'.mono f1)).trans (b6'.mono f2)).trans (b7'.mono f1)).trans (But.of s8)).trans (b9'.mono f2)
  have st : Stay H H9 := ((((Stay.of s14).trans (b5'.stay O5)).trans (b6'.stay O6)).trans (b7'.stay O7)).trans ((Stay.of s8).trans (b9'.stay O9))
  refine k _ _ rfl r _ ?_ (bt.trans (But.of s10)) (st.trans (Stay.of s10)) (st _ hr9) ⟨_, upd_same, .cons ⟨t1, rfl, s10 _ _ e9⟩ (.cons ⟨t2, rfl, ?_⟩ .nil)⟩
  · have h10 := h9.same s10
    have e : ((((B.each.set i { od1 with money := od1.money + -n }).set j { od2 with money := od2.money + n }).set i { { od1 with money := od1.money + -n } with marks := od1.marks ++ [(("move" : Str), Od.owing { od1 with money := od1.money + -n } - od1.owing)] }).set j
        { { od2 with money := od2.money + n } with marks := od2.marks ++ [(("move" : Str), Od.owing { od2 with money := od2.money + n } - od2.owing)] }) =
        (B.each.set i (Od.mark (od1.pay (-n)) "move" ((od1.pay (-n)).owing - od1.owing))).set j (Od.mark (od2.pay n) "move" ((od2.pay n).owing - od2.owing)) := by
      rw [List.set_comm _ _ hij, List.set_set, List.set_comm _ _ (Ne.symm hij), List.set_set]
      rfl
    rw [← e]
    exact h10
  · rw [upd_ne (Ne.symm rt)]
    exact upd_same

/-! ### the words of deeds -/
theorem key_at {es : List DictEntry} {w : World} {ks : List Str} (h : es.map He.keyOf = He.keysIn w.params ks) : ∀ e, e ∈ es → ∃ k t, k ∈ ks ∧ e.key = .str k t := by
  intro e he
  have hm : He.keyOf e ∈ He.keysIn w.params ks := by
    rw [← h]
    exact List.mem_map_of_mem he
  unfold He.keysIn at hm
  obtain ⟨k, hk, e1⟩ := List.mem_map.mp hm
  unfold He.keyOf at e1
  split at e1
  · rename_i x t q
    have e2 := congrArg Prod.fst (Option.some.inj e1)
    have e3 : k = x := e2
    subst e3
    exact ⟨k, t, hk, q⟩
  · cases e1
theorem lookup_mem {ks : List (Str × Int)} {z : Str} {n : Int} (h : ks.lookup z = some n) : (z, n) ∈ ks := by
  induction ks with
  | nil => cases h
  | cons a r ih =>
    obtain ⟨k, m⟩ := a
    rw [List.lookup_cons] at h
    by_cases c : z = k
    · subst c
      rw [beq_self_eq_true] at h
      cases h
      exact List.mem_cons_self
    · have q : (z == k) = false := by simpa using c
      rw [q] at h
      exact List.mem_cons_of_mem _ (ih h)
theorem lookup_no {ks : List (Str × Int)} {z : Str} (h : ks.lookup z = none) : ¬ z ∈ ks.map (·.1) := by
  induction ks with
  | nil => simp
  | cons a r ih =>
    obtain ⟨k, m⟩ := a
    rw [List.lookup_cons] at h
    by_cases c : z = k
    · subst c
      rw [beq_self_eq_true] at h
      cases h
    · have q : (z == k) = false := by simpa using c
      rw [q] at h
      intro hm
      rcases List.mem_cons.mp hm with e | e
      · exact c e
      · exact ih h e
theorem Tx.pt {w : World} {K : PySem.W.Frag} {mg : Str → Option Value} (T : Tx w K mg) (z : Str) :
    (∃ n, parts.lookup z = some n ∧ ∃ u, PySem.W.nsIn K (He.ga K "PARTS") z = some (some u) ∧ RelV (.int n) u) ∨ (parts.lookup z = none ∧ PySem.W.nsIn K (He.ga K "PARTS") z = some none) := by
  cases e : parts.lookup z with
  | some n =>
    refine .inl ⟨n, rfl, ?_⟩
    have hm : (z, He.Dv.int n) ∈ parts.map fun p => (p.1, He.Dv.int p.2) := List.mem_map.mpr ⟨(z, n), lookup_mem e, rfl⟩
    exact He.valsB_ok T.kv hm
  | none =>
    refine .inr ⟨rfl, ?_⟩
    obtain ⟨es, m, lk, lit, ky, low⟩ := T.kd
    have hk := key_at ky
    have no := lookup_no e
    unfold PySem.W.nsIn
    rw [lk]
    have f : es.toList.find? (fun e => e.key.isStr z) = none := by
      rw [List.find?_eq_none]
      intro d hd
      obtain ⟨k, t, hm, q⟩ := hk d hd
      rw [q]
      show ¬ (k == z) = true
      intro y
      have y2 : k = z := by simpa using y
      rw [← y2] at no
      exact no hm
    have g : es.toList.any (fun e => e.refKey) = false := by
      rw [List.any_eq_false]
      intro d hd
      obtain ⟨k, t, hm, q⟩ := hk d hd
      simp [DictEntry.refKey, q]
    dsimp only
    rw [f]
    dsimp only
    rw [g]
    rfl
section
variable {X : Cx} {d : Addr} {ks : List Str}
theorem op_notIn_pt (D : ∃ es n, X.K.lookup d = some ⟨.type "dict", none, .dict es n, #[]⟩ ∧ PySem.W.KeysLit X.w.params es.toList ∧ es.toList.map He.keyOf = He.keysIn X.w.params ks ∧ (d == sysModules) = false) :
    OpR X (compareOp .NotIn) (fun x y H Q => ∃ (z : Str) (r : Option Value), x = .str z ∧ y = .ref d ∧ PySem.W.nsIn X.K d z = some r ∧ Q (.bl (!r.isSome)) H) := by
  obtain ⟨es, n, h1, h2, _, h4⟩ := D
  exact op_notIn_kd ⟨h1, h2, h4⟩
end
/-- not a deed -/
def Bad (xs : List V) : Prop := xs = [] ∨ ∃ w r, xs = .str w :: r ∧ parts.lookup w ≠ some (xs.length : Int)
theorem dd_parts {d : Dd} (g : d.good) {F : Addr → Prop} {H : Hp} {v : V} (h : DdAt F H v d) : ∃ t w r, v = .ref t ∧ H t = some (.tup (.str w :: r)) ∧ parts.lookup w = some (((V.str w :: r).length : Nat) : Int) := by
  cases d with
  | ord ls =>
    obtain ⟨t, l, xs, e, ht, _⟩ := h
    exact ⟨t, _, _, e, ht, by show parts.lookup ("order" : Str) = some 2; decide +kernel⟩
  | ln w o l n =>
    obtain ⟨t, e, ht⟩ := h
    refine ⟨t, _, _, e, ht, ?_⟩
    show parts.lookup w = some 4
    rcases g with rfl | rfl | rfl | rfl <;> decide +kernel
  | mo w o n =>
    obtain ⟨t, e, ht⟩ := h
    refine ⟨t, _, _, e, ht, ?_⟩
    show parts.lookup w = some 3
    rcases g with rfl | rfl <;> decide +kernel
  | mv o p n =>
    obtain ⟨t, e, ht⟩ := h
    exact ⟨t, _, _, e, ht, by show parts.lookup ("move" : Str) = some 4; decide +kernel⟩
/-! ### the trail -/
noncomputable def Lay.log (L : Lay) (P : Addr → Prop) : Lay := ⟨L.each, L.trail, L.ords, fun a => @ite _ (P a) (Classical.propDecidable _) .deed (L.own a)⟩
theorem Lay.log_in {L : Lay} {P : Addr → Prop} {a : Addr} (h : P a) : (L.log P).own a = .deed := @if_pos _ (Classical.propDecidable _) h _ _ _
theorem Lay.log_out {L : Lay} {P : Addr → Prop} {a : Addr} (h : ¬ P a) : (L.log P).own a = L.own a := @if_neg _ (Classical.propDecidable _) h _ _ _
/-- the list that a deed holds -/
theorem DdAt.list {F : Addr → Prop} {H : Hp} {v : V} {d : Dd} (h : DdAt F H v d) : ∃ P : Addr → Prop, DdAt P H v d ∧ ∀ a, P a → F a ∧ ∃ xs, H a = some (.lst xs) := by
  cases d with
  | ord ls => obtain ⟨t, l, xs, e, h1, h2, f, q⟩ := h; exact ⟨(· = l), ⟨t, l, xs, e, h1, h2, rfl, q⟩, fun a z => by have z' : a = l := z; rw [z']; exact ⟨f, xs, h2⟩⟩
  | ln w o l n => exact ⟨fun _ => False, h, fun _ z => z.elim⟩
  | mo w o n => exact ⟨fun _ => False, h, fun _ z => z.elim⟩
  | mv o p n => exact ⟨fun _ => False, h, fun _ z => z.elim⟩
theorem BookAt.log {K : PySem.W.Frag} {H H2 : Hp} {b : Addr} {B : Bk} {L : Lay} {v : V} {d : Dd} {ts : List V} (h : BookAt K H b B L) (s : Same H H2) (hd : DdAt (fun a => H a = none) H2 v d) (ht : H2 L.trail = some (.lst ts)) :
    ∃ L', BookAt K (upd H2 L.trail (.lst (ts ++ [v]))) b { B with trail := B.trail ++ [d] } L' ∧ Mod L L' H (upd H2 L.trail (.lst (ts ++ [v]))) ∧ ∀ a, H a ≠ none → L'.own a = L.own a := by
  obtain ⟨P, hP, hF⟩ := hd.list
  have own : ∀ a, H a ≠ none → (L.log P).own a = L.own a := fun a z => Lay.log_out fun p => z (hF a p).1
  have own2 : ∀ a, L.own a ≠ .no → (L.log P).own a = L.own a := fun a z => own a fun q => z (h.fresh q)
  have z1 : ∀ {r : Role} {a : Addr}, L.own a = r → r ≠ .no → (L.log P).own a = r := fun {r a} e n => by
    rw [own2 a (by rw [e]; exact n), e]
  have bt : But (· = L.trail) H (upd H2 L.trail (.lst (ts ++ [v]))) := (But.of s).trans (But.lst ht rfl)
  have bt2 : But (· = L.trail) H2 (upd H2 L.trail (.lst (ts ++ [v]))) := But.lst ht rfl
  have nt : ∀ a, L.own a ≠ .trail → ¬ a = L.trail := fun a z y => z (by rw [y]; exact h.rt)
  obtain ⟨ts0, e0, q0⟩ := h.tr
  have ets : ts0 = ts := by
    have z := s _ _ e0
    rw [ht] at z
    cases z
    rfl
  subst ets
  refine ⟨L.log P, ⟨?_, z1 h.rb (by intro q; cases q), bt.keep _ _ h.ev (nt L.each (by rw [h.re]; intro q; cases q)), z1 h.re (by intro q; cases q), ⟨_, upd_same, ?_⟩, z1 h.rt (by intro q; cases q), h.len, fun j p o e1 e2 => ?_, fun j p e1 a f => z1 (h.ro j p e1 a f) (by intro q; cases q), fun a z => ?_⟩,
    ⟨bt.mono fun a y => ?_, fun a z => ?_⟩, own⟩
  · obtain ⟨dx, e⟩ := h.ob
    exact ⟨dx, bt.keep _ _ e (nt _ (by rw [h.rb]; intro q; cases q))⟩
  · refine Paired.snoc (Paired.mapP q0 fun _ _ z => (z.keep bt fun a f => nt a (by rw [f]; intro q; cases q)).imp fun a f _ => z1 f (by intro q; cases q)) ?_
    refine (hP.keep bt2 fun a p y => ?_).imp fun a p _ => Lay.log_in p
    have y' : a = L.trail := y
    have q := (hF a p).1
    rw [y', e0] at q
    cases q
  · exact (h.od j p o e1 e2).keep bt fun a f => nt a (by rw [h.ro j p e1 a f]; intro q; cases q)
  · by_cases p : P a
    · obtain ⟨_, xs, e⟩ := hF a p
      by_cases y : a = L.trail
      · exact ⟨_, by rw [y]; exact upd_same⟩
      · exact ⟨_, bt2.keep _ _ e y⟩
    · rw [Lay.log_out p] at z
      by_cases y : a = L.trail
      · exact ⟨_, by rw [y]; exact upd_same⟩
      · obtain ⟨o, e⟩ := h.dom a z
        exact ⟨o, bt.keep _ _ e y⟩
  · have y' : a = L.trail := y
    show L.own a ≠ .no
    rw [y', h.rt]
    intro q
    cases q
  · by_cases p : P a
    · exact .inr (hF a p).1
    · rw [Lay.log_out p] at z
      exact .inl z
/-! ### do -/
theorem set_mem {α : Type} {l : List α} {i : Nat} {a x : α} (h : x ∈ l.set i a) : x ∈ l ∨ x = a := List.mem_or_eq_of_mem_set h
theorem firstErr_ok {ls : List Lt} (h : firstErr ls = none) : ∀ t, t ∈ ls → numOk t := by
  unfold firstErr at h
  rw [List.findSome?_eq_none_iff] at h
  intro t ht
  have q := h t ht
  unfold ltCheck at q
  split at q
  · split at q
    · assumption
    · cases q
  · cases q
theorem step_ok {B : Bk} {d : Dd} {es : List Od} {cs : List (Int × Int)} (ok : B.ok) (g : d.good) (e : step B.each d = .ok (es, cs)) : Bk.ok ⟨es, B.trail ++ [d]⟩ := by
  have good : ∀ x, x ∈ B.trail ++ [d] → x.good := fun x hx => by
    rcases List.mem_append.mp hx with h | h
    · exact ok.good x h
    · have z : x = d := by simpa using h
      rw [z]; exact g
  have len : (B.trail ++ [d]).length = B.trail.length + 1 := by simp
  have up : ∀ o, o ∈ B.each → o.marks.length ≤ (B.trail ++ [d]).length := fun o h => by
    have := ok.mks o h
    omega
  have mk : ∀ {o : Od} {w : Str} {c : Int}, o.marks.length ≤ B.trail.length → (o.mark w c).marks.length ≤ (B.trail ++ [d]).length := fun {o w c} h => by
    show (o.marks ++ [(w, c)]).length ≤ _
    rw [len]
    simp
    exact h
  cases d with
  | ord ls =>
    have e' : stepOrd B.each ls = .ok (es, cs) := e
    unfold stepOrd at e'
    cases q : ordErr B.each.length ls with
    | some x => rw [q] at e'; cases e'
    | none =>
      rw [q] at e'
      cases e'
      unfold ordErr at q
      split at q
      · cases q
      rename_i hl
      have hl2 : 1 ≤ ls.length ∧ ls.length ≤ 20 := Decidable.byContradiction hl
      cases f : firstErr ls with
      | some x => rw [f] at q; cases q
      | none =>
        rw [f] at q
        have q2 : (if B.each.length = 40 then some Er.fullBook else none) = none := q
        have n40 : ¬ B.each.length = 40 := fun z => by rw [if_pos z] at q2; cases q2
        have fw := ok.few
        refine ⟨fun o ho => ?_, by show (B.each ++ [_]).length ≤ 40; simp; omega, fun o ho => ?_, good⟩
        · rcases List.mem_append.mp ho with h | h
          · exact ok.od o h
          · have z : o = ⟨ls.map Lt.ln, 0, []⟩ := by simpa using h
            subst z
            refine ⟨fun l hl => ?_, by simpa using hl2.2⟩
            obtain ⟨t, ht, rfl⟩ := List.mem_map.mp hl
            have n := firstErr_ok f t ht
            exact n.2
        · rcases List.mem_append.mp ho with h | h
          · exact up o h
          · have z : o = ⟨ls.map Lt.ln, 0, []⟩ := by simpa using h
            subst z
            exact Nat.zero_le _
  | ln w o l n =>
    have e' : stepLn B.each w o l n = .ok (es, cs) := e
    unfold stepLn at e'
    rcases at_or B.each o with ⟨q, _⟩ | ⟨j, od, rfl, eo, q⟩
    · rw [q] at e'; cases e'
    · rw [q] at e'
      dsimp only at e'
      rcases at_or od.lines l with ⟨q, _⟩ | ⟨i, x, rfl, el, q⟩
      · rw [q] at e'; cases e'
      · rw [q] at e'
        dsimp only at e'
        split at e'
        · cases e'
        cases et : x.turn w n with
        | none => rw [et] at e'; cases e'
        | some x' =>
          rw [et] at e'
          cases e'
          have mo := List.mem_of_getElem? eo
          refine ⟨fun u hu => ?_, by show (B.each.set _ _).length ≤ 40; simpa using ok.few, fun u hu => ?_, good⟩
          · rcases set_mem hu with h | h
            · exact ok.od u h
            · rw [h]; exact ((ok.od od mo).line el et).mark
          · rcases set_mem hu with h | h
            · exact up u h
            · rw [h]; exact mk (ok.mks od mo)
  | mo w o n =>
    have e' : stepMo B.each w o n = .ok (es, cs) := e
    unfold stepMo at e'
    rcases at_or B.each o with ⟨q, _⟩ | ⟨j, od, rfl, eo, q⟩
    · rw [q] at e'; cases e'
    · rw [q] at e'
      dsimp only at e'
      have mo := List.mem_of_getElem? eo
      have fin : ∀ m c, Bk.ok ⟨B.each.set j (Od.mark (od.pay m) w c), B.trail ++ [.mo w j n]⟩ := fun m c => by
        refine ⟨fun u hu => ?_, by show (B.each.set _ _).length ≤ 40; simpa using ok.few, fun u hu => ?_, good⟩
        · rcases set_mem hu with h | h
          · exact ok.od u h
          · rw [h]; exact (ok.od od mo).pay.mark
        · rcases set_mem hu with h | h
          · exact up u h
          · rw [h]; exact mk (o := od.pay m) (ok.mks od mo)
      split at e'
      · cases e'
      split at e'
      · cases e'; exact fin _ _
      split at e'
      · cases e'
      · cases e'; exact fin _ _
  | mv o p n =>
    have e' : stepMv B.each o p n = .ok (es, cs) := e
    unfold stepMv at e'
    rcases at_or B.each o with ⟨q, _⟩ | ⟨i, a, rfl, ea, q⟩
    · rw [q] at e'; cases e'
    · rw [q] at e'
      dsimp only at e'
      rcases at_or B.each p with ⟨q, _⟩ | ⟨j, b, rfl, eb, q⟩
      · rw [q] at e'; cases e'
      · rw [q] at e'
        dsimp only at e'
        have ma := List.mem_of_getElem? ea
        have mb := List.mem_of_getElem? eb
        split at e'
        · cases e'
        split at e'
        · cases e'
        split at e'
        · cases e'
        cases e'
        refine ⟨fun u hu => ?_, by show ((B.each.set _ _).set _ _).length ≤ 40; simpa using ok.few, fun u hu => ?_, good⟩
        · rcases set_mem hu with h | h
          · rcases set_mem h with h | h
            · exact ok.od u h
            · rw [h]; exact (ok.od a ma).pay.mark
          · rw [h]; exact (ok.od b mb).pay.mark
        · rcases set_mem hu with h | h
          · rcases set_mem h with h | h
            · exact up u h
            · rw [h]; exact mk (o := a.pay _) (ok.mks a ma)
          · rw [h]; exact mk (o := b.pay _) (ok.mks b mb)
/-- what a deed ends in -/
def DoK (K : PySem.W.Frag) (b : Addr) (B : Bk) (L : Lay) (H : Hp) (d : Dd) (Q : VK) (E : XK) : Prop :=
  (∀ e, step B.each d = .error e → ∀ H', Same H H' → E (errV K e) none H') ∧
  ∀ es cs, step B.each d = .ok (es, cs) → ∀ r L' H', BookAt K H' b ⟨es, B.trail ++ [d]⟩ L' → Mod L L' H H' → Stay H H' → H r = none → L'.own r = .no → ChAt H' r cs → Q (.ref r) H'
def Dd.few : Dd → Prop
  | .ord ls => ls.length ≤ 100000 ∧ ∀ t, t ∈ ls → t.item.length ≤ 100000
  | _ => True
def spBookDo (K : PySem.W.Frag) : Sp := fun vs H Q E => ∃ (b : Addr) (B : Bk) (L : Lay) (v : V), vs = [.ref b, v] ∧ BookAt K H b B L ∧ B.ok ∧ B.trail.length < 100000 ∧
  ((∃ d : Dd, DdAt (fun a => L.own a = .no) H v d ∧ d.good ∧ d.few ∧ DoK K b B L H d Q E) ∨ (∃ t xs, v = .ref t ∧ H t = some (.tup xs) ∧ Bad xs ∧ E (errV K .noDeed) none H))
theorem len_BookDo {K : PySem.W.Frag} {vs : List V} {H : Hp} {Q : VK} {E : XK} (h : spBookDo K vs H Q E) : vs.length = 2 := by
  obtain ⟨_, _, _, _, rfl, _⟩ := h; rfl
theorem ok_BookDo {P : Program} {w : World} {K : PySem.W.Frag} {mg : Str → Option Value} {base : Heap} (T : Tx w K mg) : FnOk P w K mg base (L2.CX P w) 7 (He.fAd K dBookDo.at_) (fdO K dBookDo.at_) P_BookDo (spBookDo K) := by
  refine T.f_BookDo.ok sc_BookDo (fun vs H Q E h => len_BookDo h) (fun cdv A outer s H vs Q E hr h => ⟨_, ((pss_cons (ps_if (PW.pt (pw_or (pt_cmpR op_eq (pe_callB call_len_seq (by rfl) T.b_len (by decide +kernel) (pa_cons (pv 1) pa_nil)) pe_int (nomark _)) (pw_or (pt_cmpR (op_notIn_pt T.kd) (pe_ix ix_tup (pv 1) pe_int (fun _ _ => rfl)) (pe_glob rfl T.c_PARTS (v := .ref (He.ga K "PARTS")) rfl) (by rfl)) (pw_or1 (pt_cmpR op_ne (pe_callB call_len_seq (by rfl) T.b_len (by decide +kernel) (pa_cons (pv 1) pa_nil)) (pe_ix ix_kdict (pe_glob rfl T.c_PARTS (v := .ref (He.ga K "PARTS")) rfl) (pe_ix ix_tup (pv 1) pe_int (fun _ _ => rfl)) (fun _ _ => rfl)) (nomark _)))))) (pss_one (ps_raise rfl (takes_of rfl rfl rfl rfl) (pmk_own PySem.F.excBase_ValueError T.x_NoDeed.1 T.g_NoDeed T.x_NoDeed.2.1 (raises_own T.x_NoDeed.2.2.1 T.x_NoDeed.2.2.2) rfl))) pss_nil)
      (pss_cons (ps_if (pt_cmpR op_eq (pe_ix ix_tup (pv 1) pe_int (fun _ _ => rfl)) pe_str (nomark _)) (pss_one (ps_set (i := 2) sc_BookDo.nd rfl (Or.inl rfl) (pe_meth (pv 0) T.cl_Book T.m_Book_begin (ok_BookBegin T) (hr.mono (by decide)) T.b_BookBegin .nil (passes_call (takes_of rfl rfl rfl rfl) (fun _ _ _ _ h => h)) (pa_cons (pe_ix ix_tup (pv 1) pe_int (fun _ _ => rfl)) pa_nil)))) (pss_one (ps_if (pt_cmpR op_eq (pe_ix ix_tup (pv 1) pe_int (fun _ _ => rfl)) pe_str (nomark _)) (pss_one (ps_set (i := 2) sc_BookDo.nd rfl (Or.inl rfl) (pe_meth (pv 0) T.cl_Book T.m_Book_shift (ok_BookShift T) (hr.mono (by decide)) T.b_BookShift .nil (passes_call (takes_of rfl rfl rfl rfl) (fun _ _ _ _ h => h)) (pa_cons (pv 1) pa_nil)))) (pss_one (ps_set (i := 2) sc_BookDo.nd rfl (Or.inl rfl) (pe_meth (pv 0) T.cl_Book T.m_Book_one (ok_BookOne T) (hr.mono (by decide)) T.b_BookOne .nil (passes_call (takes_of rfl rfl rfl rfl) (fun _ _ _ _ h => h)) (pa_cons (pv 1) pa_nil)))))))
      (pss_cons (ps_expr (pe_bm PySem.F.plainAttrs_list PySem.F.slot_list_append PySem.F.type_list_append mt_append (pe_fld (pv 0) rfl) (pa_cons (pe_call (ok_Own T) (hr.mono (by decide)) rfl T.g_Own T.f_Own.kp T.b_Own .nil pass0 (pa_cons (pv 1) pa_nil)) pa_nil)))
      (pss_one (ps_ret (pv 2))))))), ?_⟩)
  obtain ⟨b, B, L, v, rfl, h, ok, hz, hd⟩ := h
  obtain ⟨dx, hb⟩ := h.ob
  rcases hd with ⟨d, hd, g, few, kE, k⟩ | ⟨t, xs, rfl, ht, bad, kE⟩
  rotate_left
  · walk_at "rd"
    refine ⟨_, _, rfl, .inr (SqT.of ht), ?_⟩
    walk_at "rd"
    rcases bad with rfl | ⟨w', r, rfl, np⟩
    · refine r_ity rfl ?_
      walk_at "rd"
      exact kE
    · refine r_itz (by simp; omega) ?_
      walk_at "rd"
      refine r_ixT (SqT.of ht) (atI_get (j := 0) rfl rfl) ?_
      walk_at "rd"
      rcases T.pt w' with ⟨n, e1, u, e2, ru⟩ | ⟨e1, e2⟩
      · refine ⟨w', _, rfl, rfl, e2, ?_⟩
        walk_at "rd"
        refine r_itnT ?_
        walk_at "rd"
        refine ⟨_, _, rfl, .inr (SqT.of ht), ?_⟩
        walk_at "rd"
        refine r_ixT (SqT.of ht) (atI_get (j := 0) rfl rfl) ?_
        obtain ⟨es, m, lk, lit, ky, low⟩ := T.kd
        refine ⟨_, w', .int n, rfl, rfl, ⟨es, m, u, lk, lit, e2, ru⟩, ?_⟩
        walk_at "rd"
        refine r_itn (fun c => ?_) (fun c => absurd (by rw [e1, c]) np)
        exact kE
      · refine ⟨w', _, rfl, rfl, e2, ?_⟩
        walk_at "rd"
        exact kE
  obtain ⟨t, w', r, rfl, ht, hp⟩ := dd_parts g hd
  walk_at "rd"
  refine ⟨_, _, rfl, .inr (SqT.of ht), ?_⟩
  walk_at "rd"
  refine r_itz (by simp; omega) ?_
  walk_at "rd"
  refine r_ixT (SqT.of ht) (atI_get (j := 0) rfl rfl) ?_
  walk_at "rd"
  rcases T.pt w' with ⟨n, e1, u, e2, ru⟩ | ⟨e1, e2⟩
  rotate_left
  · rw [hp] at e1; cases e1
  have en : n = (((V.str w' :: r).length : Nat) : Int) := by
    rw [hp] at e1
    exact (Option.some.inj e1).symm
  refine ⟨w', _, rfl, rfl, e2, ?_⟩
  walk_at "rd"
  refine r_itnT ?_
  walk_at "rd"
  refine ⟨_, _, rfl, .inr (SqT.of ht), ?_⟩
  walk_at "rd"
  refine r_ixT (SqT.of ht) (atI_get (j := 0) rfl rfl) ?_
  obtain ⟨es0, m0, lk, lit, ky, low⟩ := T.kd
  refine ⟨_, w', .int n, rfl, rfl, ⟨es0, m0, u, lk, lit, e2, ru⟩, ?_⟩
  walk_at "rd"
  refine r_itn (fun c => absurd en.symm c) (fun c => ?_)
  walk_at "rd"
  refine r_ixT (SqT.of ht) (atI_get (j := 0) rfl rfl) ?_
  walk_at "rd"
  have fin : ∀ (L1 : Lay) (H1 : Hp) (es : List Od) (cs : List (Int × Int)) (x : Addr), step B.each d = .ok (es, cs) → BookAt K H1 b ⟨es, B.trail⟩ L1 → Mod L L1 H H1 → Stay H H1 → H x = none → L1.own x = .no → ChAt H1 x cs → DdAt (fun _ => True) H1 (.ref t) d →
      tSeq (tDrop (tBM K "list" rAppend (tFld K (tVar 0) "trail") (tCons (tCall (spOwn K) [] E0 (tCons (tVar 1) tNil)) tNil))) (tRet (tVar 2)) { nx := fun _ H' => Q .non H', rt := Q } [some (.ref b), some (.ref t), some (.ref x)] H1 := by
    intro L1 H1 es cs x e1 h1 m1 st hx ox ch hd1
    obtain ⟨d1, hb1⟩ := h1.ob
    obtain ⟨ts, et, pt⟩ := h1.tr
    walk_at "rd"
    refine r_f hb1 T.cl_Book T.n_Book_trail (lk_Book_trail _ _) ?_
    refine r_tyL (SqL.of et) ?_
    walk_at "rd"
    refine ⟨.ref t, d, rfl, hd1, g, fun ls q => by subst q; exact few.1, fun v3 H2 s2 hd2 => ?_⟩
    walk_at "rd"
    refine r_app (s2 _ _ et) (by rw [pt.length]; exact sz5l hz) ?_
    walk_at "rd"
    obtain ⟨L', h', m', own⟩ := h1.log s2 hd2 (s2 _ _ et)
    obtain ⟨ys, ey, py⟩ := ch
    have x1 : H1 x ≠ none := by rw [ey]; intro q; cases q
    have xt : x ≠ L1.trail := fun z => by
      rw [z, h1.rt] at ox
      cases ox
    have st2 : Stay H1 (upd H2 L1.trail (.lst (ts ++ [v3]))) := fun a e => Same.free s2 (upd_none e).2
    refine k es cs e1 x L' _ h' (m1.trans m' st) (st.trans st2) hx ?_ ⟨ys, ?_, m'.but.prs py⟩
    · rw [own x x1]; exact ox
    · rw [upd_ne xt]
      exact s2 _ _ ey
  cases d with
  | ord ls =>
    obtain ⟨t2, l, xs, et, ht2, hl, nl, pt⟩ := hd
    cases et
    rw [ht] at ht2
    cases ht2
    refine r_ity rfl ?_
    walk_at "rd"
    refine r_m hb (no_Book_begin _ _) ?_
    walk_at "rd"
    refine r_ixT (SqT.of ht) (atI_get (j := 1) rfl rfl) ?_
    walk_at "rd"
    refine ⟨b, B, L, l, xs, ls, rfl, h, ok.few, hl, pt, by rw [pt.length]; exact few.1, few.2, fun e q => kE e ?_ _ (Same.refl _), fun q r L' H' h' m' st hr ro er => ?_⟩
    · show stepOrd B.each ls = _
      unfold stepOrd
      rw [q]
    · exact fin L' H' _ _ r (by show stepOrd B.each ls = _; unfold stepOrd; rw [q]) h' m' st hr ro ⟨_, er, .nil⟩ ⟨t, l, xs, rfl, m'.but.tup _ _ ht, m'.but.keep _ _ hl (fun z => z nl), trivial, m'.but.lts pt⟩
  | ln w2 o l n =>
    obtain ⟨t2, et, ht2⟩ := hd
    cases et
    rw [ht] at ht2
    cases ht2
    refine r_itz ((good_ord g).1 _ _ _ _ rfl) ?_
    walk_at "rd"
    refine r_ixT (SqT.of ht) (atI_get (j := 0) rfl rfl) ?_
    walk_at "rd"
    refine r_itz (by rcases g with rfl | rfl | rfl | rfl <;> decide +kernel) ?_
    walk_at "rd"
    refine r_m hb (no_Book_one _ _) ?_
    walk_at "rd"
    refine ⟨b, B, L, .ref t, .ln w' o l n, rfl, h, ok, hz, ⟨t, rfl, ht⟩, .inl ⟨_, _, _, _, rfl⟩, kE, fun es cs e r H' h' bt st hr ch => ?_⟩
    exact fin L H' es cs r e h' ⟨bt, fun a z => .inl z⟩ st hr (h.fresh hr) ch ⟨t, rfl, bt.tup _ _ ht⟩
  | mo w2 o n =>
    obtain ⟨t2, et, ht2⟩ := hd
    cases et
    rw [ht] at ht2
    cases ht2
    refine r_itz ((good_ord g).2 _ _ _ rfl) ?_
    walk_at "rd"
    refine r_ixT (SqT.of ht) (atI_get (j := 0) rfl rfl) ?_
    walk_at "rd"
    refine r_itz (by rcases g with rfl | rfl <;> decide +kernel) ?_
    walk_at "rd"
    refine r_m hb (no_Book_one _ _) ?_
    walk_at "rd"
    refine ⟨b, B, L, .ref t, .mo w' o n, rfl, h, ok, hz, ⟨t, rfl, ht⟩, .inr ⟨_, _, _, rfl⟩, kE, fun es cs e r H' h' bt st hr ch => ?_⟩
    exact fin L H' es cs r e h' ⟨bt, fun a z => .inl z⟩ st hr (h.fresh hr) ch ⟨t, rfl, bt.tup _ _ ht⟩
  | mv o p n =>
    obtain ⟨t2, et, ht2⟩ := hd
    cases et
    rw [ht] at ht2
    cases ht2
    refine r_itz (by decide +kernel) ?_
    walk_at "rd"
    refine r_ixT (SqT.of ht) (atI_get (j := 0) rfl rfl) ?_
    walk_at "rd"
    refine r_ity rfl ?_
    walk_at "rd"
    refine r_m hb (no_Book_shift _ _) ?_
    walk_at "rd"
    refine ⟨b, B, L, .ref t, o, p, n, rfl, h, ok, hz, ⟨t, rfl, ht⟩, kE, fun es cs e r H' h' bt st hr ch => ?_⟩
    exact fin L H' es cs r e h' ⟨bt, fun a z => .inl z⟩ st hr (h.fresh hr) ch ⟨t, rfl, bt.tup _ _ ht⟩

/-! ### a new book, what is told -/
def L0 (b e t : Addr) : Lay := ⟨e, t, [], fun a => if a = b then .book else if a = e then .each else if a = t then .trail else .no⟩
def spBookInit (K : PySem.W.Frag) : Sp := fun vs H Q _ => ∃ b dx, vs = [.ref b] ∧ H b = some (.ins (He.ga K "Book") dx []) ∧ ∀ L H', BookAt K H' b ⟨[], []⟩ L → But (· = b) H H' → (∀ a, L.own a ≠ .no → a = b ∨ H a = none) → Stay H H' → Q .non H'
theorem len_BookInit {K : PySem.W.Frag} {vs : List V} {H : Hp} {Q : VK} {E : XK} (h : spBookInit K vs H Q E) : vs.length = 1 := by
  obtain ⟨_, _, rfl, _⟩ := h; rfl
theorem ok_BookInit {P : Program} {w : World} {K : PySem.W.Frag} {mg : Str → Option Value} {base : Heap} (T : Tx w K mg) : FnOk P w K mg base CX0 1 (He.fAd K dBookInit.at_) (fdO K dBookInit.at_) P_BookInit (spBookInit K) := by
  refine T.f_BookInit.ok sc_BookInit (fun vs H Q E h => len_BookInit h) (fun cdv A outer s H vs Q E hr h => ⟨_, PSs.nox ((pss_cons (ps_fld (pv 0) (pe_lst pa_nil) rfl)
      (pss_one (ps_fld (pv 0) (pe_lst pa_nil) rfl)))), ?_⟩)
  obtain ⟨b, dx, rfl, hb, k⟩ := h
  walk_at "rd"
  refine r_mk (by simp) fun e he => ?_
  have be : b ≠ e := ne_of_none hb he
  walk_at "rd"
  refine r_sf (by rw [upd_ne be]; exact hb) T.cl_Book T.n_Book_each (by walk_at "pf") (by simp) ?_
  walk_at "rd"
  refine r_mk (by simp) fun t ht => ?_
  obtain ⟨tb, ht1⟩ := upd_none ht
  obtain ⟨te, ht2⟩ := upd_none ht1
  walk_at "rd"
  refine r_sf (by rw [upd_ne (Ne.symm tb)]; exact upd_same) T.cl_Book T.n_Book_trail (by walk_at "pf") (by simp) ?_
  have c1 : But (· = b) H (upd H e (.lst [])) := But.of (same_upd he)
  have c2 : But (· = b) H (upd (upd H e (.lst [])) b (.ins (He.ga K "Book") dx [("each", .ref e)])) := c1.trans (But.ins (C := He.ga K "Book") (dx := dx) (fs := []) (by rw [upd_ne be]; exact hb) rfl)
  have c3 := c2.trans (But.of (S := (· = b)) (same_upd (o := .lst []) ht))
  have c4 := c3.trans (But.ins (S := (· = b)) (o := .ins (He.ga K "Book") dx [("each", .ref e), ("trail", .ref t)]) (C := He.ga K "Book") (dx := dx) (fs := [("each", .ref e)]) (by rw [upd_ne (Ne.symm tb)]; exact upd_same) rfl)
  have ob : (L0 b e t).own b = .book := by simp [L0]
  have oe : (L0 b e t).own e = .each := by simp [L0, Ne.symm be]
  have ot : (L0 b e t).own t = .trail := by simp [L0, tb, te]
  have on : ∀ a, (L0 b e t).own a ≠ .no → a = b ∨ a = e ∨ a = t := fun a z => by
    by_cases h1 : a = b
    · exact .inl h1
    by_cases h2 : a = e
    · exact .inr (.inl h2)
    by_cases h3 : a = t
    · exact .inr (.inr h3)
    exact absurd (by simp [L0, h1, h2, h3]) z
  have ve : upd (upd (upd (upd H e (.lst [])) b (.ins (He.ga K "Book") dx [("each", .ref e)])) t (.lst [])) b (.ins (He.ga K "Book") dx [("each", .ref e), ("trail", .ref t)]) e = some (.lst []) := by
    rw [upd_ne (Ne.symm be), upd_ne (Ne.symm te), upd_ne (Ne.symm be)]; exact upd_same
  have vt : upd (upd (upd (upd H e (.lst [])) b (.ins (He.ga K "Book") dx [("each", .ref e)])) t (.lst [])) b (.ins (He.ga K "Book") dx [("each", .ref e), ("trail", .ref t)]) t = some (.lst []) := by
    rw [upd_ne tb]; exact upd_same
  refine k (L0 b e t) _ ⟨⟨dx, upd_same⟩, ob, ve, oe, ⟨[], vt, .nil⟩, ot, rfl, fun j p o e1 => by simp [L0] at e1, fun j p e1 => by simp [L0] at e1, fun a z => ?_⟩ c4 (fun a z => ?_) (fun a z => ?_)
  · rcases on a z with h | h | h
    · exact ⟨_, by rw [h]; exact upd_same⟩
    · exact ⟨_, by rw [h]; exact ve⟩
    · exact ⟨_, by rw [h]; exact vt⟩
  · rcases on a z with h | h | h
    · exact .inl h
    · exact .inr (by rw [h]; exact he)
    · exact .inr (by rw [h]; exact ht2)
  · obtain ⟨_, z1⟩ := upd_none z
    obtain ⟨_, z2⟩ := upd_none z1
    obtain ⟨_, z3⟩ := upd_none z2
    exact (upd_none z3).2
theorem ok0 : Bk.ok ⟨[], []⟩ := ⟨by simp, by simp, by simp, by simp⟩
/-- a new book holds nothing of what stood -/
theorem made_own {L : Lay} {H : Hp} {b dx : Addr} {u v : HO} (own : ∀ a, L.own a ≠ .no → a = b ∨ upd (upd H dx u) b v a = none) (nb : H b = none) : ∀ a, L.own a ≠ .no → H a = none := fun a z => by
  rcases own a z with e | e
  · rw [e]; exact nb
  · exact (upd_none (upd_none e).2).2
theorem made_no {L : Lay} {H : Hp} (own : ∀ a, L.own a ≠ .no → H a = none) {a : Addr} {u : HO} (e : H a = some u) : L.own a = .no := by
  by_cases z : L.own a = .no
  · exact z
  · rw [own a z] at e; cases e
theorem made_same {H : Hp} {b dx : Addr} {u v : HO} (nb : H b = none) (nd : H dx = none) : Same H (upd (upd H dx u) b v) := fun x w e => by
  rw [upd_ne (ne_of_none e nb), upd_ne (ne_of_none e nd)]
  exact e
theorem But.made {H H1 H2 : Hp} {b : Addr} (s : Same H H1) (bt : But (· = b) H1 H2) (nb : H b = none) : Same H H2 := fun x w e => bt.keep _ _ (s _ _ e) (ne_of_none e nb)
/-- what the law holds stays as it is -/
theorem Mod.no {L L' : Lay} {H H' : Hp} (m : Mod L L' H H') {a : Addr} {u : HO} (e : H a = some u) (n : L.own a = .no) : H' a = some u ∧ L'.own a = .no := by
  refine ⟨m.but.keep _ _ e fun z => z n, ?_⟩
  by_cases z : L'.own a = .no
  · exact z
  · rcases m.grow a z with q | q
    · exact absurd n q
    · rw [e] at q; cases q
def spBookOrders (K : PySem.W.Frag) : Sp := fun vs H Q _ => ∃ (b : Addr) (B : Bk) (L : Lay), vs = [.ref b] ∧ BookAt K H b B L ∧ Q (.int B.each.length) H
theorem len_BookOrders {K : PySem.W.Frag} {vs : List V} {H : Hp} {Q : VK} {E : XK} (h : spBookOrders K vs H Q E) : vs.length = 1 := by
  obtain ⟨_, _, _, rfl, _⟩ := h; rfl
def TdAt (H : Hp) (v : V) (l : Ln) : Prop := ∃ t, v = .ref t ∧ H t = some (.tup (lnTold l))
/-- what is told of an order -/
def AskK (K : PySem.W.Frag) (B : Bk) (n : Int) (H : Hp) (E : XK) (P : Od → Prop) : Prop := (¬ (0 ≤ n ∧ n < B.each.length) → E (errV K .noOrder) none H) ∧ ∀ (j : Nat) o, n = (j : Int) → B.each[j]? = some o → P o
def spAsk (K : PySem.W.Frag) (P : Od → Hp → VK → Prop) : Sp := fun vs H Q E => ∃ (b : Addr) (B : Bk) (L : Lay) (n : Int), vs = [.ref b, .int n] ∧ BookAt K H b B L ∧ B.ok ∧ AskK K B n H E fun o => P o H Q
theorem len_ask {K : PySem.W.Frag} {P : Od → Hp → VK → Prop} {vs : List V} {H : Hp} {Q : VK} {E : XK} (h : spAsk K P vs H Q E) : vs.length = 2 := by
  obtain ⟨_, _, _, _, rfl, _⟩ := h; rfl
abbrev spBookTold (K : PySem.W.Frag) := spAsk K fun o H Q => ∀ r H' xs, Same H H' → H r = none → H' r = some (.lst xs) → Paired (TdAt H') xs o.lines → Q (.ref r) H'
abbrev spBookPaid (K : PySem.W.Frag) := spAsk K fun o H Q => Q (.int o.money) H
abbrev spBookOwed (K : PySem.W.Frag) := spAsk K fun o H Q => ∀ H', Same H H' → Q (.int o.owing) H'
abbrev spBookRows (K : PySem.W.Frag) := spAsk K fun o H Q => ∀ r H' xs, Same H H' → H r = none → H' r = some (.lst xs) → Paired (MkAt H') xs o.marks → Q (.ref r) H'
abbrev len_BookTold {K : PySem.W.Frag} {vs : List V} {H : Hp} {Q : VK} {E : XK} (h : spBookTold K vs H Q E) := len_ask h
abbrev len_BookPaid {K : PySem.W.Frag} {vs : List V} {H : Hp} {Q : VK} {E : XK} (h : spBookPaid K vs H Q E) := len_ask h
abbrev len_BookOwed {K : PySem.W.Frag} {vs : List V} {H : Hp} {Q : VK} {E : XK} (h : spBookOwed K vs H Q E) := len_ask h
abbrev len_BookRows {K : PySem.W.Frag} {vs : List V} {H : Hp} {Q : VK} {E : XK} (h : spBookRows K vs H Q E) := len_ask h
theorem ok_BookOrders {P : Program} {w : World} {K : PySem.W.Frag} {mg : Str → Option Value} {base : Heap} (T : Tx w K mg) : FnOk P w K mg base CX0 1 (He.fAd K dBookOrders.at_) (fdO K dBookOrders.at_) P_BookOrders (spBookOrders K) := by
  refine T.f_BookOrders.ok sc_BookOrders (fun vs H Q E h => len_BookOrders h) (fun cdv A outer s H vs Q E hr h => ⟨_, PSs.nox ((pss_one (ps_ret (pe_callB call_len_seq (by rfl) T.b_len (by decide +kernel) (pa_cons (pe_fld (pv 0) rfl) pa_nil))))), ?_⟩)
  obtain ⟨b, B, L, rfl, h, k⟩ := h
  obtain ⟨dx, hb⟩ := h.ob
  walk_at "rd"
  refine r_f hb T.cl_Book T.n_Book_each (lk_Book_each _ _) ?_
  walk_at "rd"
  refine ⟨_, _, rfl, .inl (SqL.of h.ev), ?_⟩
  rw [List.length_map, h.len]
  exact k
theorem ok_BookTold {P : Program} {w : World} {K : PySem.W.Frag} {mg : Str → Option Value} {base : Heap} (T : Tx w K mg) : FnOk P w K mg base (L2.CX P w) 2 (He.fAd K dBookTold.at_) (fdO K dBookTold.at_) P_BookTold (spBookTold K) := by
  refine T.f_BookTold.ok sc_BookTold (fun vs H Q E h => len_BookTold h) (fun cdv A outer s H vs Q E hr h => ⟨_, ((pss_one (ps_ret (pe_lc (own := [("line", 2)]) (g := gName 2) (tt := tYes) rfl sc_BookTold.nd (pi_list (pe_fld (pe_meth (pv 0) T.cl_Book T.m_Book_order_of (ok_BookOrderOf T) (hr.mono (by decide)) T.b_BookOrderOf .nil (passes_call (takes_of rfl rfl rfl rfl) (fun _ _ _ _ h => h)) (pa_cons (pv 1) pa_nil)) rfl)) (blkOk_by (N := N_BookTold) (sc := defScope sBookTold) (by decide +kernel)) (fun _ _ _ _ _ => pg_name (i := 2) sc_BookTold.nd rfl (Or.inl rfl)) (fun _ _ _ _ _ => pts_nil) (fun _ _ _ _ _ => (pe_meth0 (pv 2) T.cl_Line T.m_Line_numbers (ok_LineNumbers T) (hr.mono (by decide)) T.b_LineNumbers .nil pass0)))))), ?_⟩)
  obtain ⟨b, B, L, n, rfl, h, ok, k1, k2⟩ := h
  obtain ⟨dx, hb⟩ := h.ob
  walk_at "rd"
  refine r_m hb (no_Book_order_of _ _) ?_
  walk_at "rd"
  refine ⟨b, B, L, n, rfl, h, k1, fun j p o ej ep eo => ?_⟩
  have O := h.od j p o ep eo
  have oko := ok.od o (List.mem_of_getElem? eo)
  obtain ⟨dy, ho⟩ := O.ob
  refine r_f ho T.cl_Order T.n_Order_lines (lk_Order_lines _ _ _) ?_
  refine lcp_rel (R := TdAt) (zs := o.lines) (SqL.of O.ll) (by simp [O.len]) (by have := oko.few; simp [O.len]; omega) (fun H H' v z ⟨t, e, q⟩ st => ⟨t, e, st _ _ q⟩) ?_ ?_
  · intro i x l H' W ex el s q
    obtain ⟨a, ea, rfl⟩ := ref_at ex
    obtain ⟨dl, hl⟩ := O.ln i a l ea el
    walk_at "rd"
    refine r_m (s _ _ hl) (no_Line_numbers l) ?_
    walk_at "rd"
    exact ⟨a, l, rfl, ⟨dl, s _ _ hl⟩, fun t ht => q _ _ (same_upd ht) ⟨t, rfl, upd_same⟩⟩
  · intro D H' acc hD s e pr
    exact k2 j o ej eo D H' acc s hD e pr
theorem ok_BookPaid {P : Program} {w : World} {K : PySem.W.Frag} {mg : Str → Option Value} {base : Heap} (T : Tx w K mg) : FnOk P w K mg base (L2.CX P w) 2 (He.fAd K dBookPaid.at_) (fdO K dBookPaid.at_) P_BookPaid (spBookPaid K) := by
  refine T.f_BookPaid.ok sc_BookPaid (fun vs H Q E h => len_BookPaid h) (fun cdv A outer s H vs Q E hr h => ⟨_, ((pss_one (ps_ret (pe_fld (pe_meth (pv 0) T.cl_Book T.m_Book_order_of (ok_BookOrderOf T) (hr.mono (by decide)) T.b_BookOrderOf .nil (passes_call (takes_of rfl rfl rfl rfl) (fun _ _ _ _ h => h)) (pa_cons (pv 1) pa_nil)) rfl)))), ?_⟩)
  obtain ⟨b, B, L, n, rfl, h, ok, k1, k2⟩ := h
  obtain ⟨dx, hb⟩ := h.ob
  walk_at "rd"
  refine r_m hb (no_Book_order_of _ _) ?_
  walk_at "rd"
  refine ⟨b, B, L, n, rfl, h, k1, fun j p o ej ep eo => ?_⟩
  obtain ⟨dy, ho⟩ := (h.od j p o ep eo).ob
  exact r_f ho T.cl_Order T.n_Order_money (lk_Order_money _ _ _) (k2 j o ej eo)
theorem ok_BookOwed {P : Program} {w : World} {K : PySem.W.Frag} {mg : Str → Option Value} {base : Heap} (T : Tx w K mg) : FnOk P w K mg base (L2.CX P w) 5 (He.fAd K dBookOwed.at_) (fdO K dBookOwed.at_) P_BookOwed (spBookOwed K) := by
  refine T.f_BookOwed.ok sc_BookOwed (fun vs H Q E h => len_BookOwed h) (fun cdv A outer s H vs Q E hr h => ⟨_, ((pss_one (ps_ret (pe_meth0 (pe_meth (pv 0) T.cl_Book T.m_Book_order_of (ok_BookOrderOf T) (hr.mono (by decide)) T.b_BookOrderOf .nil (passes_call (takes_of rfl rfl rfl rfl) (fun _ _ _ _ h => h)) (pa_cons (pv 1) pa_nil)) T.cl_Order T.m_Order_owing (ok_OrderOwing T) (hr.mono (by decide)) T.b_OrderOwing .nil pass0)))), ?_⟩)
  obtain ⟨b, B, L, n, rfl, h, ok, k1, k2⟩ := h
  obtain ⟨dx, hb⟩ := h.ob
  walk_at "rd"
  refine r_m hb (no_Book_order_of _ _) ?_
  walk_at "rd"
  refine ⟨b, B, L, n, rfl, h, k1, fun j p o ej ep eo => ?_⟩
  have O := h.od j p o ep eo
  obtain ⟨dy, ho⟩ := O.ob
  refine r_m ho (no_Order_owing _ _ _) ?_
  walk_at "rd"
  exact ⟨p, o, rfl, O, ok.od o (List.mem_of_getElem? eo), k2 j o ej eo⟩
theorem ok_BookRows {P : Program} {w : World} {K : PySem.W.Frag} {mg : Str → Option Value} {base : Heap} (T : Tx w K mg) : FnOk P w K mg base (L2.CX P w) 2 (He.fAd K dBookRows.at_) (fdO K dBookRows.at_) P_BookRows (spBookRows K) := by
  refine T.f_BookRows.ok sc_BookRows (fun vs H Q E h => len_BookRows h) (fun cdv A outer s H vs Q E hr h => ⟨_, ((pss_one (ps_ret (pe_callTy call_list_of (by rfl) T.b_list (by decide +kernel) (pa_cons (pe_fld (pe_meth (pv 0) T.cl_Book T.m_Book_order_of (ok_BookOrderOf T) (hr.mono (by decide)) T.b_BookOrderOf .nil (passes_call (takes_of rfl rfl rfl rfl) (fun _ _ _ _ h => h)) (pa_cons (pv 1) pa_nil)) rfl) pa_nil))))), ?_⟩)
  obtain ⟨b, B, L, n, rfl, h, ok, k1, k2⟩ := h
  obtain ⟨dx, hb⟩ := h.ob
  walk_at "rd"
  refine r_m hb (no_Book_order_of _ _) ?_
  walk_at "rd"
  refine ⟨b, B, L, n, rfl, h, k1, fun j p o ej ep eo => ?_⟩
  have O := h.od j p o ep eo
  obtain ⟨dy, ho⟩ := O.ob
  obtain ⟨ts, et, pt⟩ := O.lm
  refine r_f ho T.cl_Order T.n_Order_marks (lk_Order_marks _ _ _) ?_
  walk_at "rd"
  refine ⟨_, _, rfl, .inl (SqL.of et), fun r hr => ?_⟩
  exact k2 j o ej eo r _ ts (same_upd hr) hr upd_same ((But.of (S := fun _ => False) (same_upd hr)).mks pt)
/-- what stood at H stands, and the book holds nothing of it -/
structure New (L : Lay) (H H' : Hp) : Prop where
  same : Same H H'
  own : ∀ a, L.own a ≠ .no → H a = none
theorem New.ext {L : Lay} {H H1 H2 : Hp} (n : New L H H1) (s : Same H1 H2) : New L H H2 := ⟨n.same.trans s, n.own⟩
theorem New.no {L : Lay} {H H1 : Hp} (n : New L H H1) {a : Addr} {u : HO} (e : H a = some u) : L.own a = .no := made_no n.own e
theorem New.mod {L L' : Lay} {H H1 H2 : Hp} (n : New L H H1) (m : Mod L L' H1 H2) : New L' H H2 where
  same := fun a o e => (m.no (n.same _ _ e) (n.no e)).1
  own := fun a z => by
    rcases m.grow a z with q | q
    · exact n.own a q
    · exact Same.free n.same q

/-! ### deeds done anew -/
def replay : List Od → List Dd → Option (List Od)
  | os, [] => some os
  | os, d :: ds => match step os d with
    | .ok (es, _) => replay es ds
    | .error _ => none
theorem replay_app {os : List Od} {ds es : List Dd} : replay os (ds ++ es) = (replay os ds).bind fun o => replay o es := by
  induction ds generalizing os with
  | nil => rfl
  | cons d ds ih =>
    show (match step os d with | .ok (es', _) => replay es' (ds ++ es) | .error _ => none) = (match step os d with | .ok (es', _) => replay es' ds | .error _ => none).bind _
    cases step os d with
    | error e => rfl
    | ok r => exact ih
theorem replay_one {os : List Od} {d : Dd} {es : List Od} {cs : List (Int × Int)} (e : step os d = .ok (es, cs)) : replay os [d] = some es := by
  show (match step os d with | .ok (es', _) => replay es' [] | .error _ => none) = _
  rw [e]; rfl
theorem replay_snoc {os o1 es : List Od} {ds : List Dd} {d : Dd} {cs : List (Int × Int)} (h : replay os ds = some o1) (e : step o1 d = .ok (es, cs)) : replay os (ds ++ [d]) = some es := by
  rw [replay_app, h]
  exact replay_one e
theorem replay_cut {os es : List Od} {ds : List Dd} {d : Dd} (h : replay os (ds ++ [d]) = some es) : ∃ o1 cs, replay os ds = some o1 ∧ step o1 d = .ok (es, cs) := by
  rw [replay_app] at h
  cases e : replay os ds with
  | none => rw [e] at h; cases h
  | some o1 =>
    rw [e] at h
    have h' : (match step o1 d with | .ok (es', _) => replay es' [] | .error _ => none) = some es := h
    cases q : step o1 d with
    | error x => rw [q] at h'; cases h'
    | ok r =>
      obtain ⟨e1, cs⟩ := r
      rw [q] at h'
      cases h'
      exact ⟨o1, cs, rfl, q⟩
theorem replay_at {os es : List Od} {ds : List Dd} (h : replay os ds = some es) {i : Nat} {d : Dd} (hd : ds[i]? = some d) : ∃ o1 o2 cs, replay os (ds.take i) = some o1 ∧ step o1 d = .ok (o2, cs) ∧ replay os (ds.take (i + 1)) = some o2 := by
  have e1 : ds = ds.take i ++ [d] ++ ds.drop (i + 1) := by
    have hi := (List.getElem?_eq_some_iff.mp hd).1
    have q : ds[i] = d := by
      rw [List.getElem?_eq_getElem hi] at hd
      exact Option.some.inj hd
    rw [← q, List.append_assoc]
    show _ = _ ++ (ds[i] :: ds.drop (i + 1))
    rw [← List.drop_eq_getElem_cons hi, List.take_append_drop]
  have e2 : ds.take (i + 1) = ds.take i ++ [d] := by
    rw [List.take_succ, hd]; rfl
  rw [e1, replay_app] at h
  cases q : replay os (ds.take i ++ [d]) with
  | none => rw [q] at h; cases h
  | some o2 =>
    obtain ⟨o1, cs, h1, h2⟩ := replay_cut q
    exact ⟨o1, o2, cs, h1, h2, by rw [e2]; exact q⟩
theorem replay_ok {es : List Od} {ds : List Dd} (h : replay [] ds = some es) (g : ∀ d, d ∈ ds → d.good) : Bk.ok ⟨es, ds⟩ := by
  have all : ∀ (n : Nat) (ds : List Dd) (es : List Od), ds.length = n → replay [] ds = some es → (∀ d, d ∈ ds → d.good) → Bk.ok ⟨es, ds⟩ := by
    intro n
    induction n with
    | zero =>
      intro ds es hl h g
      have : ds = [] := List.length_eq_zero_iff.mp hl
      subst this
      cases h
      exact ok0
    | succ n ih =>
      intro ds es hl h g
      obtain ⟨ds', d, rfl⟩ : ∃ ds' d, ds = ds' ++ [d] := by
        rcases List.eq_nil_or_concat ds with z | ⟨L, b, z⟩
        · rw [z] at hl; simp at hl
        · exact ⟨L, b, by rw [z, List.concat_eq_append]⟩
      obtain ⟨o1, cs, h1, h2⟩ := replay_cut h
      have k := ih ds' o1 (by simpa using hl) h1 fun x hx => g x (List.mem_append_left _ hx)
      exact step_ok k (g d (by simp)) h2
  exact all _ ds es rfl h g
theorem step_few {os es : List Od} {d : Dd} {cs : List (Int × Int)} (e : step os d = .ok (es, cs)) : d.few := by
  cases d with
  | ord ls =>
    have e' : stepOrd os ls = .ok (es, cs) := e
    unfold stepOrd at e'
    cases q : ordErr os.length ls with
    | some x => rw [q] at e'; cases e'
    | none =>
      unfold ordErr at q
      split at q
      · cases q
      rename_i hl
      have hl2 : 1 ≤ ls.length ∧ ls.length ≤ 20 := Decidable.byContradiction hl
      cases f : firstErr ls with
      | some x => rw [f] at q; cases q
      | none =>
        refine ⟨by omega, fun t ht => ?_⟩
        unfold firstErr at f
        rw [List.findSome?_eq_none_iff] at f
        have q := f t ht
        unfold ltCheck at q
        split at q
        · rename_i c
          unfold isItem at c
          have c2 := (Bool.and_eq_true_iff.mp c).2
          have := (of_decide_eq_true c2).2
          omega
        · cases q
  | _ => trivial
def Hist (B : Bk) : Prop := replay [] B.trail = some B.each

/-! ### the law's helpers -/
def Script (K : PySem.W.Frag) (H : Hp) (a : Addr) : Prop := ∃ ns : List Int, SqL K H a (ns.map V.int) ∧ ns.length ≤ 63
theorem SqL.keep {K : PySem.W.Frag} {H H' : Hp} {a : Addr} {xs : List V} (h : SqL K H a xs) (k : ∀ o, H a = some o → H' a = some o) : SqL K H' a xs := by
  rcases h with (h | ⟨o, h⟩) | h
  · exact .inl (.inl (k _ h))
  · exact .inl (.inr ⟨o, k _ h⟩)
  · exact .inr h
theorem Script.keep {K : PySem.W.Frag} {H H' : Hp} {a : Addr} (S : Script K H a) (k : ∀ o, H a = some o → H' a = some o) : Script K H' a := by
  obtain ⟨ns, h, l⟩ := S
  exact ⟨ns, SqL.keep h k, l⟩
theorem Script.same {K : PySem.W.Frag} {H H' : Hp} {a : Addr} (S : Script K H a) (s : Same H H') : Script K H' a := S.keep fun o e => s _ _ e
theorem Script.mod {K : PySem.W.Frag} {H H' : Hp} {a : Addr} {L L' : Lay} (S : Script K H a) (m : Mod L L' H H') (n : ∀ o, H a = some o → L.own a = .no) : Script K H' a := S.keep fun o e => (m.no e (n o e)).1
theorem int_at {ns : List Int} {i : Nat} (h : i < ns.length) : (ns.map V.int)[i]? = some (V.int ns[i]) := by
  rw [List.getElem?_map, List.getElem?_eq_getElem h]; rfl
def spLWhole (_ : PySem.W.Frag) : Sp := fun vs H Q _ => ∃ i : Int, vs = [.int i] ∧ Q (.bl true) H
theorem len_LWhole {K : PySem.W.Frag} {vs : List V} {H : Hp} {Q : VK} {E : XK} (h : spLWhole K vs H Q E) : vs.length = 1 := by
  obtain ⟨_, rfl, _⟩ := h; rfl
theorem ok_LWhole {P : Program} {w : World} {K : PySem.W.Frag} {mg : Str → Option Value} {base : Heap} (T : Tx w K mg) : FnOk P w K mg base CX0 1 (He.fAd K dLWhole.at_) (fdO K dLWhole.at_) P_LWhole (spLWhole K) := by
  refine T.f_LWhole.ok sc_LWhole (fun vs H Q E h => len_LWhole h) (fun cdv A outer s H vs Q E hr h => ⟨_, PSs.nox ((pss_one (ps_ret (pe_and (pe_callB call_isi (by rfl) T.b_isinstance (by decide +kernel) (pa_cons (pv 0) (pa_cons (pe_bltn (v := .ty "int") (by rfl) T.b_int (by decide +kernel) rfl) pa_nil))) (pe_one (pe_not (pe_callB call_isi (by rfl) T.b_isinstance (by decide +kernel) (pa_cons (pv 0) (pa_cons (pe_bltn (v := .ty "bool") (by rfl) T.b_bool (by decide +kernel) rfl) pa_nil))))))))), ?_⟩)
  obtain ⟨i, rfl, k⟩ := h
  walk_at "rd"
  exact k
theorem emb {i j : Int} (h : 0 < j) : 0 ≤ i % j ∧ i % j < j := ⟨Int.emod_nonneg _ (by omega), Int.emod_lt_of_pos _ h⟩

/-! ### what is tried -/
/-- a deed that is done, or refused by one of these -/
def TriedK (K : PySem.W.Frag) (ers : List Er) (b : Addr) (B : Bk) (L : Lay) (H : Hp) (d : Dd) (Q : VK) : Prop :=
  (∀ e, step B.each d = .error e → e ∈ ers ∧ ∀ H', Same H H' → Q (.str e.name) H') ∧
  ∀ es cs, step B.each d = .ok (es, cs) → ∀ r L' H', BookAt K H' b ⟨es, B.trail ++ [d]⟩ L' → Mod L L' H H' → Stay H H' → H r = none → L'.own r = .no → ChAt H' r cs → Q (.ref r) H'
def spTried (K : PySem.W.Frag) (ers : List Er) : Sp := fun vs H Q _ => ∃ (b : Addr) (B : Bk) (L : Lay) (v : V), vs = [.ref b, v] ∧ BookAt K H b B L ∧ B.ok ∧ B.trail.length < 100000 ∧
  ∃ d : Dd, DdAt (fun a => L.own a = .no) H v d ∧ d.good ∧ d.few ∧ TriedK K ers b B L H d Q
theorem len_tried {K : PySem.W.Frag} {ers : List Er} {vs : List V} {H : Hp} {Q : VK} {E : XK} (h : spTried K ers vs H Q E) : vs.length = 2 := by
  obtain ⟨_, _, _, _, rfl, _⟩ := h; rfl
theorem tried_by {K : PySem.W.Frag} {ers : List Er} {b : Addr} {B : Bk} {L : Lay} {H : Hp} {d : Dd} {Q : VK} (O : V → Hp → Prop) (main : ∀ v H', O v H' → Q v H') (h : TriedK K ers b B L H d O) : TriedK K ers b B L H d Q :=
  ⟨fun e q => ⟨(h.1 e q).1, fun H' s => main _ _ ((h.1 e q).2 H' s)⟩, fun es cs q r L' H' a b c d e f => main _ _ (h.2 es cs q r L' H' a b c d e f)⟩

/-! ### pairs of ints, as rows -/
def prRow (c : Int × Int) : List V := [.int c.1, .int c.2]
theorem pr_rows {H : Hp} : ∀ {xs : List V} {cs : List (Int × Int)}, Paired (PrAt H) xs cs → Paired (TupAt H) xs (cs.map prRow)
  | _, _, .nil => .nil
  | _, _, .cons ⟨t, e, h⟩ r => .cons ⟨t, e, h⟩ (pr_rows r)
theorem prRow_ok {cs : List (Int × Int)} : Rws (cs.map prRow) := fun r hr => by
  obtain ⟨c, _, rfl⟩ := List.mem_map.mp hr
  exact .cons .int (.cons .int .nil)
theorem prRow_inj : ∀ {cs ds : List (Int × Int)}, cs.map prRow = ds.map prRow → cs = ds
  | [], [], _ => rfl
  | [], _ :: _, h => by cases h
  | _ :: _, [], h => by cases h
  | (a, b) :: cs, (c, d) :: ds, h => by
    rw [List.map_cons, List.map_cons] at h
    injection h with h1 h2
    have h3 : [V.int a, V.int b] = [V.int c, V.int d] := h1
    injection h3 with e1 e2
    injection e2 with e2 _
    injection e1 with e1
    injection e2 with e2
    subst e1 e2
    rw [prRow_inj h2]
/-- the i-th of a pair of lists -/
theorem Paired.get_ex {α β : Type} {F : α → β → Prop} : ∀ {l₁ : List α} {l₂ : List β} {i : Nat} {a : α}, Paired F l₁ l₂ → l₁[i]? = some a → ∃ b, l₂[i]? = some b ∧ F a b
  | _, _, _, _, .nil, h => by simp at h
  | _, _, 0, _, .cons r _, h => by
    cases h
    exact ⟨_, rfl, r⟩
  | _, _, i + 1, _, .cons _ t, h => Paired.get_ex (i := i) t h

/-! ### made data: ints, items, lines -/
def spLPlaceBy (_ : PySem.W.Frag) : Sp := fun vs H Q _ => ∃ c p s : Int, vs = [.int c, .int p, .int s] ∧ 0 < p ∧ ∀ n : Int, Q (.int n) H
theorem len_LPlaceBy {K : PySem.W.Frag} {vs : List V} {H : Hp} {Q : VK} {E : XK} (h : spLPlaceBy K vs H Q E) : vs.length = 3 := by
  obtain ⟨_, _, _, rfl, _⟩ := h; rfl
theorem ok_LPlaceBy {P : Program} {w : World} {K : PySem.W.Frag} {mg : Str → Option Value} {base : Heap} (T : Tx w K mg) : FnOk P w K mg base CX0 1 (He.fAd K dLPlaceBy.at_) (fdO K dLPlaceBy.at_) P_LPlaceBy (spLPlaceBy K) := by
  refine T.f_LPlaceBy.ok sc_LPlaceBy (fun vs H Q E h => len_LPlaceBy h) (fun cdv A outer s H vs Q E hr h => ⟨_, PSs.nox ((pss_cons (ps_set (i := 3) sc_LPlaceBy.nd rfl (Or.inl rfl) (pe_op op_mod (pe_op op_mod (pe_op op_mul (pv 0) pe_int) (pv 1)) pe_int))
      (pss_cons (ps_if (pt_cmpR op_eq (pv 3) pe_int (nomark _)) (pss_one (ps_ret (pe_op op_sub (pe_un un_neg pe_int) (pe_op op_mod (pv 0) pe_int)))) pss_nil)
      (pss_cons (ps_if (pt_cmpR op_eq (pv 3) pe_int (nomark _)) (pss_one (ps_ret (pe_op op_add (pv 2) (pe_op op_mod (pv 0) pe_int)))) pss_nil)
      (pss_one (ps_ret (pe_op op_mod (pe_op op_mod (pe_op op_mul (pv 0) pe_int) (pe_op op_add (pv 1) pe_int)) (pe_callB (call_max2 rfl) (by rfl) T.b_max (by decide +kernel) (pa_cons pe_int (pa_cons (pv 2) pa_nil)))))))))), ?_⟩)
  obtain ⟨c, p, s, rfl, hp, k⟩ := h
  repeat' (first | walk_at "rd1" | walk_at "ml" | walk_at "md" | refine r_itd (fun _ => ?_) (fun _ => ?_) | exact k _ | (refine ⟨_, _, rfl, ?_⟩))
def spLNumberBy (_ : PySem.W.Frag) : Sp := fun vs H Q _ => ∃ c m : Int, vs = [.int c, .int m] ∧ ∀ n : Int, Q (.int n) H
theorem len_LNumberBy {K : PySem.W.Frag} {vs : List V} {H : Hp} {Q : VK} {E : XK} (h : spLNumberBy K vs H Q E) : vs.length = 2 := by
  obtain ⟨_, _, rfl, _⟩ := h; rfl
theorem p13 : (0 : Int) < 10 ^ (13 : Int).toNat := by decide
theorem ok_LNumberBy {P : Program} {w : World} {K : PySem.W.Frag} {mg : Str → Option Value} {base : Heap} (T : Tx w K mg) : FnOk P w K mg base CX0 1 (He.fAd K dLNumberBy.at_) (fdO K dLNumberBy.at_) P_LNumberBy (spLNumberBy K) := by
  refine T.f_LNumberBy.ok sc_LNumberBy (fun vs H Q E h => len_LNumberBy h) (fun cdv A outer s H vs Q E hr h => ⟨_, PSs.nox ((pss_cons (ps_set (i := 2) sc_LNumberBy.nd rfl (Or.inl rfl) (pe_op op_mod (pe_op op_mod (pe_op op_mul (pv 0) pe_int) pe_int) pe_int))
      (pss_cons (ps_if (pt_cmpR op_eq (pv 2) pe_int (nomark _)) (pss_one (ps_ret (pe_un un_neg (pe_op op_mod (pv 0) pe_int)))) pss_nil)
      (pss_cons (ps_if (pt_cmpR op_eq (pv 2) pe_int (nomark _)) (pss_one (ps_ret (pe_op op_add (pv 1) pe_int))) pss_nil)
      (pss_cons (ps_if (PW.pt (pw_or (pt_cmpR op_eq (pv 2) pe_int (nomark _)) (pw_or1 (pt_cmpR op_eq (pv 2) pe_int (nomark _))))) (pss_one (ps_ret (pv 1))) pss_nil)
      (pss_cons (ps_if (pt_cmpR op_eq (pv 2) pe_int (nomark _)) (pss_one (ps_ret (pe_op op_add pe_int (pe_op op_mod (pv 0) (pe_op op_pow pe_int pe_int))))) pss_nil)
      (pss_one (ps_ret (pe_op op_add pe_int (pe_op op_mod (pv 0) (pe_callB (call_max2 rfl) (by rfl) T.b_max (by decide +kernel) (pa_cons pe_int (pa_cons (pv 1) pa_nil))))))))))))), ?_⟩)
  obtain ⟨c, m, rfl, k⟩ := h
  repeat' (first | walk_at "rd1" | walk_at "ml" | refine r_I (C := CPow) ⟨by decide, by decide, by decide⟩ ?_ | refine r_I p13 ?_ | walk_at "md" | refine r_itd (fun _ => ?_) (fun _ => ?_) | refine r_itn (fun _ => ?_) (fun _ => ?_) | exact k _ | (refine ⟨_, _, rfl, ?_⟩))
theorem letter_at {n : Int} : ∃ c : Nat, c ∈ letters.cps.toList ∧ atI letters.cps.toList (n % 26) = some c := by
  have h0 : 0 ≤ n % 26 := Int.emod_nonneg _ (by decide)
  have h1 : n % 26 < 26 := Int.emod_lt_of_pos _ (by decide)
  have hl : letters.cps.toList.length = 26 := by decide +kernel
  have hj : (n % 26).toNat < letters.cps.toList.length := by omega
  refine ⟨letters.cps.toList[(n % 26).toNat], List.getElem_mem hj, ?_⟩
  unfold atI ixN
  rw [if_pos h0, if_pos (by omega)]
  exact List.getElem?_eq_getElem hj
theorem joinL_nil : ∀ ps : List (List Nat), TL.joinL [] ps = ps.flatten
  | [] => rfl
  | [p] => by simp [TL.joinL]
  | p :: q :: r => by
    have ih := joinL_nil (q :: r)
    show p ++ ([] ++ TL.joinL [] (q :: r)) = _
    rw [List.nil_append, ih]
    rfl
theorem sum_ones {cs : List Nat} : ((cs.map fun c => (⟨#[c]⟩ : Str)).map (·.length)).sum = cs.length := by
  induction cs with
  | nil => rfl
  | cons a r ih =>
    rw [List.map_cons, List.map_cons, List.sum_cons, ih]
    show 1 + r.length = _
    rw [List.length_cons]
    omega
/-- an item, joined of letters -/
theorem item_join {cs : List Nat} (h : ∀ c, c ∈ cs → c ∈ letters.cps.toList) (l : 1 ≤ cs.length ∧ cs.length ≤ 12) : isItem (Txt.join "" (cs.map fun c => (⟨#[c]⟩ : Str))) = true := by
  have e : (Txt.join "" (cs.map fun c => (⟨#[c]⟩ : Str))).cps.toList = cs := by
    rw [TL.join_eq]
    have q := TL.tl_join "" (cs.map fun c => (⟨#[c]⟩ : Str))
    have q1 : TL.tl (Str.join "" (cs.map fun c => (⟨#[c]⟩ : Str))) = cs := by
      rw [q, show TL.tl ("" : Str) = [] by decide +kernel, joinL_nil, List.map_map]
      clear q h l
      induction cs with
      | nil => rfl
      | cons a r ih =>
        rw [List.map_cons, List.flatten_cons, ih]
        rfl
    exact q1
  unfold isItem
  have len : (Txt.join "" (cs.map fun c => (⟨#[c]⟩ : Str))).length = cs.length := by
    show Array.size _ = _
    rw [← Array.length_toList, e]
  rw [e, len, decide_eq_true h, decide_eq_true l]
  rfl
def spLItemBy (_ : PySem.W.Frag) : Sp := fun vs H Q _ => ∃ c : Int, vs = [.int c] ∧ ∀ z H', isItem z = true → Same H H' → Q (.str z) H'
theorem len_LItemBy {K : PySem.W.Frag} {vs : List V} {H : Hp} {Q : VK} {E : XK} (h : spLItemBy K vs H Q E) : vs.length = 1 := by
  obtain ⟨_, rfl, _⟩ := h; rfl
/-- a value for each place -/
theorem each_of {n : Nat} {P : Nat → Nat → Prop} (h : ∀ i, i < n → ∃ c, P i c) : ∃ cs : List Nat, cs.length = n ∧ ∀ (i : Nat) c, cs[i]? = some c → P i c := by
  induction n with
  | zero => exact ⟨[], rfl, fun i c e => by simp at e⟩
  | succ n ih =>
    obtain ⟨cs, hl, hc⟩ := ih fun i hi => h i (by omega)
    obtain ⟨c, hp⟩ := h n (by omega)
    refine ⟨cs ++ [c], by simp [hl], fun i d e => ?_⟩
    by_cases hi : i < cs.length
    · rw [List.getElem?_append_left hi] at e
      exact hc i d e
    · have : i = n := by
        have := (List.getElem?_eq_some_iff.mp e).1
        simp at this
        omega
      subst this
      rw [List.getElem?_append_right (by omega), hl, Nat.sub_self] at e
      cases e
      exact hp
theorem ok_LItemBy {P : Program} {w : World} {K : PySem.W.Frag} {mg : Str → Option Value} {base : Heap} (T : Tx w K mg) : FnOk P w K mg base CX0 1 (He.fAd K dLItemBy.at_) (fdO K dLItemBy.at_) P_LItemBy (spLItemBy K) := by
  refine T.f_LItemBy.ok sc_LItemBy (fun vs H Q E h => len_LItemBy h) (fun cdv A outer s H vs Q E hr h => ⟨_, PSs.nox ((pss_cons (ps_set (i := 1) sc_LItemBy.nd rfl (Or.inr rfl) pe_str)
      (pss_one (ps_ret (pe_bm PySem.F.plainAttrs_str PySem.F.slot_str_join PySem.F.type_str_join mt_join pe_str (pa_cons (pe_lc (own := [("_law_k", 2)]) (g := gName 2) (tt := tYes) rfl sc_LItemBy.nd (pi_range1 (by rfl) T.b_range (pa_cons (pe_op op_add pe_int (pe_op op_mod (pe_op op_mod (pe_op op_mul (pv 0) pe_int) pe_int) pe_int)) pa_nil)) (blkOk_by (N := N_LItemBy) (sc := defScope sLItemBy) (by decide +kernel)) (fun _ _ _ _ _ => pg_name (i := 2) sc_LItemBy.nd rfl (Or.inl rfl)) (fun _ _ _ _ _ => pts_nil) (fun _ _ _ _ _ => (pe_ix ix_str (pv 1) (pe_op op_mod (pe_op op_add (pe_op op_add (pe_op op_fdiv (pv 0) pe_int) (pe_op op_mul pe_int (pv 2))) (pv 0)) pe_int) (fun _ _ => rfl)))) pa_nil)))))), ?_⟩)
  obtain ⟨c, rfl, k⟩ := h
  walk_at "rd"
  refine ⟨rfl, ?_⟩
  walk_at "rd"
  walk_at "ml"
  walk_at "rd"
  walk_at "md"
  walk_at "rd"
  walk_at "md"
  walk_at "rd"
  have b1 : 0 ≤ c * 48271 % 10079 % 12 ∧ c * 48271 % 10079 % 12 < 12 := by omega
  revert b1
  generalize c * 48271 % 10079 % 12 = m
  intro b1
  obtain ⟨cs, hl, hc⟩ := each_of (n := (1 + m).toNat) (P := fun i x => x ∈ letters.cps.toList ∧ atI letters.cps.toList ((c / 26 + 7 * (i : Int) + c) % 26) = some x) fun i _ => letter_at
  refine lcp_range (ys := cs.map fun x => V.str ⟨#[x]⟩) (by simp [hl]) (by omega) (by omega) ?_ ?_
  · intro i y H' R ey s q
    rw [List.getElem?_map] at ey
    cases ec : cs[i]? with
    | none => rw [ec] at ey; cases ey
    | some x =>
      rw [ec] at ey
      cases ey
      walk_at "rd"
      walk_at "md"
      walk_at "rd"
      walk_at "ml"
      walk_at "rd"
      walk_at "md"
      refine ⟨letters, _, x, rfl, rfl, sz5 (by decide +kernel), (hc i x ec).2, q _ (Same.refl _)⟩
  · intro D H' hD s e
    walk_at "rd"
    refine ⟨"", D, cs.map fun x => (⟨#[x]⟩ : Str), rfl, rfl, .inl (SqL.of (by rw [e, List.map_map]; rfl)), ?_, ?_⟩
    · rw [sum_ones]
      show cs.length + (cs.map _).length * 0 ≤ _
      omega
    · refine k _ _ (item_join (fun x hx => ?_) (by omega)) s
      obtain ⟨i, hi⟩ := List.getElem?_of_mem hx
      exact (hc i x hi).1
/-! ### lines -/
theorem item_len {z : Str} (h : isItem z = true) : z.length ≤ 12 := by
  unfold isItem at h
  have := of_decide_eq_true (Bool.and_eq_true_iff.mp h).2
  omega
theorem letters_small : ∀ c, c ∈ letters.cps.toList → c < 0x110000 := by decide +kernel
theorem item_str {z : Str} (h : isItem z = true) : PyData.strOk z = true := by
  unfold isItem at h
  have q := of_decide_eq_true (Bool.and_eq_true_iff.mp h).1
  unfold PyData.strOk
  rw [← Array.all_toList, List.all_eq_true]
  intro c hc
  exact decide_eq_true (letters_small c (q c hc))
/-- a row of good lines, a new list -/
def Good (ls : List Lt) : Prop := (1 ≤ ls.length ∧ ls.length ≤ 20) ∧ ∀ t, t ∈ ls → isItem t.item = true ∧ numOk t
theorem Good.few {ls : List Lt} (g : Good ls) : Dd.few (.ord ls) := ⟨by have := g.1; omega, fun t ht => by have := item_len (g.2 t ht).1; omega⟩
theorem Good.err {ls : List Lt} (g : Good ls) {n : Nat} (h : n < 40) : ordErr n ls = none := by
  unfold ordErr
  have f : firstErr ls = none := by
    unfold firstErr
    rw [List.findSome?_eq_none_iff]
    intro t ht
    obtain ⟨a, b⟩ := g.2 t ht
    unfold ltCheck
    rw [if_pos a, if_pos b]
  rw [if_neg (fun z => z g.1), f]
  show (if n = 40 then _ else _) = _
  rw [if_neg (by omega)]
def LinesAt (H : Hp) (r : Addr) (ls : List Lt) : Prop := ∃ xs, H r = some (.lst xs) ∧ LtsAt H xs ls
def spLLinesBy (_ : PySem.W.Frag) : Sp := fun vs H Q _ => ∃ c : Int, vs = [.int c] ∧ ∀ r ls H', Good ls → Same H H' → H r = none → LinesAt H' r ls → Q (.ref r) H'
theorem len_LLinesBy {K : PySem.W.Frag} {vs : List V} {H : Hp} {Q : VK} {E : XK} (h : spLLinesBy K vs H Q E) : vs.length = 1 := by
  obtain ⟨_, rfl, _⟩ := h; rfl
theorem ok_LLinesBy {P : Program} {w : World} {K : PySem.W.Frag} {mg : Str → Option Value} {base : Heap} (T : Tx w K mg) : FnOk P w K mg base CX0 2 (He.fAd K dLLinesBy.at_) (fdO K dLLinesBy.at_) P_LLinesBy (spLLinesBy K) := by
  refine T.f_LLinesBy.ok sc_LLinesBy (fun vs H Q E h => len_LLinesBy h) (fun cdv A outer s H vs Q E hr h => ⟨_, PSs.nox ((pss_cons (ps_set (i := 1) sc_LLinesBy.nd rfl (Or.inl rfl) (pe_lst pa_nil))
      (pss_cons (ps_set (i := 2) sc_LLinesBy.nd rfl (Or.inl rfl) (pe_op op_add pe_int (pe_op op_mod (pe_op op_mod (pe_op op_mul (pv 0) pe_int) pe_int) pe_int)))
      (pss_cons (ps_if (pt_cmpR op_eq (pe_op op_mod (pe_op op_mod (pe_op op_mul (pv 0) pe_int) pe_int) pe_int) pe_int (nomark _)) (pss_one (ps_set (i := 2) sc_LLinesBy.nd rfl (Or.inl rfl) (pe_op op_add pe_int (pe_op op_mod (pv 0) pe_int)))) pss_nil)
      (pss_cons (ps_for PassesOwn.never rfl (pi_range1 (by rfl) T.b_range (pa_cons (pv 2) pa_nil)) (pg_name (i := 3) sc_LLinesBy.nd rfl (Or.inl rfl)) (pss_cons (ps_set (i := 4) sc_LLinesBy.nd rfl (Or.inl rfl) (pe_op op_add (pe_op op_fdiv (pv 0) (pe_op op_add (pv 3) pe_int)) (pe_op op_mul pe_int (pv 3))))
      (pss_cons (ps_set (i := 5) sc_LLinesBy.nd rfl (Or.inl rfl) (pe_call (ok_LItemBy T) (hr.mono (by decide)) rfl T.g_LItemBy T.f_LItemBy.kp T.b_LItemBy .nil pass0 (pa_cons (pv 4) pa_nil)))
      (pss_cons (ps_if (pt_cmpR op_eq (pe_op op_mod (pe_op op_mod (pe_op op_mul (pv 0) pe_int) pe_int) pe_int) pe_int (nomark _)) (pss_one (ps_set (i := 5) sc_LLinesBy.nd rfl (Or.inl rfl) (pe_call (ok_LItemBy T) (hr.mono (by decide)) rfl T.g_LItemBy T.f_LItemBy.kp T.b_LItemBy .nil pass0 (pa_cons (pe_op op_fdiv (pv 0) pe_int) pa_nil)))) pss_nil)
      (pss_one (ps_if (pt_cmpR op_eq (pe_op op_mod (pe_op op_mod (pe_op op_mul (pv 0) pe_int) pe_int) pe_int) pe_int (nomark _)) (pss_one (ps_expr (pe_bm PySem.F.plainAttrs_list PySem.F.slot_list_append PySem.F.type_list_append mt_append (pv 1) (pa_cons (pe_tup (pa_cons (pv 5) (pa_cons (pe_op op_add pe_int (pe_op op_mod (pv 4) pe_int)) (pa_cons (pe_op op_mod (pe_op op_mul (pv 4) pe_int) pe_int) (pa_cons (pe_op op_add pe_int (pe_op op_mod (pv 4) pe_int)) pa_nil))))) pa_nil)))) (pss_one (ps_expr (pe_bm PySem.F.plainAttrs_list PySem.F.slot_list_append PySem.F.type_list_append mt_append (pv 1) (pa_cons (pe_tup (pa_cons (pv 5) (pa_cons (pe_op op_add pe_int (pe_op op_mod (pv 4) pe_int)) (pa_cons (pe_op op_mod (pe_op op_mod (pe_op op_mul (pv 4) pe_int) pe_int) pe_int) (pa_cons (pe_op op_add pe_int (pe_op op_mod (pe_op op_fdiv (pv 4) pe_int) pe_int)) pa_nil))))) pa_nil))))))))))
      (pss_one (ps_ret (pv 1)))))))), ?_⟩)
  obtain ⟨c, rfl, k⟩ := h
  walk_at "rd"
  refine r_mk (by simp) fun r hr => ?_
  walk_at "rs"
  walk_at "rd1"
  walk_at "rs"
  walk_at "ml"
  walk_at "rs"
  walk_at "md"
  walk_at "rs"
  walk_at "md"
  walk_at "rs"
  have er : upd H r (.lst []) r = some (.lst []) := upd_same
  have sr := same_upd (o := .lst []) hr
  revert er sr
  generalize upd H r (.lst []) = H0
  intro er sr
  with_reducible refine r_join (fun σ' H' => H0 = H' ∧ ∃ m : Int, (1 ≤ m ∧ m ≤ 20) ∧ σ' = [some (.int c), some (.ref r), some (.int m), none, none, none]) ?_ fun N hN => ?_
  rotate_left
  · walk_at "rd"
    walk_at "ml"
    walk_at "rd"
    walk_at "md"
    walk_at "rd"
    walk_at "md"
    walk_at "rd"
    refine r_itd (fun _ => ?_) (fun _ => ?_)
    · walk_at "rd"
      walk_at "md"
      walk_at "rd"
      exact hN _ _ ⟨rfl, _, by omega, rfl⟩
    · walk_at "rd"
      exact hN _ _ ⟨rfl, _, by omega, rfl⟩
  rintro σ' _ ⟨rfl, m, hm, rfl⟩
  walk_at "rd"
  refine ⟨m, rfl, by omega, by omega, for_range (lo := 0) (n := m.toNat) (fun i σ H' => ∃ v3 v4 v5 ls, σ = [some (.int c), some (.ref r), some (.int m), v3, v4, v5] ∧ ls.length = i ∧ (∀ t, t ∈ ls → isItem t.item = true ∧ numOk t) ∧ LinesAt H' r ls ∧ Same H H') ⟨none, none, none, [], rfl, rfl, (fun t ht => by cases ht), ⟨[], er, .nil⟩, sr⟩ ?_ ?_⟩
  · rintro i σ H1 hi ⟨v3, v4, v5, ls, rfl, hl, hg, ⟨xs, e1, p1⟩, s1⟩
    rw [Int.zero_add]
    walk_at "rs"
    walk_at "rd1"
    walk_at "rs"
    refine r_I ⟨by omega, by omega⟩ ?_
    walk_at "rs"
    walk_at "ml"
    walk_at "rs"
    walk_at "rd1"
    walk_at "rs"
    refine ⟨_, rfl, fun z H2 hz s2 => ?_⟩
    walk_at "rs"
    have len1 := p1.length
    with_reducible refine r_join (fun σ' H' => Same H1 H' ∧ ∃ (z : Str) (more : Int), isItem z = true ∧ σ' = [some (.int c), some (.ref r), some (.int m), some (.int (i : Int)), some (.int more), some (.str z)]) ?_ fun N hN => ?_
    rotate_left
    · walk_at "rd"
      walk_at "ml"
      walk_at "rd"
      walk_at "md"
      walk_at "rd"
      walk_at "md"
      walk_at "rd"
      refine r_itd (fun _ => ?_) (fun _ => ?_)
      · walk_at "rd"
        walk_at "md"
        walk_at "rd"
        refine ⟨_, rfl, fun z' H3 hz' s3 => ?_⟩
        walk_at "rd"
        exact hN _ _ ⟨s2.trans s3, z', _, hz', rfl⟩
      · walk_at "rd"
        exact hN _ _ ⟨s2, z, _, hz, rfl⟩
    rintro σ' H3 ⟨s3, z', more, hz', rfl⟩
    have e3 := s3 _ _ e1
    have fin : ∀ (t : Addr) (p cc g : Int), (1 ≤ p ∧ p ≤ 1000000) → (0 ≤ cc ∧ cc ≤ 1000000000) → (1 ≤ g ∧ g ≤ 1000) → H3 t = none →
        LinesAt (upd (upd H3 t (.tup [.str z', .int p, .int cc, .int g])) r (.lst (xs ++ [.ref t]))) r (ls ++ [⟨z', p, cc, g⟩]) ∧ Same H (upd (upd H3 t (.tup [.str z', .int p, .int cc, .int g])) r (.lst (xs ++ [.ref t]))) ∧
        (∀ u, u ∈ ls ++ [⟨z', p, cc, g⟩] → isItem u.item = true ∧ numOk u) := fun t p cc g hp hc hg2 ht => by
      have rt : r ≠ t := ne_of_none e3 ht
      have b1 : But (· = r) H3 (upd (upd H3 t (.tup [.str z', .int p, .int cc, .int g])) r (.lst (xs ++ [.ref t]))) := (But.of (same_upd ht)).trans (But.lst (xs := xs) (by rw [upd_ne rt]; exact e3) rfl)
      refine ⟨⟨_, upd_same, Paired.snoc (b1.lts ((But.of (S := (· = r)) s3).lts p1)) ⟨t, rfl, by rw [upd_ne (Ne.symm rt)]; exact upd_same⟩⟩, fun x u q => ?_, fun u hu => ?_⟩
      · exact b1.keep _ _ (s3 _ _ (s1 _ _ q)) (ne_of_none q hr)
      · rcases List.mem_append.mp hu with h | h
        · exact hg u h
        · have e : u = ⟨z', p, cc, g⟩ := by simpa using h
          subst e
          exact ⟨hz', hp, hc, hg2⟩
    walk_at "rd"
    walk_at "ml"
    walk_at "rd"
    walk_at "md"
    walk_at "rd"
    walk_at "md"
    walk_at "rd"
    refine r_itd (fun _ => ?_) (fun _ => ?_)
    · walk_at "rd"
      refine r_tyL (SqL.of e3) ?_
      walk_at "rd"
      walk_at "md"
      walk_at "rd"
      walk_at "ml"
      walk_at "rd"
      walk_at "md"
      walk_at "rd"
      walk_at "md"
      walk_at "rd"
      refine r_mk (by simp) fun t ht => ?_
      walk_at "rd"
      refine r_app (by rw [upd_ne (ne_of_none e3 ht)]; exact e3) (sz5l (by omega)) ?_
      obtain ⟨f1, f2, f3⟩ := fin t (1 + more % 1000000) (more * 48271 % 1000000001) (1 + more % 1000) (by omega) (by omega) (by omega) ht
      exact ⟨_, _, _, _, rfl, by simp [hl], f3, f1, f2⟩
    · walk_at "rd"
      refine r_tyL (SqL.of e3) ?_
      walk_at "rd"
      walk_at "md"
      walk_at "rd"
      walk_at "ml"
      walk_at "rd"
      walk_at "md"
      walk_at "rd"
      walk_at "md"
      walk_at "rd"
      walk_at "md"
      walk_at "rd"
      walk_at "md"
      walk_at "rd"
      refine r_mk (by simp) fun t ht => ?_
      walk_at "rd"
      refine r_app (by rw [upd_ne (ne_of_none e3 ht)]; exact e3) (sz5l (by omega)) ?_
      obtain ⟨f1, f2, f3⟩ := fin t (1 + more % 9) (more * 48271 % 10091 % 200) (1 + more / 9 % 4) (by omega) (by omega) (by omega) ht
      exact ⟨_, _, _, _, rfl, by simp [hl], f3, f1, f2⟩
  · rintro σ H1 ⟨v3, v4, v5, ls, rfl, hl, hg, la, s1⟩
    walk_at "rd"
    exact k r ls H1 ⟨by omega, hg⟩ s1 hr la

/-! ### the law's account: the same orders, in lists -/
def lnL (l : Ln) : List V := [.str l.item, .int l.ordered, .int l.cents, .int l.pack, .int l.sent, .int l.home, .int l.again, .int l.credited]
structure AO where
  o : Addr
  ll : Addr
  rw : Addr
  las : List Addr
inductive ARole where
  | no | top | o (j : Nat) | ll (j : Nat) | rw (j : Nat) | ln (j i : Nat)
structure AL where
  ords : List AO
  own : Addr → ARole
def AL.foot (A : AL) (a : Addr) : Prop := A.own a ≠ .no
/-- one order of the account, as it is read -/
structure AoAt (H : Hp) (p : AO) (o : Od) : Prop where
  ob : H p.o = some (.lst [.ref p.ll, .int o.money, .ref p.rw])
  ll : H p.ll = some (.lst (p.las.map V.ref))
  len : p.las.length = o.lines.length
  ln : ∀ (i : Nat) a l, p.las[i]? = some a → o.lines[i]? = some l → H a = some (.lst (lnL l))
  rws : ∃ ts, H p.rw = some (.lst ts) ∧ Paired (MkAt H) ts o.marks
structure AoOwn (A : AL) (j : Nat) (p : AO) : Prop where
  o : A.own p.o = .o j
  ll : A.own p.ll = .ll j
  rw : A.own p.rw = .rw j
  ln : ∀ (i : Nat) a, p.las[i]? = some a → A.own a = .ln j i
structure AccAt (H : Hp) (a : Addr) (os : List Od) (A : AL) : Prop where
  top : H a = some (.lst (A.ords.map fun p => V.ref p.o))
  rt : A.own a = .top
  len : A.ords.length = os.length
  od : ∀ (j : Nat) p o, A.ords[j]? = some p → os[j]? = some o → AoAt H p o
  ro : ∀ (j : Nat) p, A.ords[j]? = some p → AoOwn A j p
  dom : ∀ x, A.own x ≠ .no → ∃ o, H x = some o
theorem AoAt.keep {H H' : Hp} {p : AO} {o : Od} {S : Addr → Prop} (h : AoAt H p o) (b : But S H H') (n : ∀ a, (a = p.o ∨ a = p.ll ∨ a = p.rw ∨ a ∈ p.las) → ¬ S a) : AoAt H' p o where
  ob := b.keep _ _ h.ob (n _ (.inl rfl))
  ll := b.keep _ _ h.ll (n _ (.inr (.inl rfl)))
  len := h.len
  ln := fun i a l e1 e2 => b.keep _ _ (h.ln i a l e1 e2) (n _ (.inr (.inr (.inr (List.mem_of_getElem? e1)))))
  rws := by
    obtain ⟨ts, e, q⟩ := h.rws
    exact ⟨ts, b.keep _ _ e (n _ (.inr (.inr (.inl rfl)))), b.mks q⟩
theorem AoAt.same {H H' : Hp} {p : AO} {o : Od} (h : AoAt H p o) (s : Same H H') : AoAt H' p o := h.keep (But.of (S := fun _ => False) s) fun _ _ => id
theorem AoOwn.foot {A : AL} {j : Nat} {p : AO} (h : AoOwn A j p) {a : Addr} (q : a = p.o ∨ a = p.ll ∨ a = p.rw ∨ a ∈ p.las) : A.own a = .o j ∨ A.own a = .ll j ∨ A.own a = .rw j ∨ ∃ i, A.own a = .ln j i := by
  rcases q with rfl | rfl | rfl | q
  · exact .inl h.o
  · exact .inr (.inl h.ll)
  · exact .inr (.inr (.inl h.rw))
  · obtain ⟨i, hi⟩ := List.getElem?_of_mem q
    exact .inr (.inr (.inr ⟨i, h.ln i a hi⟩))
theorem AoOwn.in_ {A : AL} {j : Nat} {p : AO} (h : AoOwn A j p) {a : Addr} (q : a = p.o ∨ a = p.ll ∨ a = p.rw ∨ a ∈ p.las) : A.own a ≠ .no := by
  rcases h.foot q with e | e | e | ⟨i, e⟩ <;> rw [e] <;> intro z <;> cases z
theorem AccAt.keep {H H' : Hp} {a : Addr} {os : List Od} {A : AL} {S : Addr → Prop} (h : AccAt H a os A) (b : But S H H') (n : ∀ x, A.own x ≠ .no → ¬ S x) : AccAt H' a os A where
  top := b.keep _ _ h.top (n _ (by rw [h.rt]; intro q; cases q))
  rt := h.rt
  len := h.len
  od := fun j p o e1 e2 => (h.od j p o e1 e2).keep b fun x q => n x ((h.ro j p e1).in_ q)
  ro := h.ro
  dom := fun x z => by
    obtain ⟨o, e⟩ := h.dom x z
    exact ⟨o, b.keep _ _ e (n x z)⟩
theorem AccAt.same {H H' : Hp} {a : Addr} {os : List Od} {A : AL} (h : AccAt H a os A) (s : Same H H') : AccAt H' a os A := h.keep (But.of (S := fun _ => False) s) fun _ _ => id
theorem AccAt.fresh {H : Hp} {a : Addr} {os : List Od} {A : AL} (h : AccAt H a os A) {x : Addr} (e : H x = none) : A.own x = .no := by
  by_cases z : A.own x = .no
  · exact z
  · obtain ⟨o, q⟩ := h.dom x z
    rw [e] at q
    cases q
/-- its texts are plain, and the bounds that reckoning asks -/
def Od.strs (o : Od) : Prop := (∀ l, l ∈ o.lines → isItem l.item = true) ∧ ∀ m, m ∈ o.marks → PyData.strOk m.1 = true
def OsOk (os : List Od) : Prop := os.length ≤ 100 ∧ ∀ o, o ∈ os → o.ok ∧ 1 ≤ o.lines.length ∧ o.strs
theorem Ln.ok.c {l : Ln} (h : l.ok) : -(2 ^ 64) < l.cents ∧ l.cents < 2 ^ 64 := by
  obtain ⟨⟨a, b⟩, _⟩ := h
  omega
theorem Ln.ok.p {l : Ln} (h : l.ok) : 0 < l.pack ∧ l.pack < 1073741824 := by
  obtain ⟨_, a, b⟩ := h
  omega
def mostOf (os : List Od) (w : Str) (at' pl : Int) : Int := match at_ os at' with
  | none => 5
  | some (_, o) => if w = "pay" then o.owing else if w = "refund" ∨ w = "move" then -o.owing else match at_ o.lines pl with
    | none => 5
    | some (_, l) => if w = "deliver" then l.toCome else if w = "credit" then l.charge else l.kept
theorem acc_at {H : Hp} {a : Addr} {os : List Od} {A : AL} {j : Nat} {o : Od} (h : AccAt H a os A) (e : os[j]? = some o) : ∃ p, A.ords[j]? = some p ∧ AoAt H p o ∧ (A.ords.map fun p => V.ref p.o)[j]? = some (.ref p.o) := by
  have hl : j < A.ords.length := by rw [h.len]; exact (List.getElem?_eq_some_iff.mp e).1
  refine ⟨A.ords[j], List.getElem?_eq_getElem hl, h.od j _ o (List.getElem?_eq_getElem hl) e, ?_⟩
  rw [List.getElem?_map, List.getElem?_eq_getElem hl]
  rfl
theorem ao_at {H : Hp} {p : AO} {o : Od} {i : Nat} {l : Ln} (O : AoAt H p o) (e : o.lines[i]? = some l) : ∃ a, p.las[i]? = some a ∧ H a = some (.lst (lnL l)) ∧ (p.las.map V.ref)[i]? = some (.ref a) := by
  have hl : i < p.las.length := by rw [O.len]; exact (List.getElem?_eq_some_iff.mp e).1
  refine ⟨p.las[i], List.getElem?_eq_getElem hl, O.ln i _ l (List.getElem?_eq_getElem hl) e, ?_⟩
  rw [List.getElem?_map, List.getElem?_eq_getElem hl]
  rfl

/-! ### by what a deed is refused -/
def refOf (os : List Od) (d : Dd) : Str := match d with
  | .ord _ => ""
  | d => match step os d with
    | .error e => e.name
    | .ok _ => ""
def mostLn (w : Str) (l : Ln) : Int := if w = "deliver" then l.toCome else if w = "credit" then l.charge else l.kept
theorem turn_most {w : Str} {l : Ln} {n : Int} (g : w = "deliver" ∨ w = "back" ∨ w = "swap" ∨ w = "credit") : (n > mostLn w l → l.turn w n = none) ∧ (¬ n > mostLn w l → ∃ l', l.turn w n = some l') := by
  unfold mostLn Ln.turn
  rcases g with rfl | rfl | rfl | rfl
  · rw [if_pos rfl, if_pos rfl]
    unfold Ln.deliver
    exact ⟨fun h => if_pos h, fun h => ⟨_, if_neg h⟩⟩
  · rw [if_neg (by decide +kernel), if_neg (by decide +kernel), if_neg (by decide +kernel), if_neg (by decide +kernel)]
    unfold Ln.bring
    exact ⟨fun h => if_pos h, fun h => ⟨_, if_neg h⟩⟩
  · rw [if_neg (by decide +kernel), if_neg (by decide +kernel), if_neg (by decide +kernel), if_neg (by decide +kernel)]
    unfold Ln.bring
    exact ⟨fun h => if_pos h, fun h => ⟨_, if_neg h⟩⟩
  · rw [if_neg (by decide +kernel), if_pos rfl, if_neg (by decide +kernel), if_pos rfl]
    unfold Ln.reduce
    exact ⟨fun h => if_pos h, fun h => ⟨_, if_neg h⟩⟩
theorem most_ln {os : List Od} {w : Str} {j i : Nat} {o : Od} {l : Ln} (g : w = "deliver" ∨ w = "back" ∨ w = "swap" ∨ w = "credit") (eo : os[j]? = some o) (el : o.lines[i]? = some l) : mostOf os w (j : Int) (i : Int) = mostLn w l := by
  unfold mostOf mostLn
  rw [at_some eo]
  dsimp only
  rw [at_some el]
  dsimp only
  have h1 : ¬ w = "pay" := by rcases g with rfl | rfl | rfl | rfl <;> decide +kernel
  have h2 : ¬ (w = "refund" ∨ w = "move") := by rcases g with rfl | rfl | rfl | rfl <;> decide +kernel
  rw [if_neg h1, if_neg h2]
theorem most_mo {os : List Od} {w : Str} {j : Nat} {o : Od} {q : Int} (g : w = "refund" ∨ w = "move") (eo : os[j]? = some o) : mostOf os w (j : Int) q = -o.owing := by
  unfold mostOf
  rw [at_some eo]
  dsimp only
  have h1 : ¬ w = "pay" := by rcases g with rfl | rfl <;> decide +kernel
  rw [if_neg h1, if_pos g]
theorem gln {w : Str} (g : w = "deliver" ∨ w = "back" ∨ w = "swap" ∨ w = "credit") : ¬ w = "order" ∧ ¬ w = "move" ∧ ¬ w = "pay" ∧ ¬ w = "refund" := by
  rcases g with rfl | rfl | rfl | rfl <;> decide +kernel
theorem gmo {w : Str} (g : w = "pay" ∨ w = "refund") : ¬ w = "order" ∧ ¬ w = "move" := by
  rcases g with rfl | rfl <;> decide +kernel

/-! ### a deed's turn in the account -/
def AO.foot (p : AO) (a : Addr) : Prop := a = p.o ∨ a = p.ll ∨ a = p.rw ∨ a ∈ p.las
def ARole.of (j : Nat) (r : ARole) : Prop := r = .o j ∨ r = .ll j ∨ r = .rw j ∨ ∃ i, r = .ln j i
theorem ARole.of_inj {j k : Nat} {r : ARole} (h : r.of j) (g : r.of k) : j = k := by
  rcases h with rfl | rfl | rfl | ⟨i, rfl⟩ <;> rcases g with g | g | g | ⟨i', g⟩ <;> cases g <;> rfl
theorem ARole.of_top {j : Nat} (h : ARole.top.of j) : False := by
  rcases h with h | h | h | ⟨i, h⟩ <;> cases h
theorem ARole.of_no {j : Nat} (h : ARole.no.of j) : False := by
  rcases h with h | h | h | ⟨i, h⟩ <;> cases h
theorem AoAt.dom {H : Hp} {p : AO} {o : Od} (O : AoAt H p o) : ∀ a, p.foot a → ∃ u, H a = some u := by
  intro a f
  rcases f with f | f | f | f
  · exact ⟨_, by rw [f]; exact O.ob⟩
  · exact ⟨_, by rw [f]; exact O.ll⟩
  · obtain ⟨ts, e, _⟩ := O.rws
    exact ⟨_, by rw [f]; exact e⟩
  · obtain ⟨i, hi⟩ := List.getElem?_of_mem f
    have hl : i < o.lines.length := by rw [← O.len]; exact (List.getElem?_eq_some_iff.mp hi).1
    exact ⟨_, O.ln i a _ hi (List.getElem?_eq_getElem hl)⟩
/-- one order is changed -/
theorem AccAt.one {H H' : Hp} {a : Addr} {os : List Od} {A : AL} {j : Nat} {p : AO} {o' : Od} (h : AccAt H a os A) (hp : A.ords[j]? = some p) (O : AoAt H' p o') (bt : But p.foot H H') : AccAt H' a (os.set j o') A := by
  have ro := h.ro j p hp
  have n : ∀ x, ¬ (A.own x).of j → ¬ p.foot x := fun x z f => z (ro.foot f)
  refine ⟨bt.keep _ _ h.top (n _ (by rw [h.rt]; exact ARole.of_top)), h.rt, by simp [h.len], fun i q o e1 e2 => ?_, h.ro, fun x z => ?_⟩
  · by_cases hj : j = i
    · subst hj
      rw [hp] at e1
      cases e1
      have hl : j < os.length := by rw [← h.len]; exact (List.getElem?_eq_some_iff.mp hp).1
      rw [List.getElem?_set_self hl] at e2
      cases e2
      exact O
    · rw [List.getElem?_set_ne hj] at e2
      refine (h.od i q o e1 e2).keep bt fun x f => n x fun z => ?_
      exact hj (ARole.of_inj z ((h.ro i q e1).foot f))
  · by_cases f : p.foot x
    · exact O.dom x f
    · obtain ⟨o, e⟩ := h.dom x z
      exact ⟨o, bt.keep _ _ e f⟩
theorem AccAt.footOf {H : Hp} {a : Addr} {os : List Od} {A : AL} {j : Nat} {p : AO} (h : AccAt H a os A) (hp : A.ords[j]? = some p) : ∀ x, p.foot x → A.foot x := fun x f => (h.ro j p hp).in_ f
/-- the money is written -/
theorem AoAt.money {H : Hp} {A : AL} {j : Nat} {p : AO} {o : Od} {m : Int} (O : AoAt H p o) (R : AoOwn A j p) : AoAt (upd H p.o (.lst [.ref p.ll, .int m, .ref p.rw])) p { o with money := m } ∧ But p.foot H (upd H p.o (.lst [.ref p.ll, .int m, .ref p.rw])) := by
  have b : But (· = p.o) H (upd H p.o (.lst [.ref p.ll, .int m, .ref p.rw])) := But.lst O.ob rfl
  have d : ∀ x r, A.own x = r → r ≠ .o j → x ≠ p.o := fun x r e n z => by rw [z, R.o] at e; exact n e.symm
  refine ⟨⟨upd_same, b.keep _ _ O.ll (d _ _ R.ll (by intro q; cases q)), O.len, fun i x l e1 e2 => b.keep _ _ (O.ln i x l e1 e2) (d _ _ (R.ln i x e1) (by intro q; cases q)), ?_⟩, b.mono fun x z => .inl z⟩
  obtain ⟨ts, e, q⟩ := O.rws
  exact ⟨ts, b.keep _ _ e (d _ _ R.rw (by intro q; cases q)), b.mks q⟩
/-- a line is written -/
theorem AoAt.line {H : Hp} {A : AL} {j : Nat} {p : AO} {o : Od} {i : Nat} {la : Addr} {l : Ln} {l' : Ln} (O : AoAt H p o) (R : AoOwn A j p) (e : p.las[i]? = some la) (el : o.lines[i]? = some l) :
    AoAt (upd H la (.lst (lnL l'))) p { o with lines := o.lines.set i l' } ∧ But p.foot H (upd H la (.lst (lnL l'))) := by
  have b : But (· = la) H (upd H la (.lst (lnL l'))) := But.lst (O.ln i la l e el) rfl
  have R0 := R.ln i la e
  have d : ∀ x r, A.own x = r → r ≠ .ln j i → x ≠ la := fun x r e n z => by rw [z, R0] at e; exact n e.symm
  refine ⟨⟨b.keep _ _ O.ob (d _ _ R.o (by intro q; cases q)), b.keep _ _ O.ll (d _ _ R.ll (by intro q; cases q)), by simp [O.len], fun k x m e1 e2 => ?_, ?_⟩, b.mono fun x z => .inr (.inr (.inr (by rw [z]; exact List.mem_of_getElem? e)))⟩
  · have e2' : (o.lines.set i l')[k]? = some m := e2
    by_cases z : i = k
    · subst z
      rw [e] at e1
      cases e1
      rw [List.getElem?_set_self (List.getElem?_eq_some_iff.mp el).1] at e2'
      cases e2'
      exact upd_same
    · rw [List.getElem?_set_ne z] at e2'
      refine b.keep _ _ (O.ln k x m e1 e2') (d _ _ (R.ln k x e1) fun q => ?_)
      cases q
      exact z rfl
  · obtain ⟨ts, e, q⟩ := O.rws
    exact ⟨ts, b.keep _ _ e (d _ _ R.rw (by intro q; cases q)), b.mks q⟩
/-- a row is written behind -/
theorem AoAt.row {H : Hp} {A : AL} {j : Nat} {p : AO} {o : Od} {ts : List V} {t : Addr} {w : Str} {c : Int} (O : AoAt H p o) (R : AoOwn A j p) (et : H p.rw = some (.lst ts)) (hm : H t = some (.tup [.str w, .int c])) :
    AoAt (upd H p.rw (.lst (ts ++ [.ref t]))) p (o.mark w c) ∧ But p.foot H (upd H p.rw (.lst (ts ++ [.ref t]))) := by
  have b : But (· = p.rw) H (upd H p.rw (.lst (ts ++ [.ref t]))) := But.lst et rfl
  have d : ∀ x r, A.own x = r → r ≠ .rw j → x ≠ p.rw := fun x r e n z => by rw [z, R.rw] at e; exact n e.symm
  refine ⟨⟨b.keep _ _ O.ob (d _ _ R.o (by intro q; cases q)), b.keep _ _ O.ll (d _ _ R.ll (by intro q; cases q)), O.len, fun i x l e1 e2 => b.keep _ _ (O.ln i x l e1 e2) (d _ _ (R.ln i x e1) (by intro q; cases q)), ?_⟩, b.mono fun x z => .inr (.inr (.inl z))⟩
  obtain ⟨ts', e, q⟩ := O.rws
  rw [et] at e
  cases e
  exact ⟨_, upd_same, Paired.snoc (b.mks q) ⟨t, rfl, b.tup _ _ hm⟩⟩
def turnOf (os : List Od) : Dd → Option (List Od)
  | .ord _ => none
  | .ln w o l n => match at_ os o with
    | none => none
    | some (j, od) => match at_ od.lines l with
      | none => none
      | some (i, x) => match x.turn w n with
        | none => none
        | some x' => some (os.set j { od with lines := od.lines.set i x' })
  | .mo w o n => match at_ os o with
    | none => none
    | some (j, od) => some (os.set j (od.pay (if w = "pay" then n else -n)))
  | .mv o p n => match at_ os o with
    | none => none
    | some (i, a) => match at_ os p with
      | none => none
      | some (j, b) => if i = j then none else some ((os.set i (a.pay (-n))).set j (b.pay n))
theorem turn_def {w : Str} {l l' : Ln} {n : Int} (g : w = "deliver" ∨ w = "back" ∨ w = "swap" ∨ w = "credit") (e : l.turn w n = some l') :
    (w = "deliver" ∧ l' = { l with sent := l.sent + n }) ∨ (w = "credit" ∧ l' = { l with credited := l.credited + n }) ∨
    (¬ w = "deliver" ∧ ¬ w = "credit" ∧ l' = Ln.cut { l with home := l.home + n, again := l.again + n * (if w = "swap" then 1 else 0) }) := by
  unfold Ln.turn at e
  rcases g with rfl | rfl | rfl | rfl
  · rw [if_pos rfl] at e
    unfold Ln.deliver at e
    split at e
    · cases e
    · cases e
      exact .inl ⟨rfl, rfl⟩
  · rw [if_neg (by decide +kernel), if_neg (by decide +kernel)] at e
    refine .inr (.inr ⟨by decide +kernel, by decide +kernel, ?_⟩)
    rw [if_neg (by decide +kernel)]
    unfold Ln.bring at e
    split at e
    · cases e
    · cases e
      rw [Int.mul_zero, Int.add_zero]
      rfl
  · rw [if_neg (by decide +kernel), if_neg (by decide +kernel)] at e
    refine .inr (.inr ⟨by decide +kernel, by decide +kernel, ?_⟩)
    rw [if_pos rfl]
    unfold Ln.bring at e
    split at e
    · cases e
    · cases e
      rw [Int.mul_one]
      rfl
  · rw [if_neg (by decide +kernel), if_pos rfl] at e
    unfold Ln.reduce at e
    split at e
    · cases e
    · cases e
      exact .inr (.inl ⟨rfl, rfl⟩)
theorem stay_lst {H : Hp} {a : Addr} {o u : HO} (h : H a = some u) : Stay H (upd H a o) := fun x e => by
  by_cases z : x = a
  · rw [z, upd_same] at e; cases e
  · rw [upd_ne z] at e; exact e
theorem r_int1b {H : Hp} {Q : VK} {b : Bool} (q : Q (.int (if b then 1 else 0)) H) : (∃ i, [V.bl b] = [V.int i] ∧ Q (.int i) H) ∨ ∃ k, [V.bl b] = [.bl k] ∧ Q (.int (if k then 1 else 0)) H := .inr ⟨b, rfl, q⟩

/-! ### regions that change -/
structure Md (S S' : Addr → Prop) (H H' : Hp) : Prop where
  but : But S H H'
  grow : ∀ a, S' a → S a ∨ H a = none
theorem Md.no {S S' : Addr → Prop} {H H' : Hp} (m : Md S S' H H') {a : Addr} {u : HO} (e : H a = some u) (n : ¬ S a) : H' a = some u ∧ ¬ S' a := by
  refine ⟨m.but.keep _ _ e n, fun z => ?_⟩
  rcases m.grow a z with q | q
  · exact n q
  · rw [e] at q; cases q
theorem Mod.md {L L' : Lay} {H H' : Hp} (m : Mod L L' H H') : Md L.foot L'.foot H H' := ⟨m.but, m.grow⟩
theorem Md.same {S : Addr → Prop} {H H' : Hp} (s : Same H H') : Md S S H H' := ⟨But.of s, fun _ z => .inl z⟩
theorem Md.of {S : Addr → Prop} {H H' : Hp} (b : But S H H') : Md S S H H' := ⟨b, fun _ z => .inl z⟩
theorem Md.trans {S S1 S2 : Addr → Prop} {H H1 H2 : Hp} (a : Md S S1 H H1) (b : Md S1 S2 H1 H2) (st : Stay H H1) : Md S S2 H H2 where
  but := a.but.mut b.but fun x z => (a.grow x z).elim .inl .inr
  grow := fun x z => (b.grow x z).elim (fun q => a.grow x q) fun q => .inr (st x q)
/-- a comprehension whose elements are new objects -/
theorem lcp_new {K : PySem.W.Frag} {te : TE} {j : Nat} {σ : L2.St} {H1 : Hp} {Q : VK} {a : Addr} {xs : List V} {zs : List HO} (hs : SqL K H1 a xs) (hl : zs.length = xs.length) (hz : xs.length ≤ 100000)
    (he : ∀ (i : Nat) (x : V) (z : HO) (H' : Hp) (W : VK), xs[i]? = some x → zs[i]? = some z → Same H1 H' → (∀ y H'', Same H' H'' → H' y = none → H'' y = some z → W (.ref y) H'') → te ((wipe σ [j]).set j (some x)) H' W)
    (k : ∀ (D : Addr) (H' : Hp) (as : List Addr), H1 D = none → Same H1 H' → H' D = some (.lst (as.map V.ref)) → as.length = zs.length → as.Nodup → (∀ b, b ∈ as → H1 b = none ∧ b ≠ D) →
      (∀ (i : Nat) b z, as[i]? = some b → zs[i]? = some z → H' b = some z) → Q (.ref D) H') : ∃ a', V.ref a = V.ref a' ∧ (∃ xs, SqL K H1 a' xs) ∧ Lcs (Itl K a') (gName j) tYes te [j] σ H1 Q := by
  refine ⟨a, rfl, ⟨xs, hs⟩, fun D hD => ?_⟩
  refine lc_list (K := K) (a := a) (xs := xs) (fun i H' => ∃ as : List Addr, as.length = i ∧ H' D = some (.lst (as.map V.ref)) ∧ as.Nodup ∧ Same H1 H' ∧ (∀ b, b ∈ as → H1 b = none ∧ b ≠ D) ∧ ∀ (j : Nat) b z, as[j]? = some b → zs[j]? = some z → H' b = some z)
    ⟨[], rfl, upd_same, List.nodup_nil, same_upd hD, fun b hb => (by cases hb), fun j b z e => by simp at e⟩ (fun i H' _ ⟨_, _, _, _, s, _⟩ => s.seq hs) ?_ ?_
  · rintro i x H' hi ⟨as, hlen, hd, nd, s, fr, hln⟩
    have hi1 : i < xs.length := (List.getElem?_eq_some_iff.mp hi).1
    have hi2 : i < zs.length := by rw [hl]; exact hi1
    have ez : zs[i]? = some zs[i] := List.getElem?_eq_getElem hi2
    refine ⟨wipe1, r_yes (r_itT ?_)⟩
    refine he i x _ H' _ hi ez s fun y H2 s2 ny h2 => ?_
    have nyD : y ≠ D := Ne.symm (ne_of_none hd ny)
    have nya : ¬ y ∈ as := fun hm => by
      obtain ⟨j', hj⟩ := List.getElem?_of_mem hm
      have hj2 : j' < as.length := (List.getElem?_eq_some_iff.mp hj).1
      have hjt : j' < zs.length := by omega
      have q := hln j' y _ hj (List.getElem?_eq_getElem hjt)
      rw [q] at ny
      cases ny
    refine ⟨_, s2 _ _ hd, ?_, as ++ [y], by simp [hlen], ?_, nodup_snoc nd nya, ?_, ?_, ?_⟩
    · refine sz5l ?_
      rw [List.length_map, hlen]
      omega
    · rw [upd_same, List.map_append]; rfl
    · exact fun b o e => by
        rw [upd_ne (ne_of_none e hD)]
        exact s2 _ _ (s _ _ e)
    · intro b hb
      rcases List.mem_append.mp hb with h | h
      · exact fr b h
      · have e : b = y := by simpa using h
        subst e
        exact ⟨Same.free s ny, nyD⟩
    · intro j' b t e1 e2
      by_cases hj : j' < as.length
      · rw [List.getElem?_append_left hj] at e1
        rw [upd_ne (fr b (List.mem_of_getElem? e1)).2]
        exact s2 _ _ (hln j' b t e1 e2)
      · have hj2 : j' = as.length := by
          have := (List.getElem?_eq_some_iff.mp e1).1
          simp at this
          omega
        subst hj2
        rw [List.getElem?_append_right (Nat.le_refl _), Nat.sub_self] at e1
        cases e1
        rw [hlen, ez] at e2
        cases e2
        rw [upd_ne nyD]
        exact h2
  · rintro H' ⟨as, hlen, hd, nd, s, fr, hln⟩
    exact k D H' as hD s hd (by omega) nd fr hln
/-! ### a new order in the account -/
def AL.add (A : AL) (p : AO) : AL := ⟨A.ords ++ [p], fun a => if a = p.o then .o A.ords.length else if a = p.ll then .ll A.ords.length else if a = p.rw then .rw A.ords.length else if a ∈ p.las then .ln A.ords.length (p.las.idxOf a) else A.own a⟩
theorem idx_nd : ∀ {xs : List Addr} {i : Nat} {a : Addr}, xs.Nodup → xs[i]? = some a → xs.idxOf a = i
  | [], _, _, _, e => by simp at e
  | x :: xs, 0, a, _, e => by
    cases e
    simp [List.idxOf_cons]
  | x :: xs, i + 1, a, nd, e => by
    have e' : xs[i]? = some a := by simpa using e
    have n := (List.nodup_cons.mp nd)
    have ne : ¬ x = a := fun z => n.1 (by rw [z]; exact List.mem_of_getElem? e')
    have ih := idx_nd n.2 e'
    have nb : (x == a) = false := by simpa using ne
    simp [List.idxOf_cons, nb, ih]
theorem AL.add_own {A : AL} {p : AO} (d1 : p.ll ≠ p.o) (d2 : p.rw ≠ p.o) (d3 : p.rw ≠ p.ll) (nd : p.las.Nodup) (n : ∀ x, x ∈ p.las → x ≠ p.o ∧ x ≠ p.ll ∧ x ≠ p.rw) : AoOwn (A.add p) A.ords.length p where
  o := by simp [AL.add]
  ll := by simp [AL.add, d1]
  rw := by simp [AL.add, d2, d3]
  ln := fun i a e => by
    have m := List.mem_of_getElem? e
    obtain ⟨n1, n2, n3⟩ := n a m
    simp only [AL.add, if_neg n1, if_neg n2, if_neg n3, if_pos m, idx_nd nd e]
theorem AccAt.add {H H2 : Hp} {a : Addr} {os : List Od} {A : AL} {p : AO} {o : Od} (h : AccAt H a os A) (hx : ∀ x, p.foot x → H x = none) (R : AoOwn (A.add p) A.ords.length p) (O : AoAt H2 p o) (s : Same H H2) :
    AccAt (upd H2 a (.lst ((A.ords ++ [p]).map fun p => V.ref p.o))) a (os ++ [o]) (A.add p) ∧ Md A.foot (A.add p).foot H (upd H2 a (.lst ((A.ords ++ [p]).map fun p => V.ref p.o))) := by
  have top2 := s _ _ h.top
  have bt2 : But (· = a) H2 (upd H2 a (.lst ((A.ords ++ [p]).map fun p => V.ref p.o))) := But.lst top2 rfl
  have bt : But (· = a) H (upd H2 a (.lst ((A.ords ++ [p]).map fun p => V.ref p.o))) := (But.of s).trans bt2
  have out : ∀ x, ¬ p.foot x → (A.add p).own x = A.own x := fun x f => by
    simp only [AL.add]
    rw [if_neg (fun z => f (.inl z)), if_neg (fun z => f (.inr (.inl z))), if_neg (fun z => f (.inr (.inr (.inl z)))), if_neg (fun z => f (.inr (.inr (.inr z))))]
  have old : ∀ x, A.own x ≠ .no → ¬ p.foot x := fun x z f => by
    obtain ⟨u, q⟩ := h.dom x z
    rw [hx x f] at q
    cases q
  have fe : ∀ x, p.foot x → ¬ x = a := fun x f z => by
    have q := h.top
    rw [← z, hx x f] at q
    cases q
  have z1 : ∀ {r : ARole} {x : Addr}, A.own x = r → r ≠ .no → (A.add p).own x = r := fun {r x} e n => by
    rw [out x (old x (by rw [e]; exact n)), e]
  refine ⟨⟨upd_same, z1 h.rt (by intro q; cases q), by simp [AL.add, h.len], fun j q u e1 e2 => ?_, fun j q e1 => ?_, fun x z => ?_⟩, ⟨bt.mono fun x y => ?_, fun x z => ?_⟩⟩
  · by_cases hj : j < A.ords.length
    · have e1' : (A.ords ++ [p])[j]? = some q := e1
      rw [List.getElem?_append_left hj] at e1'
      rw [List.getElem?_append_left (by rw [← h.len]; exact hj)] at e2
      refine (h.od j q u e1' e2).keep bt fun x f z => ?_
      have q1 := (h.ro j q e1').foot f
      have z' : x = a := z
      rw [z', h.rt] at q1
      exact ARole.of_top q1
    · have e1' : (A.ords ++ [p])[j]? = some q := e1
      have hj2 : j = A.ords.length := by
        have := (List.getElem?_eq_some_iff.mp e1').1
        simp at this
        omega
      subst hj2
      rw [List.getElem?_append_right (Nat.le_refl _), Nat.sub_self] at e1'
      cases e1'
      rw [h.len, List.getElem?_append_right (Nat.le_refl _), Nat.sub_self] at e2
      cases e2
      exact O.keep bt2 fun x f z => fe x f z
  · by_cases hj : j < A.ords.length
    · have e1' : (A.ords ++ [p])[j]? = some q := e1
      rw [List.getElem?_append_left hj] at e1'
      have R' := h.ro j q e1'
      exact ⟨z1 R'.o (by intro q; cases q), z1 R'.ll (by intro q; cases q), z1 R'.rw (by intro q; cases q), fun i x e => z1 (R'.ln i x e) (by intro q; cases q)⟩
    · have e1' : (A.ords ++ [p])[j]? = some q := e1
      have hj2 : j = A.ords.length := by
        have := (List.getElem?_eq_some_iff.mp e1').1
        simp at this
        omega
      subst hj2
      rw [List.getElem?_append_right (Nat.le_refl _), Nat.sub_self] at e1'
      cases e1'
      exact R
  · by_cases f : p.foot x
    · obtain ⟨u, q⟩ := O.dom x f
      exact ⟨u, bt2.keep _ _ q (fe x f)⟩
    · rw [out x f] at z
      by_cases y : x = a
      · exact ⟨_, by rw [y]; exact upd_same⟩
      · obtain ⟨u, q⟩ := h.dom x z
        exact ⟨u, bt.keep _ _ q y⟩
  · have y' : x = a := y
    show A.own x ≠ .no
    rw [y', h.rt]
    intro q
    cases q
  · by_cases f : p.foot x
    · exact .inr (hx x f)
    · have z' : (A.add p).own x ≠ .no := z
      rw [out x f] at z'
      exact .inl z'
/-! ### a step of the account -/
def word : Dd → Str
  | .ord _ => "order"
  | .ln w _ _ _ => w
  | .mo w _ _ => w
  | .mv _ _ _ => "move"
def places : Dd → List Int
  | .ord _ => []
  | .ln _ o _ _ => [o]
  | .mo _ o _ => [o]
  | .mv o p _ => [o, p]
theorem dd_form {F : Addr → Prop} {H : Hp} {v : V} {d : Dd} (g : d.good) (h : DdAt F H v d) (no : ∀ ls, d ≠ .ord ls) : ∃ t o1 r, v = .ref t ∧ H t = some (.tup (.str (word d) :: .int o1 :: r)) ∧ ¬ word d = "order" ∧
    ((word d = "move" ∧ ∃ o2 r', r = .int o2 :: r' ∧ places d = [o1, o2]) ∨ (¬ word d = "move" ∧ places d = [o1])) := by
  cases d with
  | ord ls => exact absurd rfl (no ls)
  | ln w o l n =>
    obtain ⟨t, e, q⟩ := h
    exact ⟨t, o, _, e, q, (gln g).1, .inr ⟨(gln g).2.1, rfl⟩⟩
  | mo w o n =>
    obtain ⟨t, e, q⟩ := h
    exact ⟨t, o, _, e, q, (gmo g).1, .inr ⟨(gmo g).2, rfl⟩⟩
  | mv o p n =>
    obtain ⟨t, e, q⟩ := h
    exact ⟨t, o, _, e, q, by show ¬ ("move" : Str) = "order"; decide +kernel, .inl ⟨rfl, p, _, rfl, rfl⟩⟩
def owAt (os : List Od) (n : Int) : Int := match at_ os n with
  | none => 0
  | some (_, o) => o.owing
def mark1 (w : Str) (os : List Od) (c : Int × Int) : List Od := match at_ os c.1 with
  | none => os
  | some (j, o) => os.set j (o.mark w c.2)
def markAll (os : List Od) (w : Str) (cs : List (Int × Int)) : List Od := cs.foldl (mark1 w) os
theorem mark_snoc {os : List Od} {w : Str} {cs : List (Int × Int)} {i : Nat} {c : Int × Int} (h : cs[i]? = some c) : markAll os w (cs.take (i + 1)) = mark1 w (markAll os w (cs.take i)) c := by
  unfold markAll
  rw [take_snoc h, List.foldl_append]
  rfl
theorem mark1_len {w : Str} {os : List Od} {c : Int × Int} : (mark1 w os c).length = os.length := by
  unfold mark1
  split <;> simp
theorem markAll_len {w : Str} : ∀ {cs : List (Int × Int)} {os : List Od}, (markAll os w cs).length = os.length
  | [], _ => rfl
  | c :: cs, os => by
    show (markAll (mark1 w os c) w cs).length = _
    rw [markAll_len, mark1_len]
theorem set_same {α : Type} {xs : List α} {j : Nat} {x : α} (h : xs[j]? = some x) : xs.set j x = xs := by
  apply List.ext_getElem?
  intro i
  by_cases e : j = i
  · subst e
    rw [List.getElem?_set_self (List.getElem?_eq_some_iff.mp h).1, h]
  · rw [List.getElem?_set_ne e]
/-- a deed that is done: its turn, and the rows behind it -/
theorem step_turn {os es : List Od} {cs : List (Int × Int)} {d : Dd} (no : ∀ ls, d ≠ .ord ls) (e : step os d = .ok (es, cs)) : ∃ os1, turnOf os d = some os1 ∧ os1.length = os.length ∧ cs = (places d).map (fun p => (p, owAt os1 p - owAt os p)) ∧
    es = markAll os1 (word d) cs ∧ ∀ p, p ∈ places d → ∃ j : Nat, p = (j : Int) ∧ j < os.length := by
  cases d with
  | ord ls => exact absurd rfl (no ls)
  | ln w o l n =>
    have e' : stepLn os w o l n = .ok (es, cs) := e
    unfold stepLn at e'
    unfold turnOf
    dsimp only
    rcases at_or os o with ⟨q, _⟩ | ⟨j, od, rfl, eo, q⟩
    · rw [q] at e'; cases e'
    rw [q] at e' ⊢
    dsimp only at e' ⊢
    rcases at_or od.lines l with ⟨q2, _⟩ | ⟨i, x, rfl, el, q2⟩
    · rw [q2] at e'; cases e'
    rw [q2] at e' ⊢
    dsimp only at e' ⊢
    split at e'
    · cases e'
    cases et : x.turn w n with
    | none => rw [et] at e'; cases e'
    | some x' =>
    rw [et] at e'
    cases e'
    have hj := (List.getElem?_eq_some_iff.mp eo).1
    have es1 : (os.set j { od with lines := od.lines.set i x' })[j]? = some { od with lines := od.lines.set i x' } := List.getElem?_set_self hj
    refine ⟨_, rfl, by simp, ?_, ?_, fun p hp => ⟨j, by simpa [places] using hp, hj⟩⟩
    · simp only [places, List.map_cons, List.map_nil]
      unfold owAt
      rw [at_some es1, q]
    · unfold markAll mark1
      simp only [List.foldl_cons, List.foldl_nil]
      rw [at_some es1]
      simp only [List.set_set]
      rfl
  | mo w o n =>
    have e' : stepMo os w o n = .ok (es, cs) := e
    unfold stepMo at e'
    unfold turnOf
    dsimp only
    rcases at_or os o with ⟨q, _⟩ | ⟨j, od, rfl, eo, q⟩
    · rw [q] at e'; cases e'
    rw [q] at e' ⊢
    dsimp only at e' ⊢
    split at e'
    · cases e'
    have hj := (List.getElem?_eq_some_iff.mp eo).1
    have key : ∀ x : Od, es = os.set j (x.mark w (x.owing - od.owing)) → cs = [((j : Int), x.owing - od.owing)] → cs = (places (.mo w j n)).map (fun p => (p, owAt (os.set j x) p - owAt os p)) ∧ es = markAll (os.set j x) (word (.mo w j n)) cs := fun x h1 h2 => by
      have es1 : (os.set j x)[j]? = some x := List.getElem?_set_self hj
      subst h1 h2
      refine ⟨?_, ?_⟩
      · simp only [places, List.map_cons, List.map_nil]
        unfold owAt
        rw [at_some es1, q]
      · unfold markAll mark1
        simp only [List.foldl_cons, List.foldl_nil]
        rw [at_some es1]
        simp only [List.set_set]
        rfl
    by_cases c : w = "pay"
    · rw [if_pos c] at e' ⊢
      cases e'
      obtain ⟨k1, k2⟩ := key (od.pay n) rfl rfl
      exact ⟨_, rfl, by simp, k1, k2, fun p hp => ⟨j, by simpa [places] using hp, hj⟩⟩
    · rw [if_neg c] at e' ⊢
      split at e'
      · cases e'
      cases e'
      obtain ⟨k1, k2⟩ := key (od.pay (-n)) rfl rfl
      exact ⟨_, rfl, by simp, k1, k2, fun p hp => ⟨j, by simpa [places] using hp, hj⟩⟩
  | mv o o2 n =>
    have e' : stepMv os o o2 n = .ok (es, cs) := e
    unfold stepMv at e'
    unfold turnOf
    dsimp only
    rcases at_or os o with ⟨q, _⟩ | ⟨i, a, rfl, eo, q⟩
    · rw [q] at e'; cases e'
    rw [q] at e' ⊢
    dsimp only at e' ⊢
    rcases at_or os o2 with ⟨q2, _⟩ | ⟨j, b, rfl, eo2, q2⟩
    · rw [q2] at e'; cases e'
    rw [q2] at e' ⊢
    dsimp only at e' ⊢
    split at e'
    · cases e'
    rename_i nij
    have ij : ¬ i = j := fun z => nij (by rw [z])
    rw [if_neg ij]
    split at e'
    · cases e'
    split at e'
    · cases e'
    cases e'
    have hi := (List.getElem?_eq_some_iff.mp eo).1
    have hj := (List.getElem?_eq_some_iff.mp eo2).1
    have e1 : ((os.set i (a.pay (-n))).set j (b.pay n))[i]? = some (a.pay (-n)) := by
      rw [List.getElem?_set_ne (Ne.symm ij), List.getElem?_set_self hi]
    have e2 : ((os.set i (a.pay (-n))).set j (b.pay n))[j]? = some (b.pay n) := List.getElem?_set_self (by simpa using hj)
    refine ⟨_, rfl, by simp, ?_, ?_, fun p hp => ?_⟩
    · simp only [places, List.map_cons, List.map_nil]
      unfold owAt
      rw [at_some e1, at_some e2, q, q2]
    · unfold markAll mark1
      simp only [List.foldl_cons, List.foldl_nil]
      rw [at_some e1]
      dsimp only
      have e3 : (((os.set i (a.pay (-n))).set j (b.pay n)).set i ((a.pay (-n)).mark (word (.mv i j n)) ((a.pay (-n)).owing - a.owing)))[j]? = some (b.pay n) := by
        rw [List.getElem?_set_ne ij]
        exact e2
      rw [at_some e3]
      dsimp only
      have c1 : ∀ A A' B : Od, ((os.set i A).set j B).set i A' = (os.set i A').set j B := fun A A' B => by
        rw [List.set_comm _ _ (Ne.symm ij), List.set_set]
      rw [c1, List.set_set]
      rfl
    · have hp' : p = (i : Int) ∨ p = (j : Int) := by simpa [places] using hp
      rcases hp' with rfl | rfl
      · exact ⟨i, rfl, hi⟩
      · exact ⟨j, rfl, hj⟩
theorem turn_item {w : Str} {l l' : Ln} {n : Int} (e : l.turn w n = some l') : l'.item = l.item := by
  unfold Ln.turn Ln.deliver Ln.reduce Ln.bring Ln.cut at e
  repeat' split at e
  all_goals first
    | (cases e; rfl)
    | cases e
theorem Od.strs.line {o : Od} {i : Nat} {l l' : Ln} {w : Str} {n : Int} (h : o.strs) (el : o.lines[i]? = some l) (e : l.turn w n = some l') : Od.strs { o with lines := o.lines.set i l' } := by
  refine ⟨fun x hx => ?_, h.2⟩
  have hx' : x ∈ o.lines.set i l' := hx
  rcases List.mem_or_eq_of_mem_set hx' with z | z
  · exact h.1 x z
  · rw [z, turn_item e]
    exact h.1 l (List.mem_of_getElem? el)
theorem turn_okk {os os1 : List Od} {d : Dd} (ok : OsOk os) (g : d.good) (e : turnOf os d = some os1) : OsOk os1 := by
  have set1 : ∀ {xs : List Od} {j : Nat} {x : Od}, OsOk xs → x.ok ∧ 1 ≤ x.lines.length ∧ x.strs → OsOk (xs.set j x) := fun {xs j x} h hx => ⟨by simpa using h.1, fun o ho => by
    rcases List.mem_or_eq_of_mem_set ho with z | z
    · exact h.2 o z
    · rw [z]; exact hx⟩
  cases d with
  | ord ls => cases e
  | ln w o l n =>
    unfold turnOf at e
    dsimp only at e
    rcases at_or os o with ⟨q, _⟩ | ⟨j, od, rfl, eo, q⟩
    · rw [q] at e; cases e
    rw [q] at e
    dsimp only at e
    rcases at_or od.lines l with ⟨q2, _⟩ | ⟨i, x, rfl, el, q2⟩
    · rw [q2] at e; cases e
    rw [q2] at e
    dsimp only at e
    cases et : x.turn w n with
    | none => rw [et] at e; cases e
    | some x' =>
    rw [et] at e
    cases e
    have oo := ok.2 od (List.mem_of_getElem? eo)
    exact set1 ok ⟨oo.1.line el et, by simpa using oo.2.1, oo.2.2.line el et⟩
  | mo w o n =>
    unfold turnOf at e
    dsimp only at e
    rcases at_or os o with ⟨q, _⟩ | ⟨j, od, rfl, eo, q⟩
    · rw [q] at e; cases e
    rw [q] at e
    cases e
    have oo := ok.2 od (List.mem_of_getElem? eo)
    exact set1 ok ⟨oo.1.pay, oo.2⟩
  | mv o o2 n =>
    unfold turnOf at e
    dsimp only at e
    rcases at_or os o with ⟨q, _⟩ | ⟨i, a, rfl, eo, q⟩
    · rw [q] at e; cases e
    rw [q] at e
    dsimp only at e
    rcases at_or os o2 with ⟨q2, _⟩ | ⟨j, b, rfl, eo2, q2⟩
    · rw [q2] at e; cases e
    rw [q2] at e
    dsimp only at e
    split at e
    · cases e
    cases e
    have oa := ok.2 a (List.mem_of_getElem? eo)
    have ob := ok.2 b (List.mem_of_getElem? eo2)
    exact set1 (set1 ok ⟨oa.1.pay, oa.2⟩) ⟨ob.1.pay, ob.2⟩

theorem word_str {d : Dd} (g : d.good) : PyData.strOk (word d) = true := by
  cases d with
  | ord ls => show PyData.strOk "order" = true; decide +kernel
  | ln w o l n => rcases g with rfl | rfl | rfl | rfl <;> (simp only [word]; decide +kernel)
  | mo w o n => rcases g with rfl | rfl <;> (simp only [word]; decide +kernel)
  | mv o p n => show PyData.strOk "move" = true; decide +kernel
theorem mark_okk {w : Str} (hw : PyData.strOk w = true) : ∀ {cs : List (Int × Int)} {os : List Od}, OsOk os → OsOk (markAll os w cs)
  | [], _, h => h
  | c :: cs, os, h => by
    show OsOk (markAll (mark1 w os c) w cs)
    refine mark_okk hw ?_
    unfold mark1
    rcases at_or os c.1 with ⟨q, _⟩ | ⟨j, o, q0, eo, q⟩
    · rw [q]; exact h
    · rw [q]
      dsimp only
      refine ⟨by simpa using h.1, fun x hx => ?_⟩
      rcases List.mem_or_eq_of_mem_set hx with z | z
      · exact h.2 x z
      · have oo := h.2 o (List.mem_of_getElem? eo)
        rw [z]
        refine ⟨oo.1.mark, oo.2.1, oo.2.2.1, fun m hm => ?_⟩
        have hm' : m ∈ o.marks ++ [(w, c.2)] := hm
        rcases List.mem_append.mp hm' with y | y
        · exact oo.2.2.2 m y
        · have e : m = (w, c.2) := by simpa using y
          rw [e]; exact hw
theorem step_okk {os es : List Od} {cs : List (Int × Int)} {d : Dd} (h : OsOk os) (g : d.good) (gd : ∀ ls, d = .ord ls → Good ls) (l : os.length < 100) (e : step os d = .ok (es, cs)) : OsOk es := by
  by_cases no : ∃ ls, d = .ord ls
  · obtain ⟨ls, rfl⟩ := no
    have G := gd ls rfl
    have e' : stepOrd os ls = .ok (es, cs) := e
    unfold stepOrd at e'
    split at e'
    · cases e'
    cases e'
    refine ⟨by simp; omega, fun o ho => ?_⟩
    rcases List.mem_append.mp ho with z | z
    · exact h.2 o z
    · have eo : o = ⟨ls.map Lt.ln, 0, []⟩ := by simpa using z
      subst eo
      refine ⟨⟨fun x hx => ?_, by simpa using G.1.2⟩, by simpa using G.1.1, fun x hx => ?_, fun m hm => by cases hm⟩
      · obtain ⟨t, ht, rfl⟩ := List.mem_map.mp hx
        have q := (G.2 t ht).2
        exact ⟨q.2.1, q.2.2⟩
      · obtain ⟨t, ht, rfl⟩ := List.mem_map.mp hx
        exact (G.2 t ht).1
  · obtain ⟨os1, tq, _, _, ees, _⟩ := step_turn (fun ls e => no ⟨ls, e⟩) e
    rw [ees]
    exact mark_okk (word_str g) (turn_okk h g tq)
theorem step_len {os es : List Od} {cs : List (Int × Int)} {d : Dd} (e : step os d = .ok (es, cs)) : es.length ≤ os.length + 1 ∧ ((∀ ls, d ≠ .ord ls) → es.length = os.length) ∧ ((∃ ls, d = .ord ls) → es.length = os.length + 1) := by
  by_cases no : ∃ ls, d = .ord ls
  · obtain ⟨ls, rfl⟩ := no
    have e' : stepOrd os ls = .ok (es, cs) := e
    unfold stepOrd at e'
    split at e'
    · cases e'
    cases e'
    exact ⟨by simp, fun z => absurd rfl (z ls), fun _ => by simp⟩
  · obtain ⟨os1, tq, l1, _, ees, _⟩ := step_turn (fun ls e => no ⟨ls, e⟩) e
    have : es.length = os.length := by rw [ees, markAll_len, l1]
    exact ⟨by omega, fun _ => this, fun z => absurd z no⟩

/-! ### handed in, tried -/
theorem ifj {σ : L2.St} {H : Hp} {D : Ends} {c : TT} {t u : TS} (P : Bool → Hp → Prop) (h2 : ∀ b H', P b H' → if b = true then t D σ H' else u D σ H') (h1 : ∀ QB' : Bool → Hp → Prop, (∀ b H', P b H' → QB' b H') → c σ H QB') : tIfS c t u D σ H := h1 _ h2
def spLHanded (_ : PySem.W.Frag) : Sp := fun vs H Q _ => ∃ (F : Addr → Prop) (v : V) (d : Dd), vs = [v] ∧ DdAt F H v d ∧ d.good ∧ ∀ v' H', Same H H' → DdAt (fun a => (∀ ls, d = .ord ls → H a = none)) H' v' d → Q v' H'
theorem len_LHanded {K : PySem.W.Frag} {vs : List V} {H : Hp} {Q : VK} {E : XK} (h : spLHanded K vs H Q E) : vs.length = 1 := by
  obtain ⟨_, _, _, rfl, _⟩ := h; rfl
theorem ok_LHanded {P : Program} {w : World} {K : PySem.W.Frag} {mg : Str → Option Value} {base : Heap} (T : Tx w K mg) : FnOk P w K mg base CX0 1 (He.fAd K dLHanded.at_) (fdO K dLHanded.at_) P_LHanded (spLHanded K) := by
  refine T.f_LHanded.ok sc_LHanded (fun vs H Q E h => len_LHanded h) (fun cdv A outer s H vs Q E hr h => ⟨_, PSs.nox ((pss_cons (ps_if (pt_cmpR op_eq (pe_ix ix_tup (pv 0) pe_int (fun _ _ => rfl)) pe_str (nomark _)) (pss_one (ps_ret (pe_tup (pa_cons pe_str (pa_cons (pe_callTy call_list_of (by rfl) T.b_list (by decide +kernel) (pa_cons (pe_ix ix_tup (pv 0) pe_int (fun _ _ => rfl)) pa_nil)) pa_nil))))) pss_nil)
      (pss_one (ps_ret (pv 0))))), ?_⟩)
  obtain ⟨F, v, d, rfl, hd, g, k⟩ := h
  by_cases no : ∃ ls, d = .ord ls
  · obtain ⟨ls, rfl⟩ := no
    obtain ⟨t, l, xs, rfl, ht, hl, _, pt⟩ := hd
    walk_at "rd"
    refine r_ixT (SqT.of ht) (atI_get (j := 0) rfl rfl) ?_
    walk_at "rd"
    refine r_ity rfl ?_
    walk_at "rd"
    refine r_ixT (SqT.of ht) (atI_get (j := 1) rfl rfl) ?_
    walk_at "rd"
    refine ⟨l, xs, rfl, .inl (SqL.of hl), fun l2 hl2 => ?_⟩
    walk_at "rd"
    refine r_mk (by simp) fun t2 ht2 => ?_
    have s := (same_upd (o := .lst xs) hl2).trans (same_upd (o := .tup [.str "order", .ref l2]) ht2)
    exact k _ _ s ⟨t2, l2, xs, rfl, upd_same, same_upd ht2 _ _ upd_same, fun _ _ => hl2, (But.of (S := fun _ => False) s).lts pt⟩
  · obtain ⟨t, o1, r0, rfl, ht, nord, _⟩ := dd_form g hd fun ls e => no ⟨ls, e⟩
    walk_at "rd"
    refine r_ixT (SqT.of ht) (atI_get (j := 0) rfl rfl) ?_
    walk_at "rd"
    refine r_itz nord ?_
    walk_at "rd"
    refine k _ _ (Same.refl _) (hd.imp fun a _ _ ls e => absurd ⟨ls, e⟩ no)
theorem step_err9 {os : List Od} {d : Dd} {e : Er} (h : step os d = .error e) : e ≠ .nothingDone := by
  intro z
  subst z
  cases d with
  | ord ls =>
    have h' : stepOrd os ls = .error .nothingDone := h
    unfold stepOrd at h'
    split at h'
    · rename_i e q
      cases h'
      unfold ordErr at q
      split at q
      · cases q
      · split at q
        · rename_i e2 q2
          cases q
          unfold firstErr at q2
          obtain ⟨t, _, ht⟩ := List.exists_of_findSome?_eq_some q2
          unfold ltCheck at ht
          repeat' split at ht
          all_goals cases ht
        · split at q <;> cases q
    · cases h'
  | ln w o l n =>
    have h' : stepLn os w o l n = .error .nothingDone := h
    unfold stepLn at h'
    repeat' split at h'
    all_goals cases h'
  | mo w o n =>
    have h' : stepMo os w o n = .error .nothingDone := h
    unfold stepMo at h'
    repeat' split at h'
    all_goals cases h'
  | mv o p n =>
    have h' : stepMv os o p n = .error .nothingDone := h
    unfold stepMv at h'
    repeat' split at h'
    all_goals cases h'
abbrev lawErs : List Er := [.noDeed, .noLines, .noItem, .noNumber, .fullBook, .noOrder, .sameOrder, .noLine, .tooMuch]
abbrev spLTried (K : PySem.W.Frag) := spTried K lawErs
abbrev len_LTried {K : PySem.W.Frag} {vs : List V} {H : Hp} {Q : VK} {E : XK} (h : spLTried K vs H Q E) := len_tried h
theorem ok_LTried {P : Program} {w : World} {K : PySem.W.Frag} {mg : Str → Option Value} {base : Heap} (T : Tx w K mg) : FnOk P w K mg base CX0 8 (He.fAd K dLTried.at_) (fdO K dLTried.at_) P_LTried (spLTried K) := by
  refine T.f_LTried.ok sc_LTried (fun vs H Q E h => len_LTried h) (fun cdv A outer s H vs Q E hr h => ⟨_, PSs.nox ((pss_one (ps_try_many rfl rfl takes0 (fun W pn xe tk po => (pss_one (ps_ret (pe_mX (pv 0) T.cl_Book T.m_Book_do (ok_BookDo T) (hr.mono (by decide)) T.b_BookDo (fun σ => passAt tk σ) (pa_cons (pv 1) pa_nil))))) (.cons ⟨rfl, by decide, .inl T.g_NoDeed⟩ (fun a oe cls d pn hz hf => (pss_one (ps_ret pe_str))) (.cons ⟨rfl, by decide, .inl T.g_NoLines⟩ (fun a oe cls d pn hz hf => (pss_one (ps_ret pe_str))) (.cons ⟨rfl, by decide, .inl T.g_NoItem⟩ (fun a oe cls d pn hz hf => (pss_one (ps_ret pe_str))) (.cons ⟨rfl, by decide, .inl T.g_NoNumber⟩ (fun a oe cls d pn hz hf => (pss_one (ps_ret pe_str))) (.cons ⟨rfl, by decide, .inl T.g_FullBook⟩ (fun a oe cls d pn hz hf => (pss_one (ps_ret pe_str))) (.cons ⟨rfl, by decide, .inl T.g_NoOrder⟩ (fun a oe cls d pn hz hf => (pss_one (ps_ret pe_str))) (.cons ⟨rfl, by decide, .inl T.g_SameOrder⟩ (fun a oe cls d pn hz hf => (pss_one (ps_ret pe_str))) (.cons ⟨rfl, by decide, .inl T.g_NoLine⟩ (fun a oe cls d pn hz hf => (pss_one (ps_ret pe_str))) (.cons ⟨rfl, by decide, .inl T.g_TooMuch⟩ (fun a oe cls d pn hz hf => (pss_one (ps_ret pe_str))) .nil)))))))))))), ?_⟩)
  obtain ⟨b, B, L, v, rfl, h, ok, hz, d, hd, g, few, kE, k⟩ := h
  obtain ⟨dx, hb⟩ := h.ob
  walk_at "rd"
  refine r_m hb (no_Book_do _ _) ?_
  walk_at "rd"
  refine ⟨b, B, L, v, rfl, h, ok, hz, .inl ⟨d, hd, g, few, fun e q H' s => ?_, k⟩⟩
  obtain ⟨m, f⟩ := kE e q
  have f2 := f H' s
  rcases List.mem_cons.mp m with rfl | m
  · refine ⟨true, T.e_NoDeed_NoDeed, fun _ a _ => ?_, fun z => (by cases z)⟩
    walk_at "rd"
    exact f2
  rcases List.mem_cons.mp m with rfl | m
  · refine ⟨false, T.e_NoLines_NoDeed, (fun z => by cases z), fun _ => ⟨true, T.e_NoLines_NoLines, fun _ a _ => ?_, fun z => (by cases z)⟩⟩
    walk_at "rd"
    exact f2
  rcases List.mem_cons.mp m with rfl | m
  · refine ⟨false, T.e_NoItem_NoDeed, (fun z => by cases z), fun _ => ⟨false, T.e_NoItem_NoLines, (fun z => by cases z), fun _ => ⟨true, T.e_NoItem_NoItem, fun _ a _ => ?_, fun z => (by cases z)⟩⟩⟩
    walk_at "rd"
    exact f2
  rcases List.mem_cons.mp m with rfl | m
  · refine ⟨false, T.e_NoNumber_NoDeed, (fun z => by cases z), fun _ => ⟨false, T.e_NoNumber_NoLines, (fun z => by cases z), fun _ => ⟨false, T.e_NoNumber_NoItem, (fun z => by cases z), fun _ => ⟨true, T.e_NoNumber_NoNumber, fun _ a _ => ?_, fun z => (by cases z)⟩⟩⟩⟩
    walk_at "rd"
    exact f2
  rcases List.mem_cons.mp m with rfl | m
  · refine ⟨false, T.e_FullBook_NoDeed, (fun z => by cases z), fun _ => ⟨false, T.e_FullBook_NoLines, (fun z => by cases z), fun _ => ⟨false, T.e_FullBook_NoItem, (fun z => by cases z), fun _ => ⟨false, T.e_FullBook_NoNumber, (fun z => by cases z), fun _ => ⟨true, T.e_FullBook_FullBook, fun _ a _ => ?_, fun z => (by cases z)⟩⟩⟩⟩⟩
    walk_at "rd"
    exact f2
  rcases List.mem_cons.mp m with rfl | m
  · refine ⟨false, T.e_NoOrder_NoDeed, (fun z => by cases z), fun _ => ⟨false, T.e_NoOrder_NoLines, (fun z => by cases z), fun _ => ⟨false, T.e_NoOrder_NoItem, (fun z => by cases z), fun _ => ⟨false, T.e_NoOrder_NoNumber, (fun z => by cases z), fun _ => ⟨false, T.e_NoOrder_FullBook, (fun z => by cases z), fun _ => ⟨true, T.e_NoOrder_NoOrder, fun _ a _ => ?_, fun z => (by cases z)⟩⟩⟩⟩⟩⟩
    walk_at "rd"
    exact f2
  rcases List.mem_cons.mp m with rfl | m
  · refine ⟨false, T.e_SameOrder_NoDeed, (fun z => by cases z), fun _ => ⟨false, T.e_SameOrder_NoLines, (fun z => by cases z), fun _ => ⟨false, T.e_SameOrder_NoItem, (fun z => by cases z), fun _ => ⟨false, T.e_SameOrder_NoNumber, (fun z => by cases z), fun _ => ⟨false, T.e_SameOrder_FullBook, (fun z => by cases z), fun _ => ⟨false, T.e_SameOrder_NoOrder, (fun z => by cases z), fun _ => ⟨true, T.e_SameOrder_SameOrder, fun _ a _ => ?_, fun z => (by cases z)⟩⟩⟩⟩⟩⟩⟩
    walk_at "rd"
    exact f2
  rcases List.mem_cons.mp m with rfl | m
  · refine ⟨false, T.e_NoLine_NoDeed, (fun z => by cases z), fun _ => ⟨false, T.e_NoLine_NoLines, (fun z => by cases z), fun _ => ⟨false, T.e_NoLine_NoItem, (fun z => by cases z), fun _ => ⟨false, T.e_NoLine_NoNumber, (fun z => by cases z), fun _ => ⟨false, T.e_NoLine_FullBook, (fun z => by cases z), fun _ => ⟨false, T.e_NoLine_NoOrder, (fun z => by cases z), fun _ => ⟨false, T.e_NoLine_SameOrder, (fun z => by cases z), fun _ => ⟨true, T.e_NoLine_NoLine, fun _ a _ => ?_, fun z => (by cases z)⟩⟩⟩⟩⟩⟩⟩⟩
    walk_at "rd"
    exact f2
  rcases List.mem_cons.mp m with rfl | m
  · refine ⟨false, T.e_TooMuch_NoDeed, (fun z => by cases z), fun _ => ⟨false, T.e_TooMuch_NoLines, (fun z => by cases z), fun _ => ⟨false, T.e_TooMuch_NoItem, (fun z => by cases z), fun _ => ⟨false, T.e_TooMuch_NoNumber, (fun z => by cases z), fun _ => ⟨false, T.e_TooMuch_FullBook, (fun z => by cases z), fun _ => ⟨false, T.e_TooMuch_NoOrder, (fun z => by cases z), fun _ => ⟨false, T.e_TooMuch_SameOrder, (fun z => by cases z), fun _ => ⟨false, T.e_TooMuch_NoLine, (fun z => by cases z), fun _ => ⟨true, T.e_TooMuch_TooMuch, fun _ a _ => ?_, fun z => (by cases z)⟩⟩⟩⟩⟩⟩⟩⟩⟩
    walk_at "rd"
    exact f2
  · cases m
theorem ers_all {os : List Od} {d : Dd} {e : Er} (h : step os d = .error e) : e ∈ lawErs := by
  have n := step_err9 h
  cases e <;> first | exact absurd rfl n | decide
/-! ### rows compared -/
def RowsAt (H : Hp) (r : Addr) (rs : List (List V)) : Prop := ∃ xs, H r = some (.lst xs) ∧ Paired (TupAt H) xs rs
theorem tup_keep {S : Addr → Prop} {H H' : Hp} (b : But S H H') {xs : List V} {rs : List (List V)} (h : Paired (TupAt H) xs rs) : Paired (TupAt H') xs rs := Paired.mapP h fun _ _ ⟨t, e, q⟩ => ⟨t, e, b.tup _ _ q⟩
theorem RowsAt.keep {S : Addr → Prop} {H H' : Hp} {r : Addr} {rs : List (List V)} (h : RowsAt H r rs) (b : But S H H') (n : ¬ S r) : RowsAt H' r rs := by
  obtain ⟨xs, e, p⟩ := h
  exact ⟨xs, b.keep _ _ e n, tup_keep b p⟩
theorem RowsAt.same {H H' : Hp} {r : Addr} {rs : List (List V)} (h : RowsAt H r rs) (s : Same H H') : RowsAt H' r rs := h.keep (But.of (S := fun _ => False) s) id
theorem ChAt.rows {H : Hp} {r : Addr} {cs : List (Int × Int)} (h : ChAt H r cs) : RowsAt H r (cs.map prRow) := by
  obtain ⟨xs, e, p⟩ := h
  exact ⟨xs, e, pr_rows p⟩

/-! ### the account as data -/
theorem DpAll.of_get {K : PySem.W.Frag} {H : Hp} : ∀ {xs : List V} {ds : List PyData}, xs.length = ds.length → (∀ (i : Nat) x d, xs[i]? = some x → ds[i]? = some d → Dp K H x d) → DpAll K H xs ds
  | [], [], _, _ => .nil
  | [], _ :: _, h, _ => by cases h
  | _ :: _, [], h, _ => by cases h
  | x :: xs, d :: ds, h, g => .cons (g 0 x d rfl rfl) (DpAll.of_get (by simpa using h) fun i y e h1 h2 => g (i + 1) y e (by simpa using h1) (by simpa using h2))
def mkRow (m : Str × Int) : List V := [.str m.1, .int m.2]
def dLn (l : Ln) : PyData := .list ((lnL l).map dOf)
def dOd (o : Od) : PyData := .list [.list (o.lines.map dLn), .int o.money, dRows (o.marks.map mkRow)]
def dAcc (os : List Od) : PyData := .list (os.map dOd)
theorem mk_rows {H : Hp} : ∀ {xs : List V} {ms : List (Str × Int)}, Paired (MkAt H) xs ms → Paired (TupAt H) xs (ms.map mkRow)
  | _, _, .nil => .nil
  | _, _, .cons ⟨t, e, h⟩ r => .cons ⟨t, e, h⟩ (mk_rows r)
theorem mk_rws {ms : List (Str × Int)} (h : ∀ m, m ∈ ms → PyData.strOk m.1 = true) : Rws (ms.map mkRow) := fun r hr => by
  obtain ⟨m, hm, rfl⟩ := List.mem_map.mp hr
  exact .cons (.inr ⟨_, rfl, h m hm⟩) (.cons .int .nil)
theorem lnL_sc {l : Ln} (h : isItem l.item = true) : Scs (lnL l) := .cons (.inr ⟨_, rfl, item_str h⟩) (.cons .int (.cons .int (.cons .int (.cons .int (.cons .int (.cons .int (.cons .int .nil)))))))
theorem lay_all : ∀ {ds : List PyData} {n : Nat}, (∀ d, d ∈ ds → PyData.canLay0 d = true ∧ PyData.depth d ≤ n) → PyData.canLayAll0 ds = true ∧ PyData.depthAll ds ≤ n
  | [], n, _ => ⟨by simp only [PyData.canLayAll0], by simp only [PyData.depthAll]; omega⟩
  | d :: ds, n, h => by
    obtain ⟨a, b⟩ := h d List.mem_cons_self
    obtain ⟨c, e⟩ := lay_all (ds := ds) (n := n) fun u hu => h u (List.mem_cons_of_mem _ hu)
    refine ⟨by simp only [PyData.canLayAll0, a, c, Bool.and_self], by simp only [PyData.depthAll]; omega⟩
theorem dOd_dp {K : PySem.W.Frag} {H : Hp} {p : AO} {o : Od} (O : AoAt H p o) (s : o.strs) : Dp K H (.ref p.o) (dOd o) := by
  obtain ⟨ts, et, pt⟩ := O.rws
  refine .lst (SqL.of O.ob) (.cons (.lst (SqL.of O.ll) (DpAll.of_get (by simp [O.len]) fun i x d ex ed => ?_)) (.cons (.int _) (.cons (dRows_dp (SqL.of et) (mk_rows pt) (mk_rws s.2)) .nil)))
  obtain ⟨a, ea, rfl⟩ := ref_at ex
  rw [List.getElem?_map] at ed
  cases el : o.lines[i]? with
  | none => rw [el] at ed; cases ed
  | some l =>
    rw [el] at ed
    cases ed
    exact .lst (SqL.of (O.ln i a l ea el)) (lnL_sc (s.1 l (List.mem_of_getElem? el))).dp
theorem dOd_lay {o : Od} (s : o.strs) : PyData.canLay0 (dOd o) = true ∧ PyData.depth (dOd o) ≤ 4 := by
  obtain ⟨a, b⟩ := dRows_lay (mk_rws s.2)
  have h1 : PyData.canLay0 (.list (o.lines.map dLn)) = true ∧ PyData.depth (.list (o.lines.map dLn)) ≤ 2 := by
    obtain ⟨c, e⟩ := lay_all (ds := o.lines.map dLn) (n := 1) fun d hd => by
      obtain ⟨l, hl, rfl⟩ := List.mem_map.mp hd
      obtain ⟨x, y⟩ := (lnL_sc (s.1 l hl)).lay
      refine ⟨by simp only [dLn, PyData.canLay0]; exact x, by simp only [dLn, PyData.depth]; omega⟩
    exact ⟨by simp only [PyData.canLay0]; exact c, by simp only [PyData.depth]; omega⟩
  obtain ⟨c, e⟩ := lay_all (ds := [.list (o.lines.map dLn), .int o.money, dRows (o.marks.map mkRow)]) (n := 3) fun d hd => by
    simp only [List.mem_cons, List.not_mem_nil, or_false] at hd
    rcases hd with rfl | rfl | rfl
    · exact ⟨h1.1, by omega⟩
    · exact ⟨by simp only [PyData.canLay0], by simp only [PyData.depth]; omega⟩
    · exact ⟨a, by omega⟩
  exact ⟨by simp only [dOd, PyData.canLay0]; exact c, by simp only [dOd, PyData.depth]; omega⟩
theorem dAcc_shaped {os : List Od} (ok : OsOk os) : SeqAt.shaped (dAcc os) = true := by
  obtain ⟨a, b⟩ := lay_all (ds := os.map dOd) (n := 4) fun d hd => by
    obtain ⟨o, ho, rfl⟩ := List.mem_map.mp hd
    exact dOd_lay (ok.2 o ho).2.2
  have c : PyData.canLay0 (dAcc os) = true := by simp only [dAcc, PyData.canLay0]; exact a
  have e : PyData.depth (dAcc os) ≤ 5 := by simp only [dAcc, PyData.depth]; omega
  unfold SeqAt.shaped
  rw [c, decide_eq_true (by omega)]
  rfl
theorem AccAt.dp {K : PySem.W.Frag} {H : Hp} {a : Addr} {os : List Od} {A : AL} (h : AccAt H a os A) (ok : OsOk os) : Dp K H (.ref a) (dAcc os) := by
  refine .lst (SqL.of h.top) (DpAll.of_get (by simp [h.len]) fun i x d ex ed => ?_)
  rw [List.getElem?_map] at ex ed
  cases eo : os[i]? with
  | none => rw [eo] at ed; cases ed
  | some o =>
    rw [eo] at ed
    cases ed
    obtain ⟨p, ep, O, ev⟩ := acc_at h eo
    rw [ep] at ex
    cases ex
    exact dOd_dp O (ok.2 o (List.mem_of_getElem? eo)).2.2
theorem r_eqAcc {K : PySem.W.Frag} {H : Hp} {Q : VK} {a e : Addr} {os : List Od} {A : AL} (h : AccAt H a os A) (ok : OsOk os) (he : H e = some (.lst [])) (k : Q (.bl (decide (os = []))) H) : rEqD K (.ref a) (.ref e) H Q := by
  refine ⟨dAcc os, .list [], h.dp ok, .lst (SqL.of he) .nil, dAcc_shaped ok, by decide +kernel, ?_⟩
  have q : PyData.eqv (dAcc os) (.list []) = decide (os = []) := by
    cases os with
    | nil => simp [dAcc, PyData.eqv, PyData.eqvAll]
    | cons o r => simp [dAcc, PyData.eqv, PyData.eqvAll]
  rw [q]
  exact k
/-! ### deeds made -/
def wLn (w : Str) : Prop := w = "deliver" ∨ w = "back" ∨ w = "swap" ∨ w = "credit"
def wMo (w : Str) : Prop := w = "pay" ∨ w = "refund"
def words12 : List V := [.str "deliver", .str "deliver", .str "deliver", .str "deliver", .str "back", .str "swap", .str "credit", .str "pay", .str "pay", .str "refund", .str "move", .str "order"]
theorem word12 (z : Int) : ∃ w : Str, (wLn w ∨ wMo w ∨ w = "move" ∨ w = "order") ∧ atI words12 (z % 12) = some (.str w) := by
  have h : z % 12 = ((0 : Nat) : Int) ∨ z % 12 = ((1 : Nat) : Int) ∨ z % 12 = ((2 : Nat) : Int) ∨ z % 12 = ((3 : Nat) : Int) ∨ z % 12 = ((4 : Nat) : Int) ∨ z % 12 = ((5 : Nat) : Int) ∨ z % 12 = ((6 : Nat) : Int) ∨ z % 12 = ((7 : Nat) : Int) ∨ z % 12 = ((8 : Nat) : Int) ∨ z % 12 = ((9 : Nat) : Int) ∨ z % 12 = ((10 : Nat) : Int) ∨ z % 12 = ((11 : Nat) : Int) := by omega
  rcases h with h | h | h | h | h | h | h | h | h | h | h | h
  · exact ⟨_, .inl (.inl rfl), atI_get h rfl⟩
  · exact ⟨_, .inl (.inl rfl), atI_get h rfl⟩
  · exact ⟨_, .inl (.inl rfl), atI_get h rfl⟩
  · exact ⟨_, .inl (.inl rfl), atI_get h rfl⟩
  · exact ⟨_, .inl (.inr (.inl rfl)), atI_get h rfl⟩
  · exact ⟨_, .inl (.inr (.inr (.inl rfl))), atI_get h rfl⟩
  · exact ⟨_, .inl (.inr (.inr (.inr rfl))), atI_get h rfl⟩
  · exact ⟨_, .inr (.inl (.inl rfl)), atI_get h rfl⟩
  · exact ⟨_, .inr (.inl (.inl rfl)), atI_get h rfl⟩
  · exact ⟨_, .inr (.inl (.inr rfl)), atI_get h rfl⟩
  · exact ⟨_, .inr (.inr (.inl rfl)), atI_get h rfl⟩
  · exact ⟨_, .inr (.inr (.inr rfl)), atI_get h rfl⟩

/-! ### a deed as data, what it touches -/
def ltRow (t : Lt) : List V := [.str t.item, .int t.pieces, .int t.cents, .int t.pack]
def dDeed : Dd → PyData
  | .ord ls => .tuple [.str "order", dRows (ls.map ltRow)]
  | .ln w o l n => dTup [.str w, .int o, .int l, .int n]
  | .mo w o n => dTup [.str w, .int o, .int n]
  | .mv o p n => dTup [.str "move", .int o, .int p, .int n]
theorem lt_rows {H : Hp} : ∀ {xs : List V} {ls : List Lt}, LtsAt H xs ls → Paired (TupAt H) xs (ls.map ltRow)
  | _, _, .nil => .nil
  | _, _, .cons ⟨t, e, h⟩ r => .cons ⟨t, e, h⟩ (lt_rows r)
theorem lt_rws {ls : List Lt} (h : ∀ t, t ∈ ls → PyData.strOk t.item = true) : Rws (ls.map ltRow) := fun r hr => by
  obtain ⟨t, ht, rfl⟩ := List.mem_map.mp hr
  exact .cons (.inr ⟨_, rfl, h t ht⟩) (.cons .int (.cons .int (.cons .int .nil)))
def Dd.plain (d : Dd) : Prop := ∀ ls, d = .ord ls → ∀ t, t ∈ ls → PyData.strOk t.item = true
theorem Dd.wd {d : Dd} (g : d.good) : Sc (.str (word d)) := .inr ⟨_, rfl, word_str g⟩
theorem deed_dp {K : PySem.W.Frag} {F : Addr → Prop} {H : Hp} {v : V} {d : Dd} (g : d.good) (pl : d.plain) (h : DdAt F H v d) : Dp K H v (dDeed d) ∧ SeqAt.shaped (dDeed d) = true := by
  cases d with
  | ord ls =>
    obtain ⟨t, l, xs, rfl, ht, hl, _, p⟩ := h
    have rw_ := lt_rws (pl ls rfl)
    obtain ⟨a, b⟩ := dRows_lay rw_
    refine ⟨.tup (SqT.of ht) (.cons (.str _) (.cons (dRows_dp (SqL.of hl) (lt_rows p) rw_) .nil)), ?_⟩
    have c : PyData.canLay0 (dDeed (.ord ls)) = true := by
      simp only [dDeed, PyData.canLay0, PyData.canLayAll0, a]
      decide +kernel
    have e : PyData.depth (dDeed (.ord ls)) ≤ 4 := by
      simp only [dDeed, PyData.depth, PyData.depthAll]
      omega
    unfold SeqAt.shaped
    rw [c, decide_eq_true (by omega)]
    rfl
  | ln w o l n =>
    obtain ⟨t, rfl, ht⟩ := h
    have s : Scs [.str w, .int o, .int l, .int n] := .cons (Dd.wd (d := .ln w o l n) g) (.cons .int (.cons .int (.cons .int .nil)))
    exact ⟨dTup_dp (SqT.of ht) s, dTup_shaped s⟩
  | mo w o n =>
    obtain ⟨t, rfl, ht⟩ := h
    have s : Scs [.str w, .int o, .int n] := .cons (Dd.wd (d := .mo w o n) g) (.cons .int (.cons .int .nil))
    exact ⟨dTup_dp (SqT.of ht) s, dTup_shaped s⟩
  | mv o p n =>
    obtain ⟨t, rfl, ht⟩ := h
    have s : Scs [.str "move", .int o, .int p, .int n] := .cons (Dd.wd (d := .mv o p n) g) (.cons .int (.cons .int (.cons .int .nil)))
    exact ⟨dTup_dp (SqT.of ht) s, dTup_shaped s⟩
theorem r_neDeed {K : PySem.W.Frag} {F F' : Addr → Prop} {H : Hp} {Q : VK} {v u : V} {d : Dd} (g : d.good) (pl : d.plain) (h : DdAt F H v d) (h' : DdAt F' H u d) (k : Q (.bl false) H) : rNeD K v u H Q := by
  obtain ⟨a, s⟩ := deed_dp (K := K) g pl h
  obtain ⟨b, _⟩ := deed_dp (K := K) g pl h'
  refine ⟨_, _, a, b, s, s, ?_⟩
  rw [SeqAt.eqv_refl _ (SeqAt.canLay_of_shaped s)]
  exact k
theorem Good.plain {d : Dd} (h : ∀ ls, d = .ord ls → Good ls) : d.plain := fun ls e t ht => item_str ((h ls e).2 t ht).1
theorem Good.few' {d : Dd} (h : ∀ ls, d = .ord ls → Good ls) : d.few := by
  cases d with
  | ord ls => exact (h ls rfl).few
  | _ => trivial
theorem Good.step {os : List Od} {ls : List Lt} (g : Good ls) (h : os.length < 40) : step os (.ord ls) = .ok (os ++ [⟨ls.map Lt.ln, 0, []⟩], []) := by
  simp only [Of.step]
  unfold stepOrd
  rw [g.err h]
theorem cs_len {os es : List Od} {cs : List (Int × Int)} {d : Dd} (e : Of.step os d = .ok (es, cs)) : cs.length ≤ 2 := by
  by_cases no : ∃ ls, d = .ord ls
  · obtain ⟨ls, rfl⟩ := no
    have e' : stepOrd os ls = .ok (es, cs) := e
    unfold stepOrd at e'
    split at e'
    · cases e'
    cases e'
    simp
  · obtain ⟨os1, tq, _, ecs, _, _⟩ := step_turn (fun ls e => no ⟨ls, e⟩) e
    rw [ecs]
    cases d <;> simp [places]
/-- ints of a list that are chosen -/
theorem lcp_filt {K : PySem.W.Frag} {tt : TT} {te : TE} {j : Nat} {σ : L2.St} {H1 : Hp} {Q : VK} {a : Addr} {ns : List Int} (p : Int → Prop) (hs : SqL K H1 a (ns.map V.int)) (hz : ns.length ≤ 100000)
    (ht : ∀ (n : Int) (H' : Hp) (QB : Bool → Hp → Prop), Same H1 H' → (∀ b, (b = true → p n) → QB b H') → tt ((wipe σ [j]).set j (some (.int n))) H' QB)
    (he : ∀ (n : Int) (H' : Hp) (W : VK), Same H1 H' → W (.int n) H' → te ((wipe σ [j]).set j (some (.int n))) H' W)
    (k : ∀ (D : Addr) (H' : Hp) (js : List Int), H1 D = none → Same H1 H' → H' D = some (.lst (js.map V.int)) → (∀ n, n ∈ js → p n) → js.length ≤ ns.length → Q (.ref D) H') :
    ∃ a', V.ref a = V.ref a' ∧ (∃ xs, SqL K H1 a' xs) ∧ Lcs (Itl K a') (gName j) tt te [j] σ H1 Q := by
  refine ⟨a, rfl, ⟨_, hs⟩, fun D hD => ?_⟩
  refine lc_list (K := K) (a := a) (xs := ns.map V.int) (fun i H' => Same H1 H' ∧ ∃ js : List Int, H' D = some (.lst (js.map V.int)) ∧ (∀ n, n ∈ js → p n) ∧ js.length ≤ i) ⟨same_upd hD, [], upd_same, (fun n hn => by cases hn), Nat.le_refl _⟩ (fun i H' _ q => q.1.seq hs) ?_ ?_
  · rintro i x H' hi ⟨s, js, e, pj, lj⟩
    have hil : i < ns.length := by
      have := (List.getElem?_eq_some_iff.mp hi).1
      simpa using this
    rw [List.getElem?_map] at hi
    cases en : ns[i]? with
    | none => rw [en] at hi; cases hi
    | some n =>
      rw [en] at hi
      cases hi
      refine ⟨wipe1, ht n _ _ s fun b pb => ?_⟩
      cases b with
      | true =>
        rw [if_pos rfl]
        refine he n _ _ s ⟨_, e, ?_, ?_, js ++ [n], ?_, ?_, ?_⟩
        · rw [List.length_map]; refine sz5l ?_; omega
        · exact fun b o q => by
            rw [upd_ne (ne_of_none q hD)]
            exact s _ _ q
        · rw [upd_same, List.map_append]; rfl
        · intro m hm
          rcases List.mem_append.mp hm with z | z
          · exact pj m z
          · rw [List.mem_singleton.mp z]; exact pb rfl
        · simp; exact lj
      | false =>
        rw [if_neg (by decide)]
        exact ⟨s, js, e, pj, Nat.le_succ_of_le lj⟩
  · rintro H' ⟨s, js, e, pj, lj⟩
    rw [List.length_map] at lj
    exact k D H' js hD s e pj lj

/-! ### pairs that are held, each in a list of its own -/
structure Kq (H : Hp) (kr : Addr) (ps : List (Addr × Addr × Addr)) : Prop where
  at_ : H kr = some (.lst (ps.map fun u => V.ref u.1))
  pr : ∀ u, u ∈ ps → H u.1 = some (.lst [.ref u.2.1, .ref u.2.2]) ∧ ∃ rs, RowsAt H u.2.1 rs ∧ RowsAt H u.2.2 rs ∧ Rws rs
  ne : ∀ u, u ∈ ps → u.1 ≠ kr ∧ u.2.1 ≠ kr ∧ u.2.2 ≠ kr
def qfoot (kr : Addr) (ps : List (Addr × Addr × Addr)) (x : Addr) : Prop := x = kr ∨ ∃ u, u ∈ ps ∧ (x = u.1 ∨ x = u.2.1 ∨ x = u.2.2)
theorem Kq.keep {H H' : Hp} {kr : Addr} {ps : List (Addr × Addr × Addr)} {T : Addr → Prop} (h : Kq H kr ps) (b : But T H H') (n : ∀ x, qfoot kr ps x → ¬ T x) : Kq H' kr ps where
  at_ := b.keep _ _ h.at_ (n _ (.inl rfl))
  pr := fun u hu => by
    obtain ⟨e, rs, a, c, d⟩ := h.pr u hu
    exact ⟨b.keep _ _ e (n _ (.inr ⟨u, hu, .inl rfl⟩)), rs, a.keep b (n _ (.inr ⟨u, hu, .inr (.inl rfl)⟩)), c.keep b (n _ (.inr ⟨u, hu, .inr (.inr rfl)⟩)), d⟩
  ne := h.ne
theorem Kq.same {H H' : Hp} {kr : Addr} {ps : List (Addr × Addr × Addr)} (h : Kq H kr ps) (s : Same H H') : Kq H' kr ps := h.keep (But.of (S := fun _ => False) s) fun _ _ => id
theorem Kq.dom {H : Hp} {kr : Addr} {ps : List (Addr × Addr × Addr)} (h : Kq H kr ps) {x : Addr} (f : qfoot kr ps x) : ∃ o, H x = some o := by
  rcases f with rfl | ⟨u, hu, z⟩
  · exact ⟨_, h.at_⟩
  · obtain ⟨e, rs, ⟨xs, a, _⟩, ⟨ys, c, _⟩, _⟩ := h.pr u hu
    rcases z with rfl | rfl | rfl
    · exact ⟨_, e⟩
    · exact ⟨_, a⟩
    · exact ⟨_, c⟩
theorem Kq.fresh {H : Hp} {kr : Addr} {ps : List (Addr × Addr × Addr)} (h : Kq H kr ps) {x : Addr} (e : H x = none) : ¬ qfoot kr ps x := fun f => by
  obtain ⟨o, q⟩ := h.dom f
  rw [e] at q; cases q
theorem kq_push {H : Hp} {kr u l2 q : Addr} {ps : List (Addr × Addr × Addr)} {xs : List V} {rs : List (List V)} (k : Kq H kr ps) (hx : H u = some (.lst xs)) (p : Paired (TupAt H) xs rs) (ok : Rws rs) (ne : u ≠ kr) (h2 : H l2 = none) (hq : upd H l2 (.lst xs) q = none) :
    upd (upd H l2 (.lst xs)) q (.lst [.ref u, .ref l2]) kr = some (.lst (ps.map fun u => V.ref u.1)) ∧
    Kq (upd (upd (upd H l2 (.lst xs)) q (.lst [.ref u, .ref l2])) kr (.lst ((ps.map fun u => V.ref u.1) ++ [.ref q]))) kr (ps ++ [(q, u, l2)]) ∧
    But (· = kr) H (upd (upd (upd H l2 (.lst xs)) q (.lst [.ref u, .ref l2])) kr (.lst ((ps.map fun u => V.ref u.1) ++ [.ref q]))) ∧
    Stay H (upd (upd (upd H l2 (.lst xs)) q (.lst [.ref u, .ref l2])) kr (.lst ((ps.map fun u => V.ref u.1) ++ [.ref q]))) ∧ H q = none := by
  obtain ⟨ql, nq⟩ := upd_none hq
  have s1 := same_upd (o := .lst xs) h2
  have s2 := same_upd (o := .lst [.ref u, .ref l2]) hq
  have ek := s2 _ _ (s1 _ _ k.at_)
  have b : But (· = kr) H (upd (upd (upd H l2 (.lst xs)) q (.lst [.ref u, .ref l2])) kr (.lst ((ps.map fun u => V.ref u.1) ++ [.ref q]))) := ((But.of s1).trans (But.of s2)).trans (But.lst ek rfl)
  have lk : l2 ≠ kr := fun z => by rw [z, k.at_] at h2; cases h2
  have qk : q ≠ kr := fun z => by rw [z, k.at_] at nq; cases nq
  have e2 : upd (upd (upd H l2 (.lst xs)) q (.lst [.ref u, .ref l2])) kr (.lst ((ps.map fun u => V.ref u.1) ++ [.ref q])) l2 = some (.lst xs) := by
    rw [upd_ne lk, upd_ne (Ne.symm ql)]; exact upd_same
  have e3 : upd (upd (upd H l2 (.lst xs)) q (.lst [.ref u, .ref l2])) kr (.lst ((ps.map fun u => V.ref u.1) ++ [.ref q])) q = some (.lst [.ref u, .ref l2]) := by
    rw [upd_ne qk]; exact upd_same
  refine ⟨ek, ⟨by rw [upd_same, List.map_append]; rfl, fun w hw => ?_, fun w hw => ?_⟩, b, fun x e => (upd_none (upd_none (stay_lst ek x e)).2).2, nq⟩
  · rcases List.mem_append.mp hw with z | z
    · obtain ⟨e, rs', a, c, d⟩ := k.pr w z
      obtain ⟨n1, n2, n3⟩ := k.ne w z
      exact ⟨b.keep _ _ e n1, rs', a.keep b n2, c.keep b n3, d⟩
    · rw [List.mem_singleton.mp z]
      exact ⟨e3, rs, ⟨xs, b.keep _ _ hx ne, tup_keep b p⟩, ⟨xs, e2, tup_keep b p⟩, ok⟩
  · rcases List.mem_append.mp hw with z | z
    · exact k.ne w z
    · rw [List.mem_singleton.mp z]
      exact ⟨qk, ne, lk⟩
theorem qfoot_snoc {kr : Addr} {ps : List (Addr × Addr × Addr)} {u : Addr × Addr × Addr} {x : Addr} (h : qfoot kr (ps ++ [u]) x) : qfoot kr ps x ∨ x = u.1 ∨ x = u.2.1 ∨ x = u.2.2 := by
  rcases h with h | ⟨w, hw, z⟩
  · exact .inl (.inl h)
  · rcases List.mem_append.mp hw with y | y
    · exact .inl (.inr ⟨w, y, z⟩)
    · rw [List.mem_singleton.mp y] at z
      exact .inr z
def spLKeptWell (_ : PySem.W.Frag) : Sp := fun vs H Q _ => ∃ (kr : Addr) (ps : List (Addr × Addr × Addr)), vs = [.ref kr] ∧ Kq H kr ps ∧ Q (.bl true) H
theorem len_LKeptWell {K : PySem.W.Frag} {vs : List V} {H : Hp} {Q : VK} {E : XK} (h : spLKeptWell K vs H Q E) : vs.length = 1 := by
  obtain ⟨_, _, rfl, _⟩ := h; rfl
theorem ok_LKeptWell {P : Program} {w : World} {K : PySem.W.Frag} {mg : Str → Option Value} {base : Heap} (T : Tx w K mg) : FnOk P w K mg base CX0 1 (He.fAd K dLKeptWell.at_) (fdO K dLKeptWell.at_) P_LKeptWell (spLKeptWell K) := by
  refine T.f_LKeptWell.ok sc_LKeptWell (fun vs H Q E h => len_LKeptWell h) (fun cdv A outer s H vs Q E hr h => ⟨_, PSs.nox ((pss_cons (ps_for PassesOwn.never rfl (pi_list (pv 0)) (pg_name (i := 1) sc_LKeptWell.nd rfl (Or.inl rfl)) (pss_one (ps_if (pt_cmpR (op_neD hr.units) (pe_ix ix_list (pv 1) pe_int (fun _ _ => rfl)) (pe_ix ix_list (pv 1) pe_int (fun _ _ => rfl)) (nomark _)) (pss_one (ps_ret pe_bl)) pss_nil)))
      (pss_one (ps_ret pe_bl)))), ?_⟩)
  obtain ⟨kr, ps, rfl, kp, k⟩ := h
  walk_at "rd"
  refine ⟨kr, rfl, ⟨_, SqL.of kp.at_⟩, for_list (K := K) (a := kr) (xs := ps.map fun u => V.ref u.1) (fun i σ H' => ∃ v, σ = [some (.ref kr), v] ∧ H' = H) ⟨none, rfl, rfl⟩ (fun i σ H' _ ⟨_, _, e⟩ => by rw [e]; exact SqL.of kp.at_) ?_ ?_⟩
  · rintro i x σ H' hi ⟨v, rfl, rfl⟩
    rw [List.getElem?_map] at hi
    cases eu : ps[i]? with
    | none => rw [eu] at hi; cases hi
    | some u =>
      rw [eu] at hi
      cases hi
      obtain ⟨e, rs, ⟨xs, ex, px⟩, ⟨ys, ey, py⟩, ok⟩ := kp.pr u (List.mem_of_getElem? eu)
      walk_at "rd"
      refine r_ixL (SqL.of e) (atI_get (j := 0) rfl rfl) ?_
      walk_at "rd"
      refine r_ixL (SqL.of e) (atI_get (j := 1) rfl rfl) ?_
      refine r_neRR (SqL.of ex) (SqL.of ey) px py ok ok ?_
      walk_at "rd"
      refine r_itn (fun z => absurd rfl z) (fun _ => ?_)
      walk_at "rd"
      exact ⟨_, rfl, rfl⟩
  · rintro σ H' ⟨v, rfl, rfl⟩
    walk_at "rd"
    exact k

/-! ### what stands of lines, of orders -/
def Ln.base (l : Ln) : Lt := ⟨l.item, l.ordered, l.cents, l.pack⟩
structure Ln.inv (l : Ln) : Prop where
  it : isItem l.item = true
  ok : l.ok
  a : 0 ≤ l.again
  b : l.again ≤ l.home
  c : l.home ≤ l.sent
  d : l.sent ≤ l.ordered + l.again
  e : 0 ≤ l.credited
  f : l.credited ≤ l.worth
theorem worth_mono {k m c p : Int} (h : k ≤ m) (hc : 0 ≤ c) (hp : 0 < p) : k * c / p ≤ m * c / p := Int.ediv_le_ediv hp (Int.mul_le_mul_of_nonneg_right h hc)
theorem worth_pos {k c p : Int} (h : 0 ≤ k) (hc : 0 ≤ c) (hp : 0 < p) : 0 ≤ k * c / p := Int.ediv_nonneg (Int.mul_nonneg h hc) (Int.le_of_lt hp)
theorem Ln.turn_inv {l l' : Ln} {w : Str} {n : Int} (h : l.inv) (hn : 1 ≤ n) (e : l.turn w n = some l') : l'.inv ∧ l'.base = l.base := by
  have hc : 0 ≤ l.cents := h.ok.1.1
  have hp : 0 < l.pack := by have := h.ok.2.1; omega
  have ha := h.a
  have hb := h.b
  have hcc := h.c
  have hd := h.d
  have he := h.e
  have hf : l.credited ≤ (l.sent - l.home) * l.cents / l.pack := h.f
  unfold Ln.turn at e
  split at e
  · unfold Ln.deliver at e
    split at e
    · cases e
    rename_i q
    have q' : ¬ n > l.ordered - l.sent + l.again := q
    cases e
    refine ⟨⟨h.it, h.ok, h.a, h.b, ?_, ?_, h.e, ?_⟩, rfl⟩
    · show l.home ≤ l.sent + n
      omega
    · show l.sent + n ≤ l.ordered + l.again
      omega
    · show l.credited ≤ (l.sent + n - l.home) * l.cents / l.pack
      exact Int.le_trans hf (worth_mono (by omega) hc hp)
  · split at e
    · unfold Ln.reduce at e
      split at e
      · cases e
      rename_i q
      have q' : ¬ n > (l.sent - l.home) * l.cents / l.pack - l.credited := q
      cases e
      refine ⟨⟨h.it, h.ok, h.a, h.b, h.c, h.d, ?_, ?_⟩, rfl⟩
      · show 0 ≤ l.credited + n
        omega
      · show l.credited + n ≤ (l.sent - l.home) * l.cents / l.pack
        omega
    · unfold Ln.bring at e
      split at e
      · cases e
      rename_i q
      have q' : ¬ n > l.sent - l.home := q
      have cut : ∀ m : Ln, isItem m.item = true → m.ok → 0 ≤ m.again → m.again ≤ m.home → m.home ≤ m.sent → m.sent ≤ m.ordered + m.again → 0 ≤ m.credited → 0 ≤ m.worth → m.cut.inv ∧ m.cut.base = m.base := fun m h1 h2 h3 h4 h5 h6 h7 h8 => by
        refine ⟨⟨h1, h2, h3, h4, h5, h6, ?_, ?_⟩, rfl⟩
        · show 0 ≤ (if m.worth < m.credited then m.worth else m.credited)
          split <;> omega
        · show (if m.worth < m.credited then m.worth else m.credited) ≤ m.worth
          split <;> omega
      cases e
      split
      · refine cut _ h.it h.ok ?_ ?_ ?_ ?_ h.e (worth_pos ?_ hc hp)
        · show 0 ≤ l.again + n
          omega
        · show l.again + n ≤ l.home + n
          omega
        · show l.home + n ≤ l.sent
          omega
        · show l.sent ≤ l.ordered + (l.again + n)
          omega
        · show 0 ≤ l.sent - (l.home + n)
          omega
      · refine cut _ h.it h.ok h.a ?_ ?_ h.d h.e (worth_pos ?_ hc hp)
        · show l.again ≤ l.home + n
          omega
        · show l.home + n ≤ l.sent
          omega
        · show 0 ≤ l.sent - (l.home + n)
          omega
structure Od.inv (o : Od) : Prop where
  ln : ∀ l, l ∈ o.lines → l.inv
  mo : 0 ≤ o.money
  su : (o.marks.map (·.2)).sum = o.owing
  st : ∀ m, m ∈ o.marks → PyData.strOk m.1 = true
  few : o.lines.length ≤ 20
theorem charges_pos : ∀ {ls : List Ln}, (∀ l, l ∈ ls → l.inv) → 0 ≤ (ls.map Ln.charge).sum
  | [], _ => Int.le_refl _
  | l :: ls, h => by
    have h1 := (h l List.mem_cons_self).f
    have h2 := charges_pos (ls := ls) fun x hx => h x (List.mem_cons_of_mem _ hx)
    show 0 ≤ l.charge + (ls.map Ln.charge).sum
    have h3 : l.charge = l.worth - l.credited := rfl
    omega
theorem Od.inv.marked {o : Od} {w : Str} {c : Int} (ln : ∀ l, l ∈ o.lines → l.inv) (mo : 0 ≤ o.money) (st : ∀ m, m ∈ o.marks → PyData.strOk m.1 = true) (few : o.lines.length ≤ 20) (hw : PyData.strOk w = true) (su : (o.marks.map (·.2)).sum + c = o.owing) : (o.mark w c).inv where
  ln := ln
  mo := mo
  su := by
    show ((o.marks ++ [(w, c)]).map (·.2)).sum = Od.owing o
    rw [List.map_append, List.sum_append]
    simp
    exact su
  st := fun m hm => by
    rcases List.mem_append.mp hm with h | h
    · exact st m h
    · rw [List.mem_singleton.mp h]; exact hw
  few := few
theorem charge_zero : ∀ ls : List Lt, ((ls.map Lt.ln).map Ln.charge).sum = 0
  | [] => rfl
  | t :: r => by
    have ih := charge_zero r
    have cz : t.ln.charge = 0 := by
      show ((0 - 0) * t.cents) / t.pack - 0 = 0
      simp
    show t.ln.charge + ((r.map Lt.ln).map Ln.charge).sum = 0
    omega
/-- what a step did of each order -/
structure Chg (d : Dd) (os es : List Od) (cs : List (Int × Int)) : Prop where
  at_ : ∀ (j : Nat) a b, os[j]? = some a → es[j]? = some b → ((cs.filter fun c => decide (c.1 = (j : Int))).length ≤ 1 ∧ b.owing - a.owing = ((cs.filter fun c => decide (c.1 = (j : Int))).map (·.2)).sum ∧
    ((cs.filter fun c => decide (c.1 = (j : Int))) = [] → b = a) ∧ (wLn (word d) → b.money = a.money) ∧ (¬ wLn (word d) → b.lines = a.lines) ∧ b.lines.map Ln.base = a.lines.map Ln.base)
  sum : (cs.map (·.2)).sum = (es.map Od.owing).sum - (os.map Od.owing).sum
  inv : (∀ o, o ∈ os → o.inv) → ∀ o, o ∈ es → o.inv
theorem sum_set {os : List Od} {j : Nat} {a b : Od} (ea : os[j]? = some a) : ((os.set j b).map Od.owing).sum = (os.map Od.owing).sum + (b.owing - a.owing) := by
  induction os generalizing j with
  | nil => simp at ea
  | cons o r ih =>
    cases j with
    | zero =>
      have e : o = a := Option.some.inj ea
      subst e
      show b.owing + (r.map Od.owing).sum = o.owing + (r.map Od.owing).sum + _
      omega
    | succ j =>
      have q := ih (j := j) (by simpa using ea)
      show o.owing + ((r.set j b).map Od.owing).sum = o.owing + (r.map Od.owing).sum + _
      omega
theorem set_at {os : List Od} {j k : Nat} {a b x y : Od} (ea : os[j]? = some a) (ex : os[k]? = some x) (ey : (os.set j b)[k]? = some y) : (k = j ∧ x = a ∧ y = b) ∨ (k ≠ j ∧ y = x) := by
  have hj := (List.getElem?_eq_some_iff.mp ea).1
  by_cases c : k = j
  · subst c
    rw [List.getElem?_set_self hj] at ey
    rw [ea] at ex
    exact .inl ⟨rfl, (Option.some.inj ex).symm, (Option.some.inj ey).symm⟩
  · rw [List.getElem?_set_ne (Ne.symm c), ex] at ey
    exact .inr ⟨c, (Option.some.inj ey).symm⟩
theorem chg_one {d : Dd} {os : List Od} {j : Nat} {a b : Od} (ea : os[j]? = some a) (h1 : wLn (word d) → b.money = a.money) (h2 : ¬ wLn (word d) → b.lines = a.lines) (h3 : b.lines.map Ln.base = a.lines.map Ln.base) (h4 : a.inv → b.inv) :
    Chg d os (os.set j b) [((j : Int), b.owing - a.owing)] where
  at_ := fun k x y ex ey => by
    rcases set_at ea ex ey with ⟨rfl, rfl, rfl⟩ | ⟨n, rfl⟩
    · have e : ([((k : Int), y.owing - x.owing)].filter fun c => decide (c.1 = (k : Int))) = [((k : Int), y.owing - x.owing)] := by simp
      rw [e]
      exact ⟨Nat.le_refl _, by simp, fun z => (by cases z), h1, h2, h3⟩
    · have e : ([((j : Int), b.owing - a.owing)].filter fun c => decide (c.1 = (k : Int))) = [] := by
        have : ¬ (j : Int) = (k : Int) := by omega
        simp [this]
      rw [e]
      exact ⟨Nat.zero_le _, by simp, fun _ => rfl, fun _ => rfl, fun _ => rfl, rfl⟩
  sum := by
    rw [sum_set ea]
    simp
    omega
  inv := fun h o ho => by
    rcases set_mem ho with q | q
    · exact h o q
    · rw [q]; exact h4 (h a (List.mem_of_getElem? ea))
theorem step_chg {os es : List Od} {d : Dd} {cs : List (Int × Int)} (g : d.good) (gd : ∀ ls, d = .ord ls → Good ls) (st : step os d = .ok (es, cs)) : Chg d os es cs := by
  cases d with
  | ord ls =>
    have G := gd ls rfl
    have e' : stepOrd os ls = .ok (es, cs) := st
    unfold stepOrd at e'
    split at e'
    · cases e'
    cases e'
    have oz : Od.owing ⟨ls.map Lt.ln, 0, []⟩ = 0 := by
      have := charge_zero ls
      show ((ls.map Lt.ln).map Ln.charge).sum - 0 = 0
      omega
    refine ⟨fun j a b ea eb => ?_, ?_, fun h o ho => ?_⟩
    · rw [List.getElem?_append_left (List.getElem?_eq_some_iff.mp ea).1, ea] at eb
      cases eb
      exact ⟨Nat.zero_le _, by simp, fun _ => rfl, fun _ => rfl, fun _ => rfl, rfl⟩
    · rw [List.map_append, List.sum_append]
      simp [oz]
    · rcases List.mem_append.mp ho with q | q
      · exact h o q
      · rw [List.mem_singleton.mp q]
        refine ⟨fun l hl => ?_, Int.le_refl _, by rw [oz]; rfl, fun m hm => (by cases hm), by simpa using G.1.2⟩
        obtain ⟨t, ht, rfl⟩ := List.mem_map.mp hl
        obtain ⟨hi, n1, n2, n3⟩ := G.2 t ht
        refine ⟨hi, ⟨n2, n3⟩, Int.le_refl _, Int.le_refl _, Int.le_refl _, ?_, Int.le_refl _, ?_⟩
        · show (0 : Int) ≤ t.pieces + 0
          omega
        · show (0 : Int) ≤ ((0 - 0) * t.cents) / t.pack
          simp
  | ln w o l n =>
    have e' : stepLn os w o l n = .ok (es, cs) := st
    unfold stepLn at e'
    rcases at_or os o with ⟨q, _⟩ | ⟨j, od, rfl, eo, q⟩
    · rw [q] at e'; cases e'
    rw [q] at e'
    dsimp only at e'
    rcases at_or od.lines l with ⟨q, _⟩ | ⟨i, x, rfl, el, q⟩
    · rw [q] at e'; cases e'
    rw [q] at e'
    dsimp only at e'
    split at e'
    · cases e'
    rename_i hn
    cases et : x.turn w n with
    | none => rw [et] at e'; cases e'
    | some x' =>
      rw [et] at e'
      cases e'
      have hwl : wLn (word (.ln w j i n)) := g
      have bs : x.inv → x'.inv ∧ x'.base = x.base := fun h => Ln.turn_inv h (by omega) et
      have bb : x'.base = x.base := by
        rcases turn_def g et with ⟨_, rfl⟩ | ⟨_, rfl⟩ | ⟨_, _, rfl⟩
        · rfl
        · rfl
        · rfl
      have ob : (od.lines.set i x').map Ln.base = od.lines.map Ln.base := by
        rw [List.map_set, bb]
        have hi := (List.getElem?_eq_some_iff.mp el).1
        have : (od.lines.map Ln.base)[i]? = some x.base := by rw [List.getElem?_map, el]; rfl
        apply List.ext_getElem?
        intro k
        by_cases c : i = k
        · subst c
          rw [List.getElem?_set_self (by simpa using hi), this]
        · rw [List.getElem?_set_ne c]
      refine chg_one (b := Od.mark { od with lines := od.lines.set i x' } w (Od.owing { od with lines := od.lines.set i x' } - od.owing)) eo (fun _ => rfl) (fun z => absurd hwl z) ob fun h => ?_
      refine Od.inv.marked (fun y hy => ?_) h.mo h.st (by show (od.lines.set i x').length ≤ 20; rw [List.length_set]; exact h.few) (word_str (d := .ln w j i n) g) ?_
      · rcases List.mem_or_eq_of_mem_set hy with z | z
        · exact h.ln y z
        · rw [z]; exact (bs (h.ln x (List.mem_of_getElem? el))).1
      · show (od.marks.map (·.2)).sum + _ = _
        rw [h.su]
        omega
  | mo w o n =>
    have e' : stepMo os w o n = .ok (es, cs) := st
    unfold stepMo at e'
    rcases at_or os o with ⟨q, _⟩ | ⟨j, od, rfl, eo, q⟩
    · rw [q] at e'; cases e'
    rw [q] at e'
    dsimp only at e'
    have nw : ¬ wLn (word (.mo w j n)) := fun z => by
      have z' : wLn w := z
      rcases g with rfl | rfl
      · exact (gln z').2.2.1 rfl
      · exact (gln z').2.2.2 rfl
    have fin : ∀ m : Int, (od.inv → 0 ≤ od.money + m) → Chg (.mo w j n) os (os.set j (Od.mark (od.pay m) w ((od.pay m).owing - od.owing))) [((j : Int), (od.pay m).owing - od.owing)] := fun m hm =>
      chg_one (b := Od.mark (od.pay m) w ((od.pay m).owing - od.owing)) eo (fun z => absurd z nw) (fun _ => rfl) rfl fun h => Od.inv.marked h.ln (hm h) h.st h.few (word_str (d := .mo w j n) g) (by
        show (od.marks.map (·.2)).sum + _ = _
        rw [h.su]
        omega)
    split at e'
    · cases e'
    rename_i hn
    split at e'
    · cases e'
      exact fin n fun h => by have := h.mo; omega
    split at e'
    · cases e'
    rename_i ho
    cases e'
    refine fin (-n) fun h => ?_
    have c := charges_pos h.ln
    have ow : od.owing = (od.lines.map Ln.charge).sum - od.money := rfl
    omega
  | mv o p n =>
    have e' : stepMv os o p n = .ok (es, cs) := st
    unfold stepMv at e'
    rcases at_or os o with ⟨q, _⟩ | ⟨i, a, rfl, ea, q⟩
    · rw [q] at e'; cases e'
    rw [q] at e'
    dsimp only at e'
    rcases at_or os p with ⟨q, _⟩ | ⟨j, b, rfl, eb, q⟩
    · rw [q] at e'; cases e'
    rw [q] at e'
    dsimp only at e'
    split at e'
    · cases e'
    rename_i hij
    split at e'
    · cases e'
    rename_i hn
    split at e'
    · cases e'
    rename_i ho
    cases e'
    have ij : i ≠ j := fun z => hij (by rw [z])
    have nw : ¬ wLn (word (.mv i j n)) := fun z => by
      have z' : wLn ("move" : Str) := z
      exact (gln z').2.1 rfl
    have ms : PyData.strOk ("move" : Str) = true := by decide +kernel
    have a2 : a.inv → (Od.mark (a.pay (-n)) "move" ((a.pay (-n)).owing - a.owing)).inv := fun h => Od.inv.marked h.ln (by
      have c := charges_pos h.ln
      have ow : a.owing = (a.lines.map Ln.charge).sum - a.money := rfl
      show 0 ≤ a.money + -n
      omega) h.st h.few ms (by
      show (a.marks.map (·.2)).sum + _ = _
      rw [h.su]
      omega)
    have b2 : b.inv → (Od.mark (b.pay n) "move" ((b.pay n).owing - b.owing)).inv := fun h => Od.inv.marked h.ln (by
      have := h.mo
      show 0 ≤ b.money + n
      omega) h.st h.few ms (by
      show (b.marks.map (·.2)).sum + _ = _
      rw [h.su]
      omega)
    have c1 := chg_one (d := .mv i j n) (b := Od.mark (a.pay (-n)) "move" ((a.pay (-n)).owing - a.owing)) ea (fun z => absurd z nw) (fun _ => rfl) rfl a2
    have eb' : (os.set i (Od.mark (a.pay (-n)) "move" ((a.pay (-n)).owing - a.owing)))[j]? = some b := by rw [List.getElem?_set_ne ij]; exact eb
    have c2 := chg_one (d := .mv i j n) (b := Od.mark (b.pay n) "move" ((b.pay n).owing - b.owing)) eb' (fun z => absurd z nw) (fun _ => rfl) rfl b2
    have app : ∀ k : Int, ([((i : Int), (a.pay (-n)).owing - a.owing), ((j : Int), (b.pay n).owing - b.owing)].filter fun c => decide (c.1 = k)) = ([((i : Int), (a.pay (-n)).owing - a.owing)].filter fun c => decide (c.1 = k)) ++ ([((j : Int), (b.pay n).owing - b.owing)].filter fun c => decide (c.1 = k)) := fun k => List.filter_append (p := fun c : Int × Int => decide (c.1 = k)) [_] [_]
    refine ⟨fun k x z ex ez => ?_, ?_, fun h => c2.inv (c1.inv h)⟩
    · obtain ⟨y, ey⟩ : ∃ y, (os.set i (Od.mark (a.pay (-n)) "move" ((a.pay (-n)).owing - a.owing)))[k]? = some y := by
        have := (List.getElem?_eq_some_iff.mp ex).1
        exact ⟨_, List.getElem?_eq_getElem (by rw [List.length_set]; exact this)⟩
      have q1 : ([((i : Int), (a.pay (-n)).owing - a.owing)].filter fun c => decide (c.1 = (k : Int))).length ≤ 1 ∧ y.owing - x.owing = (([((i : Int), (a.pay (-n)).owing - a.owing)].filter fun c => decide (c.1 = (k : Int))).map (·.2)).sum ∧ _ := c1.at_ k x y ex ey
      have q2 : ([((j : Int), (b.pay n).owing - b.owing)].filter fun c => decide (c.1 = (k : Int))).length ≤ 1 ∧ z.owing - y.owing = (([((j : Int), (b.pay n).owing - b.owing)].filter fun c => decide (c.1 = (k : Int))).map (·.2)).sum ∧ _ := c2.at_ k y z ey ez
      rw [app]
      obtain ⟨u1, u2, u3, u4, u5, u6⟩ := q1
      obtain ⟨v1, v2, v3, v4, v5, v6⟩ := q2
      refine ⟨?_, by rw [List.map_append, List.sum_append]; omega, fun w => ?_, fun w => absurd w nw, fun w => (v5 w).trans (u5 w), v6.trans u6⟩
      · rw [List.length_append]
        by_cases ki : (i : Int) = (k : Int)
        · have : ¬ (j : Int) = (k : Int) := by omega
          have e2 : ([((j : Int), (b.pay n).owing - b.owing)].filter fun c => decide (c.1 = (k : Int))) = [] := by simp [this]
          rw [e2]
          simpa using u1
        · have e2 : ([((i : Int), (a.pay (-n)).owing - a.owing)].filter fun c => decide (c.1 = (k : Int))) = [] := by simp [ki]
          rw [e2]
          simpa using v1
      · obtain ⟨w1, w2⟩ := List.append_eq_nil_iff.mp w
        exact (v3 w2).trans (u3 w1)
    · have s1 := c1.sum
      have s2 := c2.sum
      have s1' : (a.pay (-n)).owing - a.owing + 0 = _ := s1
      have s2' : (b.pay n).owing - b.owing + 0 = _ := s2
      show (a.pay (-n)).owing - a.owing + ((b.pay n).owing - b.owing + 0) = _
      omega

/-! ### a chain of four comparisons -/
section
open PySem.Spec PyProof.Rows
variable {X : Cx}
def tLk (r : R2) (tb : TE) (next : V → TT) : V → TT := fun x σ H Q => tb σ H fun y H2 => r x y H2 fun z H3 => ∃ k, z = V.bl k ∧ if k = true then next y σ H3 Q else Q false H3
def tLe (r : R2) (tb : TE) : V → TT := fun x σ H Q => tb σ H fun y H2 => r x y H2 fun z H3 => ∃ k, z = V.bl k ∧ Q k H3
def tC4 (r1 r2 r3 r4 : R2) (ta tb tc td te : TE) : TT := fun σ H Q => ta σ H fun x H1 => tLk r1 tb (tLk r2 tc (tLk r3 td (tLe r4 te))) x σ H1 Q
theorem pt_chain4 {a b c d e : Expr} {ta tb tc td te : TE} {pos : Pos} {o1 o2 o3 o4 : CmpOp} {r1 r2 r3 r4 : R2} (h1 : OpR X (compareOp o1) r1) (h2 : OpR X (compareOp o2) r2) (h3 : OpR X (compareOp o3) r3) (h4 : OpR X (compareOp o4) r4)
    (ha : PE X a ta) (hb : PE X b tb) (hc : PE X c tc) (hd : PE X d td) (he : PE X e te)
    (hm : lastMarks [o1, o2, o3, o4] [b, c, d, e] = false := by with_unfolding_all rfl) : PT X (.Compare a [o1, o2, o3, o4] [b, c, d, e] pos) (tC4 r1 r2 r3 r4 ta tb tc td te) := by
  refine ⟨fun pins s σ H Q I h => ?_⟩
  refine isTrue_chain (thn (ha.run pins s σ H _ I h) fun v s1 ⟨x, H1, I1, q1, p1⟩ => test_link (thn (hb.run pins s1 σ H1 _ I1 p1) fun u s2 ⟨y, H2, I2, q2, p2⟩ =>
    thn (h1 pins s2 σ H2 x y v u _ I2 q1 q2 p2) fun w s3 ⟨z, H3, I3, q3, k, e, p3⟩ => ?_)) hm
  subst e
  cases q3
  refine wpAny_truthy_bool ?_
  cases k with
  | false => exact ite_ff ⟨H3, I3, p3⟩
  | true =>
    refine ite_tt (test_link (thn (hc.run pins s3 σ H3 _ I3 p3) fun w' s4 ⟨z', H4, I4, q4, p4⟩ => thn (h2 pins s4 σ H4 y z' u w' _ I4 q2 q4 p4) fun d' s5 ⟨z2, H5, I5, q5, k2, e2, p5⟩ => ?_))
    subst e2
    cases q5
    refine wpAny_truthy_bool ?_
    cases k2 with
    | false => exact ite_ff ⟨H5, I5, p5⟩
    | true =>
      refine ite_tt (test_link (thn (hd.run pins s5 σ H5 _ I5 p5) fun w6 s6 ⟨z6, H6, I6, q6, p6⟩ => thn (h3 pins s6 σ H6 z' z6 w' w6 _ I6 q4 q6 p6) fun d7 s7 ⟨z7, H7, I7, q7, k3, e3, p7⟩ => ?_))
      subst e3
      cases q7
      refine wpAny_truthy_bool ?_
      cases k3 with
      | false => exact ite_ff ⟨H7, I7, p7⟩
      | true =>
        refine ite_tt (test_last (thn (he.run pins s7 σ H7 _ I7 p7) fun w8 s8 ⟨z8, H8, I8, q8, p8⟩ => thn (h4 pins s8 σ H8 z6 z8 w6 w8 _ I8 q6 q8 p8) fun d9 s9 ⟨z9, H9, I9, q9, k4, e4, p9⟩ => ?_))
        subst e4
        cases q9
        exact wpAny_truthy_bool ⟨H9, I9, p9⟩
theorem r_c4 {σ : L2.St} {H : Hp} {QB : Bool → Hp → Prop} {r1 r2 r3 r4 : R2} {ta tb tc td te : TE} (h : ta σ H fun x H1 => tLk r1 tb (tLk r2 tc (tLk r3 td (tLe r4 te))) x σ H1 QB) : tC4 r1 r2 r3 r4 ta tb tc td te σ H QB := h
theorem r_lk {σ : L2.St} {H : Hp} {QB : Bool → Hp → Prop} {r : R2} {tb : TE} {next : V → TT} {x : V} (h : tb σ H fun y H2 => r x y H2 fun z H3 => ∃ k, z = V.bl k ∧ if k = true then next y σ H3 QB else QB false H3) : tLk r tb next x σ H QB := h
theorem r_le {σ : L2.St} {H : Hp} {QB : Bool → Hp → Prop} {r : R2} {tb : TE} {x : V} (h : tb σ H fun y H2 => r x y H2 fun z H3 => ∃ k, z = V.bl k ∧ QB k H3) : tLe r tb x σ H QB := h
end

/-! ### the law's orders: the lines as they were handed in -/
structure OrAt (H : Hp) (a : Addr) (as : List Addr) (os : List Od) : Prop where
  top : H a = some (.lst (as.map V.ref))
  len : as.length = os.length
  at_ : ∀ (j : Nat) l o, as[j]? = some l → os[j]? = some o → ∃ xs, H l = some (.lst xs) ∧ LtsAt H xs (o.lines.map Ln.base)
def orfoot (a : Addr) (as : List Addr) (x : Addr) : Prop := x = a ∨ x ∈ as
theorem OrAt.keep {H H' : Hp} {a : Addr} {as : List Addr} {os : List Od} {T : Addr → Prop} (h : OrAt H a as os) (b : But T H H') (n : ∀ x, orfoot a as x → ¬ T x) : OrAt H' a as os where
  top := b.keep _ _ h.top (n _ (.inl rfl))
  len := h.len
  at_ := fun j l o e1 e2 => by
    obtain ⟨xs, e, p⟩ := h.at_ j l o e1 e2
    exact ⟨xs, b.keep _ _ e (n _ (.inr (List.mem_of_getElem? e1))), b.lts p⟩
theorem OrAt.same {H H' : Hp} {a : Addr} {as : List Addr} {os : List Od} (h : OrAt H a as os) (s : Same H H') : OrAt H' a as os := h.keep (But.of (S := fun _ => False) s) fun _ _ => id
theorem OrAt.dom {H : Hp} {a : Addr} {as : List Addr} {os : List Od} (h : OrAt H a as os) {x : Addr} (f : orfoot a as x) : ∃ o, H x = some o := by
  rcases f with f | f
  · exact ⟨_, by rw [f]; exact h.top⟩
  · obtain ⟨j, hj⟩ := List.getElem?_of_mem f
    have hl : j < os.length := by rw [← h.len]; exact (List.getElem?_eq_some_iff.mp hj).1
    obtain ⟨xs, e, _⟩ := h.at_ j x _ hj (List.getElem?_eq_getElem hl)
    exact ⟨_, e⟩
theorem or_at {H : Hp} {a : Addr} {as : List Addr} {os : List Od} {j : Nat} {o : Od} (h : OrAt H a as os) (e : os[j]? = some o) : ∃ l, as[j]? = some l ∧ (as.map V.ref)[j]? = some (.ref l) ∧ ∃ xs, H l = some (.lst xs) ∧ LtsAt H xs (o.lines.map Ln.base) := by
  have hl : j < as.length := by rw [h.len]; exact (List.getElem?_eq_some_iff.mp e).1
  refine ⟨as[j], List.getElem?_eq_getElem hl, ?_, h.at_ j _ o (List.getElem?_eq_getElem hl) e⟩
  rw [List.getElem?_map, List.getElem?_eq_getElem hl]; rfl
theorem chain_at {α : Type} {xs : List α} {n : Int} {A B : Prop} (hn : at_ xs n = none → A) (hs : ∀ (j : Nat) x, n = (j : Int) → xs[j]? = some x → at_ xs n = some (j, x) → B) :
    if decide (0 ≤ n) = true then (if (!decide (n < (xs.length : Int))) = true then A else B) else A := by
  rcases at_or xs n with ⟨e, c⟩ | ⟨j, x, rfl, ex, e⟩
  · refine r_itd (fun c1 => ?_) (fun _ => hn e)
    refine r_itn (fun _ => hn e) (fun c2 => absurd ⟨c1, c2⟩ c)
  · have := (List.getElem?_eq_some_iff.mp ex).1
    refine r_ity (by omega) ?_
    exact r_itn (fun c => absurd (by omega) c) (fun _ => hs j x rfl ex e)
def spLKeptWorth (_ : PySem.W.Frag) : Sp := fun vs H Q _ => ∃ (t u : Addr) (l : Ln), vs = [.ref t, .ref u] ∧ H t = some (.tup [.str l.item, .int l.ordered, .int l.cents, .int l.pack]) ∧ H u = some (.tup (lnTold l)) ∧ l.ok ∧ Q (.int l.worth) H
theorem len_LKeptWorth {K : PySem.W.Frag} {vs : List V} {H : Hp} {Q : VK} {E : XK} (h : spLKeptWorth K vs H Q E) : vs.length = 2 := by
  obtain ⟨_, _, _, rfl, _⟩ := h; rfl
theorem lok_c {l : Ln} (h : l.ok) : -(2 ^ 64) < l.cents ∧ l.cents < 2 ^ 64 := by
  obtain ⟨⟨a, b⟩, _⟩ := h
  omega
theorem lok_p {l : Ln} (h : l.ok) : 0 < l.pack ∧ l.pack < 1073741824 := by
  obtain ⟨_, a, b⟩ := h
  omega
theorem ok_LKeptWorth {P : Program} {w : World} {K : PySem.W.Frag} {mg : Str → Option Value} {base : Heap} (T : Tx w K mg) : FnOk P w K mg base CX0 1 (He.fAd K dLKeptWorth.at_) (fdO K dLKeptWorth.at_) P_LKeptWorth (spLKeptWorth K) := by
  refine T.f_LKeptWorth.ok sc_LKeptWorth (fun vs H Q E h => len_LKeptWorth h) (fun cdv A outer s H vs Q E hr h => ⟨_, PSs.nox ((pss_one (ps_ret (pe_op op_fdiv (pe_op op_mul (pe_op op_sub (pe_ix ix_tup (pv 1) pe_int (fun _ _ => rfl)) (pe_ix ix_tup (pv 1) pe_int (fun _ _ => rfl))) (pe_ix ix_tup (pv 0) pe_int (fun _ _ => rfl))) (pe_ix ix_tup (pv 0) pe_int (fun _ _ => rfl)))))), ?_⟩)
  obtain ⟨t, u, l, rfl, ht, hu, ok, k⟩ := h
  walk_at "rd"
  refine r_ixT (SqT.of hu) (atI_get (j := 2) rfl rfl) ?_
  walk_at "rd"
  refine r_ixT (SqT.of hu) (atI_get (j := 3) rfl rfl) ?_
  walk_at "rd"
  refine r_ixT (SqT.of ht) (atI_get (j := 2) rfl rfl) ?_
  refine r_I (.inr (lok_c ok)) ?_
  walk_at "rd"
  refine r_ixT (SqT.of ht) (atI_get (j := 3) rfl rfl) ?_
  exact r_I (lok_p ok) k
def spLMost (K : PySem.W.Frag) : Sp := fun vs H Q _ => ∃ (w : Str) (at' pl : Int) (a : Addr) (as : List Addr) (b : Addr) (B : Bk) (L : Lay), vs = [.str w, .int at', .int pl, .ref a, .ref b] ∧ OrAt H a as B.each ∧ BookAt K H b B L ∧ B.ok ∧ ∀ (m : Int) H', Same H H' → Q (.int m) H'
theorem len_LMost {K : PySem.W.Frag} {vs : List V} {H : Hp} {Q : VK} {E : XK} (h : spLMost K vs H Q E) : vs.length = 5 := by
  obtain ⟨_, _, _, _, _, _, _, _, rfl, _⟩ := h; rfl
theorem ok_LMost {P : Program} {w : World} {K : PySem.W.Frag} {mg : Str → Option Value} {base : Heap} (T : Tx w K mg) : FnOk P w K mg base CX0 6 (He.fAd K dLMost.at_) (fdO K dLMost.at_) P_LMost (spLMost K) := by
  refine T.f_LMost.ok sc_LMost (fun vs H Q E h => len_LMost h) (fun cdv A outer s H vs Q E hr h => ⟨_, PSs.nox ((pss_cons (ps_if (pt_not (pt_chain op_le op_lt pe_int (pv 1) (pe_callB call_len_seq (by rfl) T.b_len (by decide +kernel) (pa_cons (pv 3) pa_nil)))) (pss_one (ps_ret pe_int)) pss_nil)
      (pss_cons (ps_if (pt_cmpR op_eq (pv 0) pe_str (nomark _)) (pss_one (ps_ret (pe_meth (pv 4) T.cl_Book T.m_Book_owed (ok_BookOwed T) (hr.mono (by decide)) T.b_BookOwed .nil passL (pa_cons (pv 1) pa_nil)))) pss_nil)
      (pss_cons (ps_if (PW.pt (pw_or (pt_cmpR op_eq (pv 0) pe_str (nomark _)) (pw_or1 (pt_cmpR op_eq (pv 0) pe_str (nomark _))))) (pss_one (ps_ret (pe_un un_neg (pe_meth (pv 4) T.cl_Book T.m_Book_owed (ok_BookOwed T) (hr.mono (by decide)) T.b_BookOwed .nil passL (pa_cons (pv 1) pa_nil))))) pss_nil)
      (pss_cons (ps_if (pt_not (pt_chain op_le op_lt pe_int (pv 2) (pe_callB call_len_seq (by rfl) T.b_len (by decide +kernel) (pa_cons (pe_ix ix_list (pv 3) (pv 1) (fun _ _ => rfl)) pa_nil)))) (pss_one (ps_ret pe_int)) pss_nil)
      (pss_cons (ps_set (i := 5) sc_LMost.nd rfl (Or.inl rfl) (pe_ix ix_list (pe_meth (pv 4) T.cl_Book T.m_Book_told (ok_BookTold T) (hr.mono (by decide)) T.b_BookTold .nil passL (pa_cons (pv 1) pa_nil)) (pv 2) (fun _ _ => rfl)))
      (pss_cons (ps_if (pt_cmpR op_eq (pv 0) pe_str (nomark _)) (pss_one (ps_ret (pe_op op_add (pe_op op_sub (pe_ix ix_tup (pv 5) pe_int (fun _ _ => rfl)) (pe_ix ix_tup (pv 5) pe_int (fun _ _ => rfl))) (pe_ix ix_tup (pv 5) pe_int (fun _ _ => rfl))))) pss_nil)
      (pss_cons (ps_if (pt_cmpR op_eq (pv 0) pe_str (nomark _)) (pss_one (ps_ret (pe_op op_sub (pe_call (ok_LKeptWorth T) (hr.mono (by decide)) rfl T.g_LKeptWorth T.f_LKeptWorth.kp T.b_LKeptWorth .nil pass0 (pa_cons (pe_ix ix_list (pe_ix ix_list (pv 3) (pv 1) (fun _ _ => rfl)) (pv 2) (fun _ _ => rfl)) (pa_cons (pv 5) pa_nil))) (pe_ix ix_tup (pv 5) pe_int (fun _ _ => rfl))))) pss_nil)
      (pss_one (ps_ret (pe_op op_sub (pe_ix ix_tup (pv 5) pe_int (fun _ _ => rfl)) (pe_ix ix_tup (pv 5) pe_int (fun _ _ => rfl))))))))))))), ?_⟩)
  obtain ⟨w', at', pl, a, as, b, B, L, rfl, h, hB, ok, k⟩ := h
  obtain ⟨dx, hb⟩ := hB.ob
  walk_at "rd"
  rcases at_or B.each at' with ⟨e, c⟩ | ⟨j, o, rfl, eo, e⟩
  · refine r_itd (fun c1 => ?_) (fun c1 => ?_)
    · walk_at "rd"
      refine ⟨a, _, rfl, .inl (SqL.of h.top), ?_⟩
      walk_at "rd"
      rw [List.length_map, h.len]
      refine r_itn (fun _ => ?_) (fun c2 => absurd ⟨c1, c2⟩ c)
      walk_at "rd"
      exact k _ _ (Same.refl _)
    · walk_at "rd"
      exact k _ _ (Same.refl _)
  have hj := (List.getElem?_eq_some_iff.mp eo).1
  have oko := ok.od o (List.mem_of_getElem? eo)
  obtain ⟨l, el, ev, xs, hl, px⟩ := or_at h eo
  have bad : ∀ {P : Prop}, ¬ (0 ≤ (j : Int) ∧ (j : Int) < B.each.length) → P := fun z => absurd ⟨by omega, by omega⟩ z
  have eq : ∀ {j' : Nat} {o' : Od}, (j : Int) = (j' : Int) → B.each[j']? = some o' → o' = o := fun {j' o'} e1 e2 => by
    have : j = j' := by omega
    subst this
    rw [eo] at e2
    exact (Option.some.inj e2).symm
  refine r_ity (by omega) ?_
  walk_at "rd"
  refine ⟨a, _, rfl, .inl (SqL.of h.top), ?_⟩
  walk_at "rd"
  rw [List.length_map, h.len]
  refine r_itn (fun c => absurd (by omega) c) (fun _ => ?_)
  walk_at "rd"
  refine r_itd (fun c => ?_) (fun c => ?_)
  · walk_at "rd"
    refine r_m hb (no_Book_owed _ _) ?_
    walk_at "rd"
    exact ⟨b, B, L, _, rfl, hB, ok, fun z => bad z, fun j' o' e1 e2 H1 s1 => k _ _ s1⟩
  walk_at "rd"
  have ow : (c : Prop) → c → True := fun _ _ => trivial
  refine r_itd (fun c1 => ?_) (fun c1 => ?_)
  · walk_at "rd"
    refine r_m hb (no_Book_owed _ _) ?_
    walk_at "rd"
    refine ⟨b, B, L, _, rfl, hB, ok, fun z => bad z, fun j' o' e1 e2 H1 s1 => ?_⟩
    walk_at "rd"
    exact k _ _ s1
  walk_at "rd"
  refine r_itd (fun c2 => ?_) (fun c2 => ?_)
  · walk_at "rd"
    refine r_m hb (no_Book_owed _ _) ?_
    walk_at "rd"
    refine ⟨b, B, L, _, rfl, hB, ok, fun z => bad z, fun j' o' e1 e2 H1 s1 => ?_⟩
    walk_at "rd"
    exact k _ _ s1
  walk_at "rd"
  have lx : xs.length = o.lines.length := by rw [px.length, List.length_map]
  rcases at_or o.lines pl with ⟨e, c⟩ | ⟨i, x, rfl, ei, e⟩
  · refine r_itd (fun c1 => ?_) (fun c1 => ?_)
    · walk_at "rd"
      refine r_ixL (SqL.of h.top) (atI_get rfl ev) ?_
      walk_at "rd"
      refine ⟨l, _, rfl, .inl (SqL.of hl), ?_⟩
      walk_at "rd"
      rw [lx]
      refine r_itn (fun _ => ?_) (fun c2 => absurd ⟨c1, c2⟩ c)
      walk_at "rd"
      exact k _ _ (Same.refl _)
    · walk_at "rd"
      exact k _ _ (Same.refl _)
  have hi := (List.getElem?_eq_some_iff.mp ei).1
  refine r_ity (by omega) ?_
  walk_at "rd"
  refine r_ixL (SqL.of h.top) (atI_get rfl ev) ?_
  walk_at "rd"
  refine ⟨l, _, rfl, .inl (SqL.of hl), ?_⟩
  walk_at "rd"
  rw [lx]
  refine r_itn (fun c => absurd (by omega) c) (fun _ => ?_)
  walk_at "rd"
  refine r_m hb (no_Book_told _ _) ?_
  walk_at "rd"
  refine ⟨b, B, L, _, rfl, hB, ok, fun z => bad z, fun j' o' e1 e2 r H1 ts s1 nr er pr => ?_⟩
  obtain rfl := eq e1 e2
  obtain ⟨v, ev2⟩ : ∃ v, ts[i]? = some v := ⟨_, List.getElem?_eq_getElem (by rw [pr.length]; exact hi)⟩
  obtain ⟨x', ex', t, rfl, ht⟩ := Paired.get_ex pr ev2
  rw [ei] at ex'
  cases ex'
  walk_at "rd"
  refine r_ixL (SqL.of er) (atI_get rfl ev2) ?_
  walk_at "rd"
  refine r_itd (fun c3 => ?_) (fun c3 => ?_)
  · walk_at "rd"
    refine r_ixT (SqT.of ht) (atI_get (j := 1) rfl rfl) ?_
    walk_at "rd"
    refine r_ixT (SqT.of ht) (atI_get (j := 2) rfl rfl) ?_
    walk_at "rd"
    refine r_ixT (SqT.of ht) (atI_get (j := 4) rfl rfl) ?_
    walk_at "rd"
    exact k _ _ s1
  walk_at "rd"
  refine r_itd (fun c4 => ?_) (fun c4 => ?_)
  · obtain ⟨v, ev3⟩ : ∃ v, xs[i]? = some v := ⟨_, List.getElem?_eq_getElem (by rw [lx]; exact hi)⟩
    obtain ⟨y, ey, q, rfl, hq⟩ := Paired.get_ex px ev3
    rw [List.getElem?_map, ei] at ey
    cases ey
    walk_at "rd"
    refine r_ixL (SqL.of (s1 _ _ h.top)) (atI_get rfl ev) ?_
    walk_at "rd"
    refine r_ixL (SqL.of (s1 _ _ hl)) (atI_get rfl ev3) ?_
    walk_at "rd"
    refine ⟨q, t, x, rfl, s1 _ _ hq, ht, oko.ln x (List.mem_of_getElem? ei), ?_⟩
    walk_at "rd"
    refine r_ixT (SqT.of ht) (atI_get (j := 5) rfl rfl) ?_
    walk_at "rd"
    exact k _ _ s1
  walk_at "rd"
  refine r_ixT (SqT.of ht) (atI_get (j := 2) rfl rfl) ?_
  walk_at "rd"
  refine r_ixT (SqT.of ht) (atI_get (j := 3) rfl rfl) ?_
  walk_at "rd"
  exact k _ _ s1
/-- the orders as data: is there one -/
def dOrs (os : List Od) : PyData := .list (os.map fun o => dRows ((o.lines.map Ln.base).map ltRow))
theorem base_rws {o : Od} (h : ∀ l, l ∈ o.lines → l.inv) : Rws ((o.lines.map Ln.base).map ltRow) := lt_rws fun t ht => by
  obtain ⟨l, hl, rfl⟩ := List.mem_map.mp ht
  exact item_str (h l hl).it
theorem dOrs_lay0 : ∀ {os : List Od}, (∀ o, o ∈ os → o.inv) → PyData.canLayAll0 (os.map fun o => dRows ((o.lines.map Ln.base).map ltRow)) = true ∧ PyData.depthAll (os.map fun o => dRows ((o.lines.map Ln.base).map ltRow)) ≤ 2
  | [], _ => ⟨by simp only [List.map_nil, PyData.canLayAll0], by simp only [List.map_nil, PyData.depthAll]; omega⟩
  | o :: r, h => by
    obtain ⟨a, b⟩ := dRows_lay (base_rws (h o List.mem_cons_self).ln)
    obtain ⟨c, d⟩ := dOrs_lay0 (os := r) fun x hx => h x (List.mem_cons_of_mem _ hx)
    refine ⟨?_, ?_⟩
    · simp only [List.map_cons, PyData.canLayAll0, a, c, Bool.and_self]
    · simp only [List.map_cons, PyData.depthAll]; omega
theorem dOrs_all {K : PySem.W.Frag} {H : Hp} : ∀ {as : List Addr} {os : List Od}, as.length = os.length → (∀ o, o ∈ os → o.inv) → (∀ (j : Nat) l o, as[j]? = some l → os[j]? = some o → ∃ xs, H l = some (.lst xs) ∧ LtsAt H xs (o.lines.map Ln.base)) → DpAll K H (as.map V.ref) (os.map fun o => dRows ((o.lines.map Ln.base).map ltRow))
  | [], [], _, _, _ => .nil
  | [], o :: r, h, _, _ => by simp at h
  | a :: s, [], h, _, _ => by simp at h
  | a :: s, o :: r, h, hi, at_ => by
    obtain ⟨xs, e, p⟩ := at_ 0 a o rfl rfl
    exact .cons (dRows_dp (SqL.of e) (lt_rows p) (base_rws (hi o List.mem_cons_self).ln)) (dOrs_all (by simpa using h) (fun x hx => hi x (List.mem_cons_of_mem _ hx)) fun j l o' e1 e2 => at_ (j + 1) l o' e1 e2)
theorem r_eqOrs {H : Hp} {Q : VK} {K : PySem.W.Frag} {a e : Addr} {as : List Addr} {os : List Od} (hi : ∀ o, o ∈ os → o.inv) (h : OrAt H a as os) (he : H e = some (.lst [])) (k : Q (.bl (decide (os = []))) H) : rEqD K (.ref a) (.ref e) H Q := by
  have sh : SeqAt.shaped (dOrs os) = true := by
    obtain ⟨a, b⟩ := dOrs_lay0 hi
    have a1 : PyData.canLay0 (dOrs os) = true := by simp only [dOrs, PyData.canLay0]; exact a
    have b1 : PyData.depth (dOrs os) ≤ 3 := by simp only [dOrs, PyData.depth]; omega
    unfold SeqAt.shaped
    rw [a1, decide_eq_true (by omega)]
    rfl
  refine ⟨dOrs os, .list [], .lst (SqL.of h.top) (dOrs_all h.len hi h.at_), .lst (SqL.of he) .nil, sh, by decide +kernel, ?_⟩
  have q : PyData.eqv (dOrs os) (.list []) = decide (os = []) := by
    cases os with
    | nil => simp [dOrs, PyData.eqv, PyData.eqvAll]
    | cons o r => simp [dOrs, PyData.eqv, PyData.eqvAll]
  rw [q]
  exact k
def spLDeedBy (K : PySem.W.Frag) : Sp := fun vs H Q _ => ∃ (c m : Int) (a : Addr) (as : List Addr) (b : Addr) (B : Bk) (L : Lay), vs = [.int c, .int m, .ref a, .ref b] ∧ OrAt H a as B.each ∧ BookAt K H b B L ∧ B.ok ∧ (∀ o, o ∈ B.each → o.inv) ∧
  ∀ v d H', Same H H' → DdAt (fun l => H l = none) H' v d → d.good → (∀ ls, d = .ord ls → Good ls ∧ B.each.length < 4) → Q v H'
theorem len_LDeedBy {K : PySem.W.Frag} {vs : List V} {H : Hp} {Q : VK} {E : XK} (h : spLDeedBy K vs H Q E) : vs.length = 4 := by
  obtain ⟨_, _, _, _, _, _, _, rfl, _⟩ := h; rfl
theorem ok_LDeedBy {P : Program} {w : World} {K : PySem.W.Frag} {mg : Str → Option Value} {base : Heap} (T : Tx w K mg) : FnOk P w K mg base CX0 7 (He.fAd K dLDeedBy.at_) (fdO K dLDeedBy.at_) P_LDeedBy (spLDeedBy K) := by
  refine T.f_LDeedBy.ok sc_LDeedBy (fun vs H Q E h => len_LDeedBy h) (fun cdv A outer s H vs Q E hr h => ⟨_, PSs.nox ((pss_cons (ps_set (i := 4) sc_LDeedBy.nd rfl (Or.inl rfl) (pe_lst (pa_cons pe_str (pa_cons pe_str (pa_cons pe_str (pa_cons pe_str (pa_cons pe_str (pa_cons pe_str (pa_cons pe_str (pa_cons pe_str (pa_cons pe_str pa_nil)))))))))))
      (pss_cons (ps_set (i := 4) sc_LDeedBy.nd rfl (Or.inl rfl) (pe_op op_cat (pv 4) (pe_lst (pa_cons pe_str (pa_cons pe_str (pa_cons pe_str pa_nil))))))
      (pss_cons (ps_set (i := 5) sc_LDeedBy.nd rfl (Or.inl rfl) (pe_ix ix_list (pv 4) (pe_op op_mod (pe_op op_mod (pe_op op_mul (pv 0) pe_int) pe_int) pe_int) (fun _ _ => rfl)))
      (pss_cons (ps_if (PW.pt (pw_or (pt_cmpR (op_eqD hr.units) (pv 2) (pe_lst pa_nil) (nomark _)) (pw_or1 (PW.pt (pw_and (pt_cmpR op_eq (pv 5) pe_str (nomark _)) (pw_and1 (pt_cmpR op_lt (pe_callB call_len_seq (by rfl) T.b_len (by decide +kernel) (pa_cons (pv 2) pa_nil)) pe_int (nomark _)))))))) (pss_one (ps_ret (pe_tup (pa_cons pe_str (pa_cons (pe_call (ok_LLinesBy T) (hr.mono (by decide)) rfl T.g_LLinesBy T.f_LLinesBy.kp T.b_LLinesBy .nil pass0 (pa_cons (pv 1) pa_nil)) pa_nil))))) pss_nil)
      (pss_cons (ps_if (pt_cmpR op_eq (pv 5) pe_str (nomark _)) (pss_one (ps_set (i := 5) sc_LDeedBy.nd rfl (Or.inl rfl) pe_str)) pss_nil)
      (pss_cons (ps_set (i := 6) sc_LDeedBy.nd rfl (Or.inl rfl) (pe_call (ok_LPlaceBy T) (hr.mono (by decide)) rfl T.g_LPlaceBy T.f_LPlaceBy.kp T.b_LPlaceBy .nil pass0 (pa_cons (pv 0) (pa_cons pe_int (pa_cons (pe_callB call_len_seq (by rfl) T.b_len (by decide +kernel) (pa_cons (pv 2) pa_nil)) pa_nil)))))
      (pss_cons (ps_if (PW.pt (pw_or (pt_cmpR op_eq (pv 5) pe_str (nomark _)) (pw_or1 (pt_cmpR op_eq (pv 5) pe_str (nomark _))))) (pss_one (ps_ret (pe_tup (pa_cons (pv 5) (pa_cons (pv 6) (pa_cons (pe_call (ok_LNumberBy T) (hr.mono (by decide)) rfl T.g_LNumberBy T.f_LNumberBy.kp T.b_LNumberBy .nil pass0 (pa_cons (pv 1) (pa_cons (pe_call (ok_LMost T) (hr.mono (by decide)) rfl T.g_LMost T.f_LMost.kp T.b_LMost .nil pass0 (pa_cons (pv 5) (pa_cons (pv 6) (pa_cons pe_int (pa_cons (pv 2) (pa_cons (pv 3) pa_nil)))))) pa_nil))) pa_nil)))))) pss_nil)
      (pss_cons (ps_if (pt_cmpR op_eq (pv 5) pe_str (nomark _)) (pss_cons (ps_set (i := 7) sc_LDeedBy.nd rfl (Or.inl rfl) (pe_call (ok_LPlaceBy T) (hr.mono (by decide)) rfl T.g_LPlaceBy T.f_LPlaceBy.kp T.b_LPlaceBy .nil pass0 (pa_cons (pv 1) (pa_cons pe_int (pa_cons (pe_callB call_len_seq (by rfl) T.b_len (by decide +kernel) (pa_cons (pv 2) pa_nil)) pa_nil)))))
      (pss_one (ps_ret (pe_tup (pa_cons (pv 5) (pa_cons (pv 6) (pa_cons (pv 7) (pa_cons (pe_call (ok_LNumberBy T) (hr.mono (by decide)) rfl T.g_LNumberBy T.f_LNumberBy.kp T.b_LNumberBy .nil pass0 (pa_cons (pv 1) (pa_cons (pe_call (ok_LMost T) (hr.mono (by decide)) rfl T.g_LMost T.f_LMost.kp T.b_LMost .nil pass0 (pa_cons (pv 5) (pa_cons (pv 6) (pa_cons pe_int (pa_cons (pv 2) (pa_cons (pv 3) pa_nil)))))) pa_nil))) pa_nil)))))))) pss_nil)
      (pss_cons (ps_set (i := 8) sc_LDeedBy.nd rfl (Or.inl rfl) pe_int)
      (pss_cons (ps_if (pt_chain op_le op_lt pe_int (pv 6) (pe_callB call_len_seq (by rfl) T.b_len (by decide +kernel) (pa_cons (pv 2) pa_nil))) (pss_one (ps_set (i := 8) sc_LDeedBy.nd rfl (Or.inl rfl) (pe_callB call_len_seq (by rfl) T.b_len (by decide +kernel) (pa_cons (pe_ix ix_list (pv 2) (pv 6) (fun _ _ => rfl)) pa_nil)))) pss_nil)
      (pss_cons (ps_set (i := 9) sc_LDeedBy.nd rfl (Or.inl rfl) (pe_call (ok_LPlaceBy T) (hr.mono (by decide)) rfl T.g_LPlaceBy T.f_LPlaceBy.kp T.b_LPlaceBy .nil pass0 (pa_cons (pv 0) (pa_cons pe_int (pa_cons (pv 8) pa_nil)))))
      (pss_one (ps_ret (pe_tup (pa_cons (pv 5) (pa_cons (pv 6) (pa_cons (pv 9) (pa_cons (pe_call (ok_LNumberBy T) (hr.mono (by decide)) rfl T.g_LNumberBy T.f_LNumberBy.kp T.b_LNumberBy .nil pass0 (pa_cons (pv 1) (pa_cons (pe_call (ok_LMost T) (hr.mono (by decide)) rfl T.g_LMost T.f_LMost.kp T.b_LMost .nil pass0 (pa_cons (pv 5) (pa_cons (pv 6) (pa_cons (pv 9) (pa_cons (pv 2) (pa_cons (pv 3) pa_nil)))))) pa_nil))) pa_nil))))))))))))))))))), ?_⟩)
  obtain ⟨c, m, a, as, b, B, L, rfl, h, hb0, ok, hi, k⟩ := h
  obtain ⟨os, eos⟩ : ∃ os, os = B.each := ⟨_, rfl⟩
  rw [← eos] at h k hi
  walk_at "rd"
  refine r_mk (by simp) fun w1 hw1 => ?_
  walk_at "rd"
  refine r_mk (by simp) fun w2 hw2 => ?_
  refine ⟨w1, w2, _, _, rfl, rfl, by rw [upd_ne (ne_of_none upd_same hw2)]; exact upd_same, upd_same, by show 9 + 3 ≤ sizeLine; rw [sizeLine_eq]; decide, fun w3 hw3 => ?_⟩
  have s3 := ((same_upd (o := .lst [.str "deliver", .str "deliver", .str "deliver", .str "deliver", .str "back", .str "swap", .str "credit", .str "pay", .str "pay"]) hw1).trans (same_upd (o := .lst [.str "refund", .str "move", .str "order"]) hw2)).trans (same_upd (o := .lst words12) hw3)
  have e3 : upd (upd (upd H w1 (.lst [.str "deliver", .str "deliver", .str "deliver", .str "deliver", .str "back", .str "swap", .str "credit", .str "pay", .str "pay"])) w2 (.lst [.str "refund", .str "move", .str "order"])) w3 (.lst words12) w3 = some (.lst words12) := upd_same
  change tSeq _ _ _ _ (upd (upd (upd H w1 (.lst [.str "deliver", .str "deliver", .str "deliver", .str "deliver", .str "back", .str "swap", .str "credit", .str "pay", .str "pay"])) w2 (.lst [.str "refund", .str "move", .str "order"])) w3 (.lst words12))
  revert s3 e3
  generalize upd (upd (upd H w1 (.lst [.str "deliver", .str "deliver", .str "deliver", .str "deliver", .str "back", .str "swap", .str "credit", .str "pay", .str "pay"])) w2 (.lst [.str "refund", .str "move", .str "order"])) w3 (.lst words12) = H3
  intro s3 e3
  have h3 := h.same s3
  walk_at "rd"
  walk_at "ml"
  walk_at "rd"
  walk_at "md"
  walk_at "rd"
  walk_at "md"
  obtain ⟨w', hw, ew⟩ := word12 (c * 48271 % 10007)
  refine r_ixL (SqL.of e3) ew ?_
  walk_at "rs"
  with_reducible refine r_seq ?_
  with_reducible refine ifj (fun b H' => Same H3 H' ∧ (b = true → os.length < 4) ∧ (b = false → os ≠ [])) ?_ fun QB hQB => ?_
  rotate_left
  · walk_at "rd"
    refine r_mk (by simp) fun e he => ?_
    have se := same_upd (o := .lst []) he
    refine r_eqOrs hi (h3.same se) upd_same ?_
    walk_at "rd"
    refine r_itd (fun c1 => ?_) (fun c1 => ?_)
    · exact hQB _ _ ⟨se, fun _ => (by rw [c1]; decide), fun z => by cases z⟩
    · walk_at "rd"
      refine r_itd (fun c2 => ?_) (fun c2 => ?_)
      · walk_at "rd"
        refine ⟨a, _, rfl, .inl (SqL.of (h3.same se).top), ?_⟩
        walk_at "rd"
        rw [List.length_map, h.len]
        refine hQB _ _ ⟨se, fun z => ?_, fun _ => c1⟩
        have := of_decide_eq_true z
        omega
      · exact hQB _ _ ⟨se, fun z => (by cases z), fun _ => c1⟩
  rintro bb H4 ⟨s4, b1, b2⟩
  have h4 := h3.same s4
  have hb4 := hb0.same (s3.trans s4)
  have s04 := s3.trans s4
  refine r_itb (fun cb => ?_) (fun cb => ?_)
  · walk_at "rd"
    refine ⟨m, rfl, fun r ls H5 gl s5 hr ⟨xs, e5, p5⟩ => ?_⟩
    walk_at "rd"
    refine r_mk (by simp) fun t ht => ?_
    have s6 := same_upd (o := .tup [.str "order", .ref r]) ht
    refine k _ (.ord ls) _ (s04.trans (s5.trans s6)) ⟨t, r, xs, rfl, upd_same, s6 _ _ e5, Same.free s04 hr, (But.of (S := fun _ => False) s6).lts p5⟩ trivial fun ls' q => ?_
    cases q
    exact ⟨gl, b1 cb⟩
  walk_at "rs"
  with_reducible refine r_join (fun σ' H' => H4 = H' ∧ ∃ w2 : Str, (wLn w2 ∨ wMo w2 ∨ w2 = "move") ∧ σ' = [some (.int c), some (.int m), some (.ref a), some (.ref b), some (.ref w3), some (.str w2), none, none, none, none]) ?_ fun N hN => ?_
  rotate_left
  · walk_at "rd"
    refine r_itd (fun c1 => ?_) (fun c1 => ?_)
    · walk_at "rd"
      exact hN _ _ ⟨rfl, _, .inr (.inr rfl), rfl⟩
    · walk_at "rd"
      refine hN _ _ ⟨rfl, w', ?_, rfl⟩
      rcases hw with q | q | q | q
      · exact .inl q
      · exact .inr (.inl q)
      · exact .inr (.inr q)
      · exact absurd q c1
  rintro σ' _ ⟨rfl, w2, hw2, rfl⟩
  walk_at "rd"
  refine ⟨a, _, rfl, .inl (SqL.of h4.top), ?_⟩
  walk_at "rd"
  refine ⟨_, _, _, rfl, by decide, fun at' => ?_⟩
  walk_at "rd"
  have lnmo : wLn w2 → ¬ w2 = "pay" ∧ ¬ w2 = "refund" ∧ ¬ w2 = "move" := fun g => ⟨(gln g).2.2.1, (gln g).2.2.2, (gln g).2.1⟩
  rcases hw2 with g | g | g
  rotate_left
  · -- money
    have fin : ∀ H6 t n, Same H4 H6 → H6 t = none → Q (.ref t) (upd H6 t (.tup [.str w2, .int at', .int n])) := fun H6 t n s6 ht => by
      have s7 := same_upd (o := .tup [.str w2, .int at', .int n]) ht
      exact k _ (.mo w2 at' n) _ (s04.trans (s6.trans s7)) ⟨t, rfl, upd_same⟩ g fun ls q => by cases q
    rcases g with c1 | c1
    · refine r_ity c1 ?_
      walk_at "rd"
      refine ⟨w2, at', 0, a, as, b, B, L, rfl, by rw [← eos]; exact h4, hb4, ok, fun _ H5 s5 => ?_⟩
      walk_at "rd"
      refine ⟨_, _, rfl, fun n => ?_⟩
      walk_at "rd"
      exact r_mk (by simp) fun t ht => fin _ _ _ s5 ht
    · refine r_itz (by rw [c1]; decide +kernel) ?_
      walk_at "rd"
      refine r_ity c1 ?_
      walk_at "rd"
      refine ⟨w2, at', 0, a, as, b, B, L, rfl, by rw [← eos]; exact h4, hb4, ok, fun _ H5 s5 => ?_⟩
      walk_at "rd"
      refine ⟨_, _, rfl, fun n => ?_⟩
      walk_at "rd"
      exact r_mk (by simp) fun t ht => fin _ _ _ s5 ht
  · -- move
    refine r_itz (by rw [g]; decide +kernel) ?_
    walk_at "rd"
    refine r_itz (by rw [g]; decide +kernel) ?_
    walk_at "rd"
    refine r_ity g ?_
    walk_at "rd"
    refine ⟨a, _, rfl, .inl (SqL.of h4.top), ?_⟩
    walk_at "rd"
    refine ⟨_, _, _, rfl, by decide, fun ot => ?_⟩
    walk_at "rd"
    refine ⟨w2, at', 0, a, as, b, B, L, rfl, by rw [← eos]; exact h4, hb4, ok, fun _ H5 s5 => ?_⟩
    walk_at "rd"
    refine ⟨_, _, rfl, fun n => ?_⟩
    walk_at "rd"
    refine r_mk (by simp) fun t ht => ?_
    have s7 := same_upd (o := .tup [.str w2, .int at', .int ot, .int n]) ht
    refine k _ (.mv at' ot n) _ (s04.trans (s5.trans s7)) ⟨t, rfl, ?_⟩ trivial fun ls q => by cases q
    rw [upd_same, g]
  · obtain ⟨n1, n2, n3⟩ := lnmo g
    refine r_itz n1 ?_
    walk_at "rd"
    refine r_itz n2 ?_
    walk_at "rd"
    refine r_itz n3 ?_
    walk_at "rs"
    walk_at "rd1"
    walk_at "rs"
    with_reducible refine r_join (fun σ' H' => H4 = H' ∧ ∃ sz : Int, σ' = [some (.int c), some (.int m), some (.ref a), some (.ref b), some (.ref w3), some (.str w2), some (.int at'), none, some (.int sz), none]) ?_ fun N hN => ?_
    rotate_left
    · walk_at "rd"
      refine r_itd (fun c1 => ?_) (fun c1 => ?_)
      · walk_at "rd"
        refine ⟨a, _, rfl, .inl (SqL.of h4.top), ?_⟩
        walk_at "rd"
        rw [List.length_map, h.len]
        refine r_itd (fun c2 => ?_) (fun c2 => ?_)
        · walk_at "rd"
          obtain ⟨j, rfl⟩ : ∃ j : Nat, at' = (j : Int) := ⟨at'.toNat, by omega⟩
          have hj : j < os.length := by omega
          obtain ⟨l, el, ev, xs, hl, px⟩ := or_at h4 (List.getElem?_eq_getElem hj)
          refine r_ixL (SqL.of h4.top) (atI_get rfl ev) ?_
          walk_at "rd"
          refine ⟨_, _, rfl, .inl (SqL.of hl), ?_⟩
          walk_at "rd"
          exact hN _ _ ⟨rfl, _, rfl⟩
        · walk_at "rd"
          exact hN _ _ ⟨rfl, _, rfl⟩
      · walk_at "rd"
        exact hN _ _ ⟨rfl, _, rfl⟩
    rintro σ' _ ⟨rfl, sz, rfl⟩
    walk_at "rd"
    refine ⟨_, _, _, rfl, by decide, fun pl => ?_⟩
    walk_at "rd"
    refine ⟨w2, at', pl, a, as, b, B, L, rfl, by rw [← eos]; exact h4, hb4, ok, fun _ H5 s5 => ?_⟩
    walk_at "rd"
    refine ⟨_, _, rfl, fun n => ?_⟩
    walk_at "rd"
    refine r_mk (by simp) fun t ht => ?_
    have s7 := same_upd (o := .tup [.str w2, .int at', .int pl, .int n]) ht
    exact k _ (.ln w2 at' pl n) _ (s04.trans (s5.trans s7)) ⟨t, rfl, upd_same⟩ g fun ls q => by cases q

/-! ### a line, an order stands -/
def spLLineStands (_ : PySem.W.Frag) : Sp := fun vs H Q _ => ∃ (t u : Addr) (l : Ln), vs = [.ref t, .ref u] ∧ H t = some (.tup [.str l.item, .int l.ordered, .int l.cents, .int l.pack]) ∧ H u = some (.tup (lnTold l)) ∧ l.inv ∧ ∀ H', Same H H' → Q (.bl true) H'
theorem len_LLineStands {K : PySem.W.Frag} {vs : List V} {H : Hp} {Q : VK} {E : XK} (h : spLLineStands K vs H Q E) : vs.length = 2 := by
  obtain ⟨_, _, _, rfl, _⟩ := h; rfl
theorem ok_LLineStands {P : Program} {w : World} {K : PySem.W.Frag} {mg : Str → Option Value} {base : Heap} (T : Tx w K mg) : FnOk P w K mg base CX0 2 (He.fAd K dLLineStands.at_) (fdO K dLLineStands.at_) P_LLineStands (spLLineStands K) := by
  refine T.f_LLineStands.ok sc_LLineStands (fun vs H Q E h => len_LLineStands h) (fun cdv A outer s H vs Q E hr h => ⟨_, PSs.nox ((pss_cons (ps_if (PW.pt (pw_or (pt_not (pt_val (pe_callB call_isi (by rfl) T.b_isinstance (by decide +kernel) (pa_cons (pv 1) (pa_cons (pe_bltn (v := .ty "tuple") (by rfl) T.b_tuple (by decide +kernel) rfl) pa_nil))))) (pw_or (pt_cmpR op_ne (pe_callB call_len_seq (by rfl) T.b_len (by decide +kernel) (pa_cons (pv 1) pa_nil)) pe_int (nomark _)) (pw_or (pt_cmpR (op_neD hr.units) (pe_ix ix_tup (pv 1) pe_int (fun _ _ => rfl)) (pe_ix ix_tup (pv 0) pe_int (fun _ _ => rfl)) (nomark _)) (pw_or1 (pt_cmpR (op_neD hr.units) (pe_ix ix_tup (pv 1) pe_int (fun _ _ => rfl)) (pe_ix ix_tup (pv 0) pe_int (fun _ _ => rfl)) (nomark _))))))) (pss_one (ps_ret pe_bl)) pss_nil)
      (pss_cons (ps_for PassesOwn.never rfl (pi_tup (pe_slice sl_tup (pv 1) (po_some pe_int) po_none)) (pg_name (i := 2) sc_LLineStands.nd rfl (Or.inl rfl)) (pss_one (ps_if (pt_not (pt_val (pe_call (ok_LWhole T) (hr.mono (by decide)) rfl T.g_LWhole T.f_LWhole.kp T.b_LWhole .nil pass0 (pa_cons (pv 2) pa_nil)))) (pss_one (ps_ret pe_bl)) pss_nil)))
      (pss_cons (ps_if (pt_not (pt_chain4 op_le op_le op_le op_le pe_int (pe_ix ix_tup (pv 1) pe_int (fun _ _ => rfl)) (pe_ix ix_tup (pv 1) pe_int (fun _ _ => rfl)) (pe_ix ix_tup (pv 1) pe_int (fun _ _ => rfl)) (pe_op op_add (pe_ix ix_tup (pv 1) pe_int (fun _ _ => rfl)) (pe_ix ix_tup (pv 1) pe_int (fun _ _ => rfl))))) (pss_one (ps_ret pe_bl)) pss_nil)
      (pss_one (ps_ret (pe_and (pe_cmpR op_le (pe_op op_sub (pe_ix ix_tup (pv 1) pe_int (fun _ _ => rfl)) (pe_ix ix_tup (pv 1) pe_int (fun _ _ => rfl))) (pe_ix ix_tup (pv 0) pe_int (fun _ _ => rfl)) (nomark _)) (pe_one (pe_chain op_le op_le pe_int (pe_ix ix_tup (pv 1) pe_int (fun _ _ => rfl)) (pe_call (ok_LKeptWorth T) (hr.mono (by decide)) rfl T.g_LKeptWorth T.f_LKeptWorth.kp T.b_LKeptWorth .nil pass0 (pa_cons (pv 0) (pa_cons (pv 1) pa_nil)))))))))))), ?_⟩)
  obtain ⟨t, u, l, rfl, ht, hu, i, k⟩ := h
  have sc : Sc (.str l.item) := .inr ⟨_, rfl, item_str i.it⟩
  walk_at "rd"
  refine r_is_tup_tuple hu ?_
  walk_at "rd"
  refine ⟨u, _, rfl, .inr (SqT.of hu), ?_⟩
  walk_at "rd"
  refine r_itn (fun z => absurd rfl z) (fun _ => ?_)
  walk_at "rd"
  refine r_ixT (SqT.of hu) (atI_get (j := 0) rfl rfl) ?_
  walk_at "rd"
  refine r_ixT (SqT.of ht) (atI_get (j := 0) rfl rfl) ?_
  refine r_neSS sc sc ?_
  walk_at "rd"
  refine r_itn (fun z => absurd rfl z) (fun _ => ?_)
  walk_at "rd"
  refine r_ixT (SqT.of hu) (atI_get (j := 1) rfl rfl) ?_
  walk_at "rd"
  refine r_ixT (SqT.of ht) (atI_get (j := 1) rfl rfl) ?_
  refine r_neSS Sc.int Sc.int ?_
  walk_at "rd"
  refine r_itn (fun z => absurd rfl z) (fun _ => ?_)
  walk_at "rd"
  refine ⟨u, _, rfl, SqT.of hu, (by rintro ⟨z, _⟩; revert z; show ¬ (min 1 6 = 0); decide), fun p hp => ?_⟩
  have s2 := same_upd (o := .tup (cutV (lnTold l) (some 1) none)) hp
  have ep : upd H p (.tup (cutV (lnTold l) (some 1) none)) p = some (.tup (cutV (lnTold l) (some 1) none)) := upd_same
  revert s2 ep
  generalize upd H p (.tup (cutV (lnTold l) (some 1) none)) = H2
  intro s2 ep
  rw [show cutV (lnTold l) (some 1) none = (lnTold l).drop 1 from cut_from (k := 1)] at ep
  refine ⟨p, rfl, ⟨_, SqT.of ep⟩, for_tup (K := K) (a := p) (xs := (lnTold l).drop 1) (fun i σ H' => ∃ v, σ = [some (.ref t), some (.ref u), v] ∧ H' = H2) ⟨none, rfl, rfl⟩ (fun i σ H' _ ⟨_, _, e⟩ => by rw [e]; exact SqT.of ep) ?_ ?_⟩
  · rintro i x σ H' hx ⟨w', rfl, rfl⟩
    obtain ⟨z, rfl⟩ : ∃ z, x = V.int z := by
      have hm := List.mem_of_getElem? hx
      simp [lnTold] at hm
      rcases hm with e | e | e | e | e <;> exact ⟨_, e⟩
    walk_at "rd"
    refine ⟨z, rfl, ?_⟩
    walk_at "rd"
    exact ⟨_, rfl, rfl⟩
  · rintro σ H' ⟨w', rfl, rfl⟩
    have ht2 := s2 _ _ ht
    have hu2 := s2 _ _ hu
    have ia := i.a
    have ib := i.b
    have ic := i.c
    have id' := i.d
    walk_at "rd"
    refine r_c4 ?_
    walk_at "rd"
    refine r_lk ?_
    walk_at "rd"
    refine r_ixT (SqT.of hu2) (atI_get (j := 4) rfl rfl) ?_
    walk_at "rd"
    refine r_ity i.a ?_
    refine r_lk ?_
    walk_at "rd"
    refine r_ixT (SqT.of hu2) (atI_get (j := 3) rfl rfl) ?_
    walk_at "rd"
    refine r_ity i.b ?_
    refine r_lk ?_
    walk_at "rd"
    refine r_ixT (SqT.of hu2) (atI_get (j := 2) rfl rfl) ?_
    walk_at "rd"
    refine r_ity i.c ?_
    refine r_le ?_
    walk_at "rd"
    refine r_ixT (SqT.of hu2) (atI_get (j := 1) rfl rfl) ?_
    walk_at "rd"
    refine r_ixT (SqT.of hu2) (atI_get (j := 4) rfl rfl) ?_
    walk_at "rd"
    refine r_itn (fun z => absurd i.d z) (fun _ => ?_)
    walk_at "rd"
    refine r_ixT (SqT.of hu2) (atI_get (j := 2) rfl rfl) ?_
    walk_at "rd"
    refine r_ixT (SqT.of hu2) (atI_get (j := 3) rfl rfl) ?_
    walk_at "rd"
    refine r_ixT (SqT.of ht2) (atI_get (j := 1) rfl rfl) ?_
    walk_at "rd"
    refine r_ity (by omega) ?_
    walk_at "rd"
    refine r_ixT (SqT.of hu2) (atI_get (j := 5) rfl rfl) ?_
    walk_at "rd"
    refine r_ity i.e ?_
    walk_at "rd"
    refine ⟨t, u, l, rfl, ht2, hu2, i.ok, ?_⟩
    walk_at "rd"
    rw [decide_eq_true i.f]
    exact k _ s2
def spLOrderStands (K : PySem.W.Frag) : Sp := fun vs H Q _ => ∃ (b : Addr) (B : Bk) (L : Lay) (j : Nat) (l : Addr) (xs : List V) (o : Od), vs = [.ref b, .int (j : Int), .ref l] ∧ BookAt K H b B L ∧ B.ok ∧ B.each[j]? = some o ∧ o.inv ∧ o.marks.length ≤ 10000 ∧ H l = some (.lst xs) ∧ LtsAt H xs (o.lines.map Ln.base) ∧ ∀ H', Same H H' → Q (.bl true) H'
theorem len_LOrderStands {K : PySem.W.Frag} {vs : List V} {H : Hp} {Q : VK} {E : XK} (h : spLOrderStands K vs H Q E) : vs.length = 3 := by
  obtain ⟨_, _, _, _, _, _, _, rfl, _⟩ := h; rfl
theorem ok_LOrderStands {P : Program} {w : World} {K : PySem.W.Frag} {mg : Str → Option Value} {base : Heap} (T : Tx w K mg) : FnOk P w K mg base CX0 6 (He.fAd K dLOrderStands.at_) (fdO K dLOrderStands.at_) P_LOrderStands (spLOrderStands K) := by
  refine T.f_LOrderStands.ok sc_LOrderStands (fun vs H Q E h => len_LOrderStands h) (fun cdv A outer s H vs Q E hr h => ⟨_, PSs.nox ((pss_cons (ps_set (i := 3) sc_LOrderStands.nd rfl (Or.inl rfl) (pe_meth (pv 0) T.cl_Book T.m_Book_told (ok_BookTold T) (hr.mono (by decide)) T.b_BookTold .nil passL (pa_cons (pv 1) pa_nil)))
      (pss_cons (ps_set (i := 4) sc_LOrderStands.nd rfl (Or.inl rfl) (pe_meth (pv 0) T.cl_Book T.m_Book_rows (ok_BookRows T) (hr.mono (by decide)) T.b_BookRows .nil passL (pa_cons (pv 1) pa_nil)))
      (pss_cons (ps_set (i := 5) sc_LOrderStands.nd rfl (Or.inl rfl) (pe_meth (pv 0) T.cl_Book T.m_Book_paid (ok_BookPaid T) (hr.mono (by decide)) T.b_BookPaid .nil passL (pa_cons (pv 1) pa_nil)))
      (pss_cons (ps_set (i := 6) sc_LOrderStands.nd rfl (Or.inl rfl) (pe_meth (pv 0) T.cl_Book T.m_Book_owed (ok_BookOwed T) (hr.mono (by decide)) T.b_BookOwed .nil passL (pa_cons (pv 1) pa_nil)))
      (pss_cons (ps_if (PW.pt (pw_or (pt_not (pt_val (pe_callB call_isi (by rfl) T.b_isinstance (by decide +kernel) (pa_cons (pv 3) (pa_cons (pe_bltn (v := .ty "list") (by rfl) T.b_list (by decide +kernel) rfl) pa_nil))))) (pw_or (pt_cmpR op_ne (pe_callB call_len_seq (by rfl) T.b_len (by decide +kernel) (pa_cons (pv 3) pa_nil)) (pe_callB call_len_seq (by rfl) T.b_len (by decide +kernel) (pa_cons (pv 2) pa_nil)) (nomark _)) (pw_or (pt_not (pt_val (pe_call (ok_LWhole T) (hr.mono (by decide)) rfl T.g_LWhole T.f_LWhole.kp T.b_LWhole .nil pass0 (pa_cons (pv 5) pa_nil)))) (pw_or1 (pt_not (pt_val (pe_call (ok_LWhole T) (hr.mono (by decide)) rfl T.g_LWhole T.f_LWhole.kp T.b_LWhole .nil pass0 (pa_cons (pv 6) pa_nil))))))))) (pss_one (ps_ret pe_bl)) pss_nil)
      (pss_cons (ps_set (i := 7) sc_LOrderStands.nd rfl (Or.inl rfl) pe_int)
      (pss_cons (ps_for PassesOwn.never rfl (pi_range1 (by rfl) T.b_range (pa_cons (pe_callB call_len_seq (by rfl) T.b_len (by decide +kernel) (pa_cons (pv 2) pa_nil)) pa_nil)) (pg_name (i := 8) sc_LOrderStands.nd rfl (Or.inl rfl)) (pss_cons (ps_if (pt_not (pt_val (pe_call (ok_LLineStands T) (hr.mono (by decide)) rfl T.g_LLineStands T.f_LLineStands.kp T.b_LLineStands .nil pass0 (pa_cons (pe_ix ix_list (pv 2) (pv 8) (fun _ _ => rfl)) (pa_cons (pe_ix ix_list (pv 3) (pv 8) (fun _ _ => rfl)) pa_nil))))) (pss_one (ps_ret pe_bl)) pss_nil)
      (pss_one (ps_set (i := 7) sc_LOrderStands.nd rfl (Or.inl rfl) (pe_op op_sub (pe_op op_add (pv 7) (pe_call (ok_LKeptWorth T) (hr.mono (by decide)) rfl T.g_LKeptWorth T.f_LKeptWorth.kp T.b_LKeptWorth .nil pass0 (pa_cons (pe_ix ix_list (pv 2) (pv 8) (fun _ _ => rfl)) (pa_cons (pe_ix ix_list (pv 3) (pv 8) (fun _ _ => rfl)) pa_nil)))) (pe_ix ix_tup (pe_ix ix_list (pv 3) (pv 8) (fun _ _ => rfl)) pe_int (fun _ _ => rfl)))))))
      (pss_cons (ps_if (PW.pt (pw_or (pt_not (pt_val (pe_callB call_isi (by rfl) T.b_isinstance (by decide +kernel) (pa_cons (pv 4) (pa_cons (pe_bltn (v := .ty "list") (by rfl) T.b_list (by decide +kernel) rfl) pa_nil))))) (pw_or (pt_cmpR op_lt (pv 5) pe_int (nomark _)) (pw_or1 (pt_cmpR op_ne (pv 6) (pe_op op_sub (pv 7) (pv 5)) (nomark _)))))) (pss_one (ps_ret pe_bl)) pss_nil)
      (pss_cons (ps_for PassesOwn.never rfl (pi_list (pv 4)) (pg_name (i := 9) sc_LOrderStands.nd rfl (Or.inl rfl)) (pss_one (ps_if (PW.pt (pw_or (pt_not (pt_val (pe_callB call_isi (by rfl) T.b_isinstance (by decide +kernel) (pa_cons (pv 9) (pa_cons (pe_bltn (v := .ty "tuple") (by rfl) T.b_tuple (by decide +kernel) rfl) pa_nil))))) (pw_or (pt_cmpR op_ne (pe_callB call_len_seq (by rfl) T.b_len (by decide +kernel) (pa_cons (pv 9) pa_nil)) pe_int (nomark _)) (pw_or (pt_not (pt_val (pe_callB call_isi (by rfl) T.b_isinstance (by decide +kernel) (pa_cons (pe_ix ix_tup (pv 9) pe_int (fun _ _ => rfl)) (pa_cons (pe_bltn (v := .ty "str") (by rfl) T.b_str (by decide +kernel) rfl) pa_nil))))) (pw_or1 (pt_not (pt_val (pe_call (ok_LWhole T) (hr.mono (by decide)) rfl T.g_LWhole T.f_LWhole.kp T.b_LWhole .nil pass0 (pa_cons (pe_ix ix_tup (pv 9) pe_int (fun _ _ => rfl)) pa_nil))))))))) (pss_one (ps_ret pe_bl)) pss_nil)))
      (pss_one (ps_ret (pe_cmpR op_eq (pe_callB (cr_sum rfl) (by rfl) T.b_sum (by decide +kernel) (pa_cons (pe_lc (own := [("_law_row", 9)]) (g := gName 9) (tt := tYes) rfl sc_LOrderStands.nd (pi_list (pv 4)) (blkOk_by (N := N_LOrderStands) (sc := defScope sLOrderStands) (by decide +kernel)) (fun _ _ _ _ _ => pg_name (i := 9) sc_LOrderStands.nd rfl (Or.inl rfl)) (fun _ _ _ _ _ => pts_nil) (fun _ _ _ _ _ => (pe_ix (ix_tupK (K := K) rfl) (pv 9) pe_int (fun _ _ => rfl)))) pa_nil)) (pv 6) (nomark _)))))))))))))), ?_⟩)
  obtain ⟨b, B, L, j, l, xs, o, rfl, h, ok, eo, oi, mk, hl, px, k⟩ := h
  obtain ⟨dx, hb⟩ := h.ob
  have hj := (List.getElem?_eq_some_iff.mp eo).1
  have f20 := oi.few
  have bad : ∀ {P : Prop}, ¬ (0 ≤ (j : Int) ∧ (j : Int) < B.each.length) → P := fun z => absurd ⟨by omega, by omega⟩ z
  have eq : ∀ {j' : Nat} {o' : Od}, (j : Int) = (j' : Int) → B.each[j']? = some o' → o' = o := fun {j' o'} e1 e2 => by
    have : j = j' := by omega
    subst this
    rw [eo] at e2
    exact (Option.some.inj e2).symm
  have lx : xs.length = o.lines.length := by rw [px.length, List.length_map]
  walk_at "rd"
  refine r_m hb (no_Book_told _ _) ?_
  walk_at "rd"
  refine ⟨b, B, L, _, rfl, h, ok, fun z => bad z, fun j' o1 e1 e2 r H1 ts s1 nr er pr => ?_⟩
  obtain rfl := eq e1 e2
  have h1 := h.same s1
  walk_at "rd"
  refine r_m (s1 _ _ hb) (no_Book_rows _ _) ?_
  walk_at "rd"
  refine ⟨b, B, L, _, rfl, h1, ok, fun z => bad z, fun j' o2 e1 e2 q H2 ms s2 nq eq2 pq => ?_⟩
  obtain rfl := eq e1 e2
  have h2 := h1.same s2
  have s12 := s1.trans s2
  walk_at "rd"
  refine r_m (s12 _ _ hb) (no_Book_paid _ _) ?_
  walk_at "rd"
  refine ⟨b, B, L, _, rfl, h2, ok, fun z => bad z, fun j' o3 e1 e2 => ?_⟩
  obtain rfl := eq e1 e2
  walk_at "rd"
  refine r_m (s12 _ _ hb) (no_Book_owed _ _) ?_
  walk_at "rd"
  refine ⟨b, B, L, _, rfl, h2, ok, fun z => bad z, fun j' o4 e1 e2 H3 s3 => ?_⟩
  obtain rfl := eq e1 e2
  have s13 := s12.trans s3
  have er3 := s3 _ _ (s2 _ _ er)
  have eq3 := s3 _ _ eq2
  have hl3 := s13 _ _ hl
  have pr3 : Paired (TdAt H3) ts o4.lines := Paired.mapP pr fun _ _ ⟨t, e, w⟩ => ⟨t, e, s3 _ _ (s2 _ _ w)⟩
  have px3 : LtsAt H3 xs (o4.lines.map Ln.base) := (But.of (S := fun _ => False) s13).lts px
  have pq3 : Paired (MkAt H3) ms o4.marks := (But.of (S := fun _ => False) s3).mks pq
  have lt : ts.length = o4.lines.length := pr3.length
  walk_at "rd"
  refine r_is_lst_list er3 ?_
  walk_at "rd"
  refine ⟨r, _, rfl, .inl (SqL.of er3), ?_⟩
  walk_at "rd"
  refine ⟨l, _, rfl, .inl (SqL.of hl3), ?_⟩
  walk_at "rd"
  refine r_itn (fun z => absurd (by rw [lt, lx]) z) (fun _ => ?_)
  walk_at "rd"
  refine ⟨_, rfl, ?_⟩
  walk_at "rd"
  refine ⟨_, rfl, ?_⟩
  walk_at "rd"
  refine ⟨l, _, rfl, .inl (SqL.of hl3), ?_⟩
  rw [lx]
  walk_at "rd"
  refine ⟨_, rfl, by omega, by omega, for_range (lo := 0) (n := o4.lines.length) (fun i σ H' => ∃ v8, σ = [some (.ref b), some (.int (j : Int)), some (.ref l), some (.ref r), some (.ref q), some (.int o4.money), some (.int o4.owing), some (.int (((o4.lines.take i).map Ln.charge).sum)), v8, none] ∧ Same H3 H')
    ⟨none, rfl, Same.refl _⟩ ?_ ?_⟩
  · rintro i σ H4 hi ⟨v8, rfl, s4⟩
    rw [Int.zero_add]
    have el : o4.lines[i]? = some o4.lines[i] := List.getElem?_eq_getElem hi
    have li := oi.ln _ (List.getElem_mem hi)
    have tk : ((o4.lines.take (i + 1)).map Ln.charge).sum = ((o4.lines.take i).map Ln.charge).sum + o4.lines[i].charge := by
      rw [take_snoc el, List.map_append, List.sum_append]
      simp
    revert el li tk
    generalize o4.lines[i] = ln
    intro el li tk
    obtain ⟨v, ev⟩ : ∃ v, ts[i]? = some v := ⟨_, List.getElem?_eq_getElem (by omega)⟩
    obtain ⟨x', ex', t, rfl, ht⟩ := Paired.get_ex pr3 ev
    rw [el] at ex'
    cases ex'
    obtain ⟨v, ev3⟩ : ∃ v, xs[i]? = some v := ⟨_, List.getElem?_eq_getElem (by omega)⟩
    obtain ⟨y, ey, u, rfl, hu⟩ := Paired.get_ex px3 ev3
    rw [List.getElem?_map, el] at ey
    cases ey
    have er4 := s4 _ _ er3
    have hl4 := s4 _ _ hl3
    walk_at "rd"
    refine r_ixL (SqL.of hl4) (atI_get rfl ev3) ?_
    walk_at "rd"
    refine r_ixL (SqL.of er4) (atI_get rfl ev) ?_
    walk_at "rd"
    refine ⟨u, t, ln, rfl, s4 _ _ hu, s4 _ _ ht, li, fun H5 s5 => ?_⟩
    have s45 := s4.trans s5
    walk_at "rd"
    refine r_ixL (SqL.of (s5 _ _ hl4)) (atI_get rfl ev3) ?_
    walk_at "rd"
    refine r_ixL (SqL.of (s5 _ _ er4)) (atI_get rfl ev) ?_
    walk_at "rd"
    refine ⟨u, t, ln, rfl, s45 _ _ hu, s45 _ _ ht, li.ok, ?_⟩
    walk_at "rd"
    refine r_ixL (SqL.of (s5 _ _ er4)) (atI_get rfl ev) ?_
    walk_at "rd"
    refine r_ixT (SqT.of (s45 _ _ ht)) (atI_get (j := 5) rfl rfl) ?_
    walk_at "rd"
    refine ⟨some (.int (i : Int)), ?_, s45⟩
    rw [tk]
    have : ((o4.lines.take i).map Ln.charge).sum + ln.charge = ((o4.lines.take i).map Ln.charge).sum + ln.worth - ln.credited := by
      have : ln.charge = ln.worth - ln.credited := rfl
      omega
    rw [this]
    rfl
  · rintro σ H4 ⟨v8, rfl, s4⟩
    rw [List.take_length]
    have eq4 := s4 _ _ eq3
    have pq4 : Paired (MkAt H4) ms o4.marks := (But.of (S := fun _ => False) s4).mks pq3
    walk_at "rd"
    refine r_is_lst_list eq4 ?_
    walk_at "rd"
    refine r_itz (by have := oi.mo; omega) ?_
    walk_at "rd"
    refine r_itn (fun z => absurd rfl z) (fun _ => ?_)
    walk_at "rd"
    refine ⟨q, rfl, ⟨_, SqL.of eq4⟩, for_list (K := K) (a := q) (xs := ms) (fun i σ H' => ∃ v9, σ = [some (.ref b), some (.int (j : Int)), some (.ref l), some (.ref r), some (.ref q), some (.int o4.money), some (.int o4.owing), some (.int ((o4.lines.map Ln.charge).sum)), v8, v9] ∧ H' = H4)
      ⟨none, rfl, rfl⟩ (fun i σ H' _ ⟨_, _, e⟩ => by rw [e]; exact SqL.of eq4) ?_ ?_⟩
    · rintro i x σ H' hi ⟨v9, rfl, rfl⟩
      obtain ⟨m, em, t, rfl, ht⟩ := Paired.get_ex pq4 hi
      walk_at "rd"
      refine r_is_tup_tuple ht ?_
      walk_at "rd"
      refine ⟨t, _, rfl, .inr (SqT.of ht), ?_⟩
      walk_at "rd"
      refine r_itn (fun z => absurd rfl z) (fun _ => ?_)
      walk_at "rd"
      refine r_ixT (SqT.of ht) (atI_get (j := 0) rfl rfl) ?_
      walk_at "rd"
      refine r_ixT (SqT.of ht) (atI_get (j := 1) rfl rfl) ?_
      walk_at "rd"
      refine ⟨_, rfl, ?_⟩
      walk_at "rd"
      exact ⟨_, rfl, rfl⟩
    · rintro σ H' ⟨v9, rfl, rfl⟩
      have lm : ms.length = o4.marks.length := pq4.length
      walk_at "rd"
      refine lcp_list (ys := (o4.marks.map (·.2)).map V.int) (SqL.of eq4) (by simp [lm]) (by omega) ?_ ?_
      · intro i x y H' R ex ey s q
        obtain ⟨m, em, t, rfl, ht⟩ := Paired.get_ex pq4 ex
        rw [List.getElem?_map, List.getElem?_map, em] at ey
        cases ey
        walk_at "rd"
        refine r_ixT (SqT.of (s _ _ ht)) (atI_get (j := 1) rfl rfl) ?_
        exact q _ (Same.refl _)
      · intro D H5 hD s5 eD
        walk_at "rd"
        refine ⟨D, o4.marks.map (·.2), rfl, SqL.of eD, ?_⟩
        walk_at "rd"
        rw [decide_eq_true oi.su]
        exact k _ ((s13.trans s4).trans s5)
def spLAllStand (K : PySem.W.Frag) : Sp := fun vs H Q _ => ∃ (b : Addr) (B : Bk) (L : Lay) (a : Addr) (as : List Addr), vs = [.ref b, .ref a] ∧ BookAt K H b B L ∧ B.ok ∧ OrAt H a as B.each ∧ (∀ o, o ∈ B.each → o.inv) ∧ B.trail.length ≤ 10000 ∧ ∀ H', Same H H' → Q (.bl true) H'
theorem len_LAllStand {K : PySem.W.Frag} {vs : List V} {H : Hp} {Q : VK} {E : XK} (h : spLAllStand K vs H Q E) : vs.length = 2 := by
  obtain ⟨_, _, _, _, _, rfl, _⟩ := h; rfl
theorem ok_LAllStand {P : Program} {w : World} {K : PySem.W.Frag} {mg : Str → Option Value} {base : Heap} (T : Tx w K mg) : FnOk P w K mg base CX0 7 (He.fAd K dLAllStand.at_) (fdO K dLAllStand.at_) P_LAllStand (spLAllStand K) := by
  refine T.f_LAllStand.ok sc_LAllStand (fun vs H Q E h => len_LAllStand h) (fun cdv A outer s H vs Q E hr h => ⟨_, PSs.nox ((pss_cons (ps_for PassesOwn.never rfl (pi_range1 (by rfl) T.b_range (pa_cons (pe_callB call_len_seq (by rfl) T.b_len (by decide +kernel) (pa_cons (pv 1) pa_nil)) pa_nil)) (pg_name (i := 2) sc_LAllStand.nd rfl (Or.inl rfl)) (pss_one (ps_if (pt_not (pt_val (pe_call (ok_LOrderStands T) (hr.mono (by decide)) rfl T.g_LOrderStands T.f_LOrderStands.kp T.b_LOrderStands .nil pass0 (pa_cons (pv 0) (pa_cons (pv 2) (pa_cons (pe_ix ix_list (pv 1) (pv 2) (fun _ _ => rfl)) pa_nil)))))) (pss_one (ps_ret pe_bl)) pss_nil)))
      (pss_one (ps_ret (pe_cmpR op_eq (pe_meth0 (pv 0) T.cl_Book T.m_Book_orders (ok_BookOrders T) (hr.mono (by decide)) T.b_BookOrders .nil pass0) (pe_callB call_len_seq (by rfl) T.b_len (by decide +kernel) (pa_cons (pv 1) pa_nil)) (nomark _)))))), ?_⟩)
  obtain ⟨b, B, L, a, as, rfl, h, ok, O, inv, tr, k⟩ := h
  have f40 := ok.few
  walk_at "rd"
  refine ⟨a, _, rfl, .inl (SqL.of O.top), ?_⟩
  rw [List.length_map, O.len]
  walk_at "rd"
  refine ⟨_, rfl, by omega, by omega, for_range (lo := 0) (n := B.each.length) (fun i σ H' => ∃ v, σ = [some (.ref b), some (.ref a), v] ∧ Same H H') ⟨none, rfl, Same.refl _⟩ ?_ ?_⟩
  · rintro j σ H1 hj ⟨v, rfl, s1⟩
    rw [Int.zero_add]
    have eo : B.each[j]? = some B.each[j] := List.getElem?_eq_getElem hj
    have om := List.getElem_mem hj
    have mk := ok.mks _ om
    obtain ⟨l, el, ev, xs, hl, px⟩ := or_at (O.same s1) eo
    walk_at "rd"
    refine r_ixL (SqL.of (O.same s1).top) (atI_get rfl ev) ?_
    walk_at "rd"
    refine ⟨b, B, L, j, l, xs, _, rfl, h.same s1, ok, eo, inv _ om, by omega, hl, px, fun H2 s2 => ?_⟩
    walk_at "rd"
    exact ⟨_, rfl, s1.trans s2⟩
  · rintro σ H1 ⟨v, rfl, s1⟩
    have h1 := h.same s1
    obtain ⟨d1, hb1⟩ := h1.ob
    walk_at "rd"
    refine r_m hb1 (no_Book_orders _ _) ?_
    walk_at "rd"
    refine ⟨b, B, L, rfl, h1, ?_⟩
    walk_at "rd"
    refine ⟨a, _, rfl, .inl (SqL.of (O.same s1).top), ?_⟩
    rw [List.length_map, O.len]
    walk_at "rd"
    rw [decide_eq_true rfl]
    exact k _ s1

/-! ### what is seen of all orders -/
theorem td_rows {H : Hp} : ∀ {xs : List V} {ls : List Ln}, Paired (TdAt H) xs ls → Paired (TupAt H) xs (ls.map lnTold)
  | _, _, .nil => .nil
  | _, _, .cons ⟨t, e, h⟩ r => .cons ⟨t, e, h⟩ (td_rows r)
theorem told_ok {ls : List Ln} (h : ∀ l, l ∈ ls → isItem l.item = true) : Rws (ls.map lnTold) := fun r hr => by
  obtain ⟨l, hl, rfl⟩ := List.mem_map.mp hr
  exact .cons (.inr ⟨_, rfl, item_str (h l hl)⟩) (.cons .int (.cons .int (.cons .int (.cons .int (.cons .int .nil)))))
structure SeenAt (S : Addr → Prop) (H : Hp) (r : Addr) (os : List Od) : Prop where
  sr : S r
  ex : ∃ fs : List Addr, H r = some (.lst (fs.map V.ref)) ∧ fs.length = os.length ∧ ∀ (j : Nat) f o, fs[j]? = some f → os[j]? = some o → S f ∧ ∃ l w, S l ∧ S w ∧ H f = some (.lst [.ref l, .int o.money, .int o.owing, .ref w]) ∧ RowsAt H l (o.lines.map lnTold) ∧ RowsAt H w (o.marks.map mkRow)
theorem SeenAt.keep {S T : Addr → Prop} {H H' : Hp} {r : Addr} {os : List Od} (h : SeenAt S H r os) (b : But T H H') (n : ∀ x, S x → ¬ T x) : SeenAt S H' r os := by
  obtain ⟨sr, fs, e, l, at_⟩ := h
  refine ⟨sr, fs, b.keep _ _ e (n _ sr), l, fun j f o e1 e2 => ?_⟩
  obtain ⟨sf, l, w, sl, sw, ef, rl, rw_⟩ := at_ j f o e1 e2
  exact ⟨sf, l, w, sl, sw, b.keep _ _ ef (n _ sf), rl.keep b (n _ sl), rw_.keep b (n _ sw)⟩
theorem SeenAt.same {S : Addr → Prop} {H H' : Hp} {r : Addr} {os : List Od} (h : SeenAt S H r os) (s : Same H H') : SeenAt S H' r os := h.keep (But.of (S := fun _ => False) s) fun _ _ => id
theorem inv_told {o : Od} (h : o.inv) : Rws (o.lines.map lnTold) := told_ok fun l hl => (h.ln l hl).it
theorem inv_mks {o : Od} (h : o.inv) : Rws (o.marks.map mkRow) := mk_rws h.st
structure Loop (H1 : Hp) (fr kr : Addr) (os : List Od) (n0 i : Nat) (H' : Hp) (fs : List Addr) (ps : List (Addr × Addr × Addr)) : Prop where
  ef : H' fr = some (.lst (fs.map V.ref))
  lf : fs.length = i
  at_ : ∀ (j : Nat) f o, fs[j]? = some f → os[j]? = some o → H1 f = none ∧ ∃ l w, H1 l = none ∧ H1 w = none ∧ H' f = some (.lst [.ref l, .int o.money, .int o.owing, .ref w]) ∧ RowsAt H' l (o.lines.map lnTold) ∧ RowsAt H' w (o.marks.map mkRow)
  kq : Kq H' kr ps
  lp : ps.length ≤ n0 + 2 * i
  but : But (fun x => x = kr ∨ x = fr) H1 H'
  st : Stay H1 H'
  gr : ∀ x, qfoot kr ps x → (∃ o, H1 x = some o ∧ x ≠ fr) ∨ H1 x = none
def spLSeen (K : PySem.W.Frag) : Sp := fun vs H Q _ => ∃ (b : Addr) (B : Bk) (L : Lay) (kr : Addr) (ps : List (Addr × Addr × Addr)), vs = [.ref b, .int (B.each.length : Int), .ref kr] ∧ BookAt K H b B L ∧ B.ok ∧ (∀ o, o ∈ B.each → o.inv) ∧ B.trail.length ≤ 10000 ∧ Kq H kr ps ∧ (∀ x, L.own x ≠ .no → ¬ qfoot kr ps x) ∧ ps.length < 80000 ∧
  ∀ r ps' H', SeenAt (fun x => H x = none ∧ ∃ o, H' x = some o) H' r B.each → Kq H' kr ps' → ps'.length ≤ ps.length + 2 * B.each.length → But (· = kr) H H' → Stay H H' → (∀ x, qfoot kr ps' x → qfoot kr ps x ∨ H x = none) → Q (.ref r) H'
theorem len_LSeen {K : PySem.W.Frag} {vs : List V} {H : Hp} {Q : VK} {E : XK} (h : spLSeen K vs H Q E) : vs.length = 3 := by
  obtain ⟨_, _, _, _, _, rfl, _⟩ := h; rfl
theorem ok_LSeen {P : Program} {w : World} {K : PySem.W.Frag} {mg : Str → Option Value} {base : Heap} (T : Tx w K mg) : FnOk P w K mg base CX0 6 (He.fAd K dLSeen.at_) (fdO K dLSeen.at_) P_LSeen (spLSeen K) := by
  refine T.f_LSeen.ok sc_LSeen (fun vs H Q E h => len_LSeen h) (fun cdv A outer s H vs Q E hr h => ⟨_, PSs.nox ((pss_cons (ps_set (i := 3) sc_LSeen.nd rfl (Or.inl rfl) (pe_lst pa_nil))
      (pss_cons (ps_for PassesOwn.never rfl (pi_range1 (by rfl) T.b_range (pa_cons (pv 1) pa_nil)) (pg_name (i := 4) sc_LSeen.nd rfl (Or.inl rfl)) (pss_cons (ps_set (i := 5) sc_LSeen.nd rfl (Or.inl rfl) (pe_meth (pv 0) T.cl_Book T.m_Book_told (ok_BookTold T) (hr.mono (by decide)) T.b_BookTold .nil passL (pa_cons (pv 4) pa_nil)))
      (pss_cons (ps_set (i := 6) sc_LSeen.nd rfl (Or.inl rfl) (pe_meth (pv 0) T.cl_Book T.m_Book_rows (ok_BookRows T) (hr.mono (by decide)) T.b_BookRows .nil passL (pa_cons (pv 4) pa_nil)))
      (pss_cons (ps_expr (pe_bm PySem.F.plainAttrs_list PySem.F.slot_list_append PySem.F.type_list_append mt_append (pv 2) (pa_cons (pe_lst (pa_cons (pv 5) (pa_cons (pe_callTy call_list_of (by rfl) T.b_list (by decide +kernel) (pa_cons (pv 5) pa_nil)) pa_nil))) pa_nil)))
      (pss_cons (ps_expr (pe_bm PySem.F.plainAttrs_list PySem.F.slot_list_append PySem.F.type_list_append mt_append (pv 2) (pa_cons (pe_lst (pa_cons (pv 6) (pa_cons (pe_callTy call_list_of (by rfl) T.b_list (by decide +kernel) (pa_cons (pv 6) pa_nil)) pa_nil))) pa_nil)))
      (pss_one (ps_expr (pe_bm PySem.F.plainAttrs_list PySem.F.slot_list_append PySem.F.type_list_append mt_append (pv 3) (pa_cons (pe_lst (pa_cons (pe_callTy call_list_of (by rfl) T.b_list (by decide +kernel) (pa_cons (pv 5) pa_nil)) (pa_cons (pe_meth (pv 0) T.cl_Book T.m_Book_paid (ok_BookPaid T) (hr.mono (by decide)) T.b_BookPaid .nil passL (pa_cons (pv 4) pa_nil)) (pa_cons (pe_meth (pv 0) T.cl_Book T.m_Book_owed (ok_BookOwed T) (hr.mono (by decide)) T.b_BookOwed .nil passL (pa_cons (pv 4) pa_nil)) (pa_cons (pe_callTy call_list_of (by rfl) T.b_list (by decide +kernel) (pa_cons (pv 6) pa_nil)) pa_nil))))) pa_nil)))))))))
      (pss_one (ps_ret (pv 3)))))), ?_⟩)
  obtain ⟨b, B, L, kr, ps, rfl, h, ok, inv, tr, kq, ap, hz, k⟩ := h
  have f40 := ok.few
  walk_at "rd"
  refine r_mk (by simp) fun fr hfr => ?_
  have s0 := same_upd (o := .lst []) hfr
  have e0 : upd H fr (.lst []) fr = some (.lst []) := upd_same
  have only : ∀ x o, upd H fr (.lst []) x = some o → x ≠ fr → H x = some o := fun x o e n => by rw [upd_ne n] at e; exact e
  have free0 : ∀ x, upd H fr (.lst []) x = none → H x = none := fun x e => (upd_none e).2
  revert s0 e0 only free0
  generalize upd H fr (.lst []) = H1
  intro s0 e0 only free0
  have h1 := h.same s0
  have kf : kr ≠ fr := ne_of_none kq.at_ hfr
  have nkr : ¬ L.own kr ≠ .no := fun z => ap kr z (.inl rfl)
  have nfr : ¬ L.own fr ≠ .no := fun z => z (h.fresh hfr)
  walk_at "rd"
  refine ⟨_, rfl, by omega, by omega, for_range (lo := 0) (n := B.each.length) (fun i σ H' => ∃ (v4 v5 v6 : Option V) (fs : List Addr) (ps' : List (Addr × Addr × Addr)), σ = [some (.ref b), some (.int (B.each.length : Int)), some (.ref kr), some (.ref fr), v4, v5, v6] ∧ Loop H1 fr kr B.each ps.length i H' fs ps' ∧ ∀ x, qfoot kr ps' x → qfoot kr ps x ∨ H x = none)
    ⟨none, none, none, [], ps, rfl, ⟨e0, rfl, (fun j f o e => by simp at e), kq.same s0, Nat.le_refl _, But.refl, fun _ e => e, fun x z => ?_⟩, fun x z => .inl z⟩ ?_ ?_⟩
  · obtain ⟨o, e⟩ := kq.dom z
    exact .inl ⟨o, s0 _ _ e, ne_of_none e hfr⟩
  · rintro j σ H2 hj ⟨v4, v5, v6, fs, ps1, rfl, N, gr1⟩
    rw [Int.zero_add]
    have lp1 := N.lp
    have eo : B.each[j]? = some B.each[j] := List.getElem?_eq_getElem hj
    have om := List.getElem_mem hj
    have mk := ok.mks _ om
    have oi := inv _ om
    revert eo oi mk
    generalize B.each[j] = o
    intro eo mk oi
    have f20 := oi.few
    have bad : ∀ {P : Prop}, ¬ (0 ≤ (j : Int) ∧ (j : Int) < B.each.length) → P := fun z => absurd ⟨by omega, by omega⟩ z
    have eq : ∀ {j' : Nat} {o' : Od}, (j : Int) = (j' : Int) → B.each[j']? = some o' → o' = o := fun {j' o'} e1 e2 => by
      have : j = j' := by omega
      subst this
      rw [eo] at e2
      exact (Option.some.inj e2).symm
    have nT : ∀ x, L.own x ≠ .no → ¬ (x = kr ∨ x = fr) := fun x z w => w.elim (fun q => nkr (by rw [← q]; exact z)) fun q => nfr (by rw [← q]; exact z)
    have h2 := h1.keep N.but nT
    obtain ⟨d2, hb2⟩ := h2.ob
    walk_at "rd"
    refine r_m hb2 (no_Book_told _ _) ?_
    walk_at "rd"
    refine ⟨b, B, L, _, rfl, h2, ok, fun z => bad z, fun j' o1 e1 e2 r1 H3 x1 s3 nr1 er1 pr1 => ?_⟩
    obtain rfl := eq e1 e2
    have h3 := h2.same s3
    walk_at "rd"
    refine r_m (s3 _ _ hb2) (no_Book_rows _ _) ?_
    walk_at "rd"
    refine ⟨b, B, L, _, rfl, h3, ok, fun z => bad z, fun j' o2 e1 e2 r2 H4 x2 s4 nr2 er2 pr2 => ?_⟩
    obtain rfl := eq e1 e2
    have h4 := h3.same s4
    have s34 := s3.trans s4
    have t1 : Paired (TupAt H4) x1 (o2.lines.map lnTold) := tup_keep (But.of (S := fun _ => False) s4) (td_rows pr1)
    have t2 : Paired (TupAt H4) x2 (o2.marks.map mkRow) := mk_rows pr2
    have w1 := inv_told oi
    have w2 := inv_mks oi
    have kq4 := N.kq.same s34
    have er14 := s4 _ _ er1
    have k1 : r1 ≠ kr := fun z => N.kq.fresh nr1 (.inl z)
    have k2 : r2 ≠ kr := fun z => (N.kq.same s3).fresh nr2 (.inl z)
    have z1 : H1 r1 = none := N.st _ nr1
    have z2 : H1 r2 = none := N.st _ (Same.free s3 nr2)
    have f1 : r1 ≠ fr := fun z => by rw [z, e0] at z1; cases z1
    have f2 : r2 ≠ fr := fun z => by rw [z, e0] at z2; cases z2
    have st4 : Stay H1 H4 := fun x e => N.st _ (Same.free s34 e)
    have l1 : x1.length = o2.lines.length := by rw [t1.length, List.length_map]
    have l2 : x2.length = o2.marks.length := by rw [t2.length, List.length_map]
    walk_at "rd"
    refine r_tyL (SqL.of kq4.at_) ?_
    walk_at "rd"
    refine ⟨r1, x1, rfl, .inl (SqL.of er14), fun l1' hl1 => ?_⟩
    walk_at "rd"
    refine r_mk (by simp) fun q1 hq1 => ?_
    obtain ⟨pe1, kq5, bp1, sp1, nq1⟩ := kq_push kq4 er14 t1 w1 k1 hl1 hq1
    walk_at "rd"
    refine r_app pe1 (by simp; exact sz5l (by omega)) ?_
    have u1 : upd H4 l1' (.lst x1) q1 = none → q1 ≠ l1' ∧ H4 q1 = none := upd_none
    revert kq5 bp1 sp1
    generalize upd (upd (upd H4 l1' (.lst x1)) q1 (.lst [.ref r1, .ref l1'])) kr _ = H5
    intro kq5 bp1 sp1
    have er15 := bp1.keep _ _ er14 k1
    have er25 := bp1.keep _ _ er2 k2
    have t15 := tup_keep bp1 t1
    have t25 := tup_keep bp1 t2
    walk_at "rd"
    refine r_tyL (SqL.of kq5.at_) ?_
    walk_at "rd"
    refine ⟨r2, x2, rfl, .inl (SqL.of er25), fun l2' hl2 => ?_⟩
    walk_at "rd"
    refine r_mk (by simp) fun q2 hq2 => ?_
    obtain ⟨pe2, kq6, bp2, sp2, nq2⟩ := kq_push kq5 er25 t25 w2 k2 hl2 hq2
    walk_at "rd"
    refine r_app pe2 (by simp; exact sz5l (by omega)) ?_
    revert kq6 bp2 sp2
    generalize upd (upd (upd H5 l2' (.lst x2)) q2 (.lst [.ref r2, .ref l2'])) kr _ = H6
    intro kq6 bp2 sp2
    have bp := bp1.trans bp2
    have er16 := bp2.keep _ _ er15 k1
    have er26 := bp2.keep _ _ er25 k2
    have t16 := tup_keep bp t1
    have t26 := tup_keep bp t2
    have h6 := h4.keep bp fun x z w => nkr (by rw [← show x = kr from w]; exact z)
    have st6 : Stay H1 H6 := fun x e => st4 _ (sp1 _ (sp2 _ e))
    have b6 : But (fun x => x = kr ∨ x = fr) H1 H6 := (N.but.trans (But.of s34)).trans (bp.mono fun x z => .inl z)
    have ef6 : H6 fr = some (.lst (fs.map V.ref)) := bp.keep _ _ (s34 _ _ N.ef) (Ne.symm kf)
    have at6 : ∀ (j : Nat) f o, fs[j]? = some f → B.each[j]? = some o → H1 f = none ∧ ∃ l w, H1 l = none ∧ H1 w = none ∧ H6 f = some (.lst [.ref l, .int o.money, .int o.owing, .ref w]) ∧ RowsAt H6 l (o.lines.map lnTold) ∧ RowsAt H6 w (o.marks.map mkRow) := fun j f o e1 e2 => by
      obtain ⟨a1, l, w, a2, a3, a4, a5, a6⟩ := N.at_ j f o e1 e2
      have nk : ∀ x, H1 x = none → ¬ x = kr := fun x e z => by rw [z, s0 _ _ kq.at_] at e; cases e
      exact ⟨a1, l, w, a2, a3, bp.keep _ _ (s34 _ _ a4) (nk f a1), (a5.same s34).keep bp (nk l a2), (a6.same s34).keep bp (nk w a3)⟩
    have gr6 : ∀ x, qfoot kr (ps1 ++ [(q1, r1, l1')] ++ [(q2, r2, l2')]) x → qfoot kr ps1 x ∨ H1 x = none := fun x z => by
      rcases qfoot_snoc z with z | z
      · rcases qfoot_snoc z with z | z
        · exact .inl z
        · refine .inr ?_
          rcases z with rfl | rfl | rfl
          · exact st4 _ nq1
          · exact z1
          · exact st4 _ hl1
      · refine .inr ?_
        rcases z with rfl | rfl | rfl
        · exact st4 _ (sp1 _ nq2)
        · exact z2
        · exact st4 _ (sp1 _ hl2)
    obtain ⟨d6, hb6⟩ := h6.ob
    walk_at "rd"
    refine r_tyL (SqL.of ef6) ?_
    walk_at "rd"
    refine ⟨r1, x1, rfl, .inl (SqL.of er16), fun l hl => ?_⟩
    have s7 := same_upd (o := .lst x1) hl
    have h7 := h6.same s7
    walk_at "rd"
    refine r_m (s7 _ _ hb6) (no_Book_paid _ _) ?_
    walk_at "rd"
    refine ⟨b, B, L, _, rfl, h7, ok, fun z => bad z, fun j' o3 e1 e2 => ?_⟩
    obtain rfl := eq e1 e2
    walk_at "rd"
    refine r_m (s7 _ _ hb6) (no_Book_owed _ _) ?_
    walk_at "rd"
    refine ⟨b, B, L, _, rfl, h7, ok, fun z => bad z, fun j' o4 e1 e2 H8 s8 => ?_⟩
    obtain rfl := eq e1 e2
    have s68 := s7.trans s8
    walk_at "rd"
    refine ⟨r2, x2, rfl, .inl (SqL.of (s68 _ _ er26)), fun w hw => ?_⟩
    have s9 := same_upd (o := .lst x2) hw
    walk_at "rd"
    refine r_mk (by simp) fun f hf => ?_
    have s10 := same_upd (o := .lst [.ref l, .int o4.money, .int o4.owing, .ref w]) hf
    have s610 := (s68.trans s9).trans s10
    have el : upd (upd H8 w (.lst x2)) f (.lst [.ref l, .int o4.money, .int o4.owing, .ref w]) l = some (.lst x1) := s10 _ _ (s9 _ _ (s8 _ _ upd_same))
    have ew : upd (upd H8 w (.lst x2)) f (.lst [.ref l, .int o4.money, .int o4.owing, .ref w]) w = some (.lst x2) := s10 _ _ upd_same
    have eff : upd (upd H8 w (.lst x2)) f (.lst [.ref l, .int o4.money, .int o4.owing, .ref w]) f = some (.lst [.ref l, .int o4.money, .int o4.owing, .ref w]) := upd_same
    have nl : H6 l = none := hl
    have nw : H6 w = none := Same.free s68 hw
    have nf : H6 f = none := Same.free s68 (upd_none hf).2
    revert s610 el ew eff
    generalize upd (upd H8 w (.lst x2)) f (.lst [.ref l, .int o4.money, .int o4.owing, .ref w]) = H10
    intro s610 el ew eff
    have ef10 := s610 _ _ ef6
    walk_at "rd"
    refine r_app ef10 (by rw [List.length_map, N.lf]; exact sz5l (by omega)) ?_
    have b11 : But (· = fr) H10 (upd H10 fr (.lst (fs.map V.ref ++ [.ref f]))) := But.lst ef10 rfl
    have nfr2 : ∀ x, H6 x = none → ¬ x = fr := fun x e z => by rw [z, ef6] at e; cases e
    have nfr1 : ∀ x, H1 x = none → ¬ x = fr := fun x e z => by rw [z, e0] at e; cases e
    walk_at "rd"
    refine ⟨_, _, _, fs ++ [f], ps1 ++ [(q1, r1, l1')] ++ [(q2, r2, l2')], rfl, ⟨by rw [upd_same, List.map_append]; rfl, by simp [N.lf], fun i g o e1 e2 => ?_, ?_, by simp; omega, (b6.trans (But.of s610)).trans (b11.mono fun x z => .inr z), fun x e => st6 _ (Same.free s610 (upd_none e).2), fun x z => ?_⟩, fun x z => ?_⟩
    · by_cases hi : i < fs.length
      · rw [List.getElem?_append_left hi] at e1
        obtain ⟨a1, l, w, a2, a3, a4, a5, a6⟩ := at6 i g o e1 e2
        exact ⟨a1, l, w, a2, a3, b11.keep _ _ (s610 _ _ a4) (nfr1 g a1), (a5.same s610).keep b11 (nfr1 l a2), (a6.same s610).keep b11 (nfr1 w a3)⟩
      · have hi2 : i = fs.length := by
          have := (List.getElem?_eq_some_iff.mp e1).1
          simp at this
          omega
        subst hi2
        rw [List.getElem?_append_right (Nat.le_refl _), Nat.sub_self] at e1
        cases e1
        rw [N.lf, eo] at e2
        cases e2
        exact ⟨st6 _ nf, l, w, st6 _ nl, st6 _ nw, b11.keep _ _ eff (nfr2 _ nf), ⟨x1, b11.keep _ _ el (nfr2 l nl), tup_keep b11 (tup_keep (But.of (S := fun _ => False) s610) t16)⟩, ⟨x2, b11.keep _ _ ew (nfr2 w nw), tup_keep b11 (tup_keep (But.of (S := fun _ => False) s610) t26)⟩⟩
    · exact (kq6.same s610).keep b11 fun x z w => by
        rcases gr6 x z with q | q
        · rcases N.gr x q with ⟨_, _, n⟩ | n
          · exact n w
          · exact nfr1 x n w
        · exact nfr1 x q w
    · exact (gr6 x z).elim (N.gr x) .inr
    · exact (gr6 x z).elim (gr1 x) fun q => .inr (free0 x q)
  · rintro σ H2 ⟨v4, v5, v6, fs, ps1, rfl, N, gr1⟩
    have al : ∀ {x : Addr} {o : HO}, H1 x = none → H2 x = some o → (H x = none ∧ ∃ o, H2 x = some o) := fun {x o} e q => ⟨free0 x e, o, q⟩
    walk_at "rd"
    refine k fr ps1 H2 ⟨⟨hfr, _, N.ef⟩, fs, N.ef, N.lf, fun j f o e1 e2 => ?_⟩ N.kq N.lp ⟨fun x o e n => ?_, fun x o e => N.but.tup _ _ (s0 _ _ e)⟩ (fun x e => free0 _ (N.st _ e)) gr1
    · obtain ⟨a1, l, w, a2, a3, a4, a5, a6⟩ := N.at_ j f o e1 e2
      obtain ⟨y1, b1, _⟩ := id a5
      obtain ⟨y2, b2, _⟩ := id a6
      exact ⟨al a1 a4, l, w, al a2 b1, al a3 b2, a4, a5, a6⟩
    · exact N.but.keep _ _ (s0 _ _ e) fun z => z.elim n (ne_of_none e hfr)

/-- a list of scalars -/
def dLst (r : List V) : PyData := .list (r.map dOf)
theorem dLst_dp {K : PySem.W.Frag} {H : Hp} {a : Addr} {r : List V} (h : SqL K H a r) (s : Scs r) : Dp K H (.ref a) (dLst r) := .lst h s.dp
theorem dLst_shaped {r : List V} (s : Scs r) : SeqAt.shaped (dLst r) = true := by
  obtain ⟨a, b⟩ := s.lay
  have a1 : PyData.canLay0 (dLst r) = true := by simp only [dLst, PyData.canLay0]; exact a
  have b1 : PyData.depth (dLst r) = 1 := by simp only [dLst, PyData.depth, b]
  unfold SeqAt.shaped
  rw [a1, b1]
  rfl
theorem dLst_eqv {r q : List V} (s : Scs r) (t : Scs q) : PyData.eqv (dLst r) (dLst q) = decide (r = q) := by
  show PyData.eqv (.list _) (.list _) = _
  simp only [PyData.eqv]
  exact s.eqv t
theorem r_eqLL {H : Hp} {Q : VK} {K : PySem.W.Frag} {a b : Addr} {r q : List V} (h : SqL K H a r) (g : SqL K H b q) (s : Scs r) (t : Scs q) (k : Q (.bl (decide (r = q))) H) : rEqD K (.ref a) (.ref b) H Q :=
  ⟨_, _, dLst_dp h s, dLst_dp g t, dLst_shaped s, dLst_shaped t, by rw [dLst_eqv s t]; exact k⟩
theorem r_neLL {H : Hp} {Q : VK} {K : PySem.W.Frag} {a b : Addr} {r q : List V} (h : SqL K H a r) (g : SqL K H b q) (s : Scs r) (t : Scs q) (k : Q (.bl (!decide (r = q))) H) : rNeD K (.ref a) (.ref b) H Q :=
  ⟨_, _, dLst_dp h s, dLst_dp g t, dLst_shaped s, dLst_shaped t, by rw [dLst_eqv s t]; exact k⟩

/-! ### what changed -/
def dOne (o : Od) : PyData := .list [dRows (o.lines.map lnTold), .int o.money, .int o.owing, dRows (o.marks.map mkRow)]
theorem dOne_lay {o : Od} (h : o.inv) : PyData.canLay0 (dOne o) = true ∧ PyData.depth (dOne o) ≤ 3 := by
  obtain ⟨a, b⟩ := dRows_lay (inv_told h)
  obtain ⟨c, d⟩ := dRows_lay (inv_mks h)
  refine ⟨?_, ?_⟩
  · simp only [dOne, PyData.canLay0, PyData.canLayAll0, a, c, Bool.and_self]
  · simp only [dOne, PyData.depth, PyData.depthAll]
    omega
theorem one_dp {K : PySem.W.Frag} {H : Hp} {f l w : Addr} {o : Od} (h : o.inv) (ef : H f = some (.lst [.ref l, .int o.money, .int o.owing, .ref w])) (rl : RowsAt H l (o.lines.map lnTold)) (rw_ : RowsAt H w (o.marks.map mkRow)) : Dp K H (.ref f) (dOne o) := by
  obtain ⟨xs, e1, p1⟩ := rl
  obtain ⟨ys, e2, p2⟩ := rw_
  exact .lst (SqL.of ef) (.cons (dRows_dp (SqL.of e1) p1 (inv_told h)) (.cons (.int _) (.cons (.int _) (.cons (dRows_dp (SqL.of e2) p2 (inv_mks h)) .nil))))
def dSeen (os : List Od) : PyData := .list (os.map dOne)
theorem dSeen_lay0 : ∀ {os : List Od}, (∀ o, o ∈ os → o.inv) → PyData.canLayAll0 (os.map dOne) = true ∧ PyData.depthAll (os.map dOne) ≤ 3
  | [], _ => ⟨by simp only [List.map_nil, PyData.canLayAll0], by simp only [List.map_nil, PyData.depthAll]; omega⟩
  | o :: r, h => by
    obtain ⟨a, b⟩ := dOne_lay (h o List.mem_cons_self)
    obtain ⟨c, d⟩ := dSeen_lay0 (os := r) fun x hx => h x (List.mem_cons_of_mem _ hx)
    refine ⟨?_, ?_⟩
    · simp only [List.map_cons, PyData.canLayAll0, a, c, Bool.and_self]
    · simp only [List.map_cons, PyData.depthAll]; omega
theorem seen_all {K : PySem.W.Frag} {H : Hp} : ∀ {fs : List Addr} {os : List Od}, fs.length = os.length → (∀ o, o ∈ os → o.inv) → (∀ (j : Nat) f o, fs[j]? = some f → os[j]? = some o → Dp K H (.ref f) (dOne o)) → DpAll K H (fs.map V.ref) (os.map dOne)
  | [], [], _, _, _ => .nil
  | [], o :: r, h, _, _ => by simp at h
  | a :: s, [], h, _, _ => by simp at h
  | a :: s, o :: r, h, hi, at_ => .cons (at_ 0 a o rfl rfl) (seen_all (by simpa using h) (fun x hx => hi x (List.mem_cons_of_mem _ hx)) fun j l o' e1 e2 => at_ (j + 1) l o' e1 e2)
theorem seen_dp {K : PySem.W.Frag} {S : Addr → Prop} {H : Hp} {r : Addr} {os : List Od} (hi : ∀ o, o ∈ os → o.inv) (h : SeenAt S H r os) : Dp K H (.ref r) (dSeen os) ∧ SeqAt.shaped (dSeen os) = true := by
  obtain ⟨_, fs, e, l, at_⟩ := h
  refine ⟨.lst (SqL.of e) (seen_all l hi fun j f o e1 e2 => ?_), ?_⟩
  · obtain ⟨_, l, w, _, _, a, b, c⟩ := at_ j f o e1 e2
    exact one_dp (hi o (List.mem_of_getElem? e2)) a b c
  · obtain ⟨a, b⟩ := dSeen_lay0 hi
    have a1 : PyData.canLay0 (dSeen os) = true := by simp only [dSeen, PyData.canLay0]; exact a
    have b1 : PyData.depth (dSeen os) ≤ 4 := by simp only [dSeen, PyData.depth]; omega
    unfold SeqAt.shaped
    rw [a1, decide_eq_true (by omega)]
    rfl
theorem r_neSeen {K : PySem.W.Frag} {S S' : Addr → Prop} {H : Hp} {Q : VK} {r q : Addr} {os : List Od} (hi : ∀ o, o ∈ os → o.inv) (h : SeenAt S H r os) (h' : SeenAt S' H q os) (k : Q (.bl false) H) : rNeD K (.ref r) (.ref q) H Q := by
  obtain ⟨a, s⟩ := seen_dp (K := K) hi h
  obtain ⟨b, _⟩ := seen_dp (K := K) hi h'
  refine ⟨_, _, a, b, s, s, ?_⟩
  rw [SeqAt.eqv_refl _ (SeqAt.canLay_of_shaped s)]
  exact k
theorem r_neOne {K : PySem.W.Frag} {H : Hp} {Q : VK} {f g : Addr} {o : Od} (hi : o.inv) (h : Dp K H (.ref f) (dOne o)) (h' : Dp K H (.ref g) (dOne o)) (k : Q (.bl false) H) : rNeD K (.ref f) (.ref g) H Q := by
  have s : SeqAt.shaped (dOne o) = true := by
    obtain ⟨a, b⟩ := dOne_lay hi
    unfold SeqAt.shaped
    rw [a, decide_eq_true (by omega)]
    rfl
  refine ⟨_, _, h, h', s, s, ?_⟩
  rw [SeqAt.eqv_refl _ (SeqAt.canLay_of_shaped s)]
  exact k
theorem head_at {F : Addr → Prop} {H : Hp} {v : V} {d : Dd} (g : d.good) (h : DdAt F H v d) : ∃ t r, v = .ref t ∧ H t = some (.tup (.str (word d) :: r)) := by
  by_cases no : ∃ ls, d = .ord ls
  · obtain ⟨ls, rfl⟩ := no
    obtain ⟨t, l, xs, e, h1, _⟩ := h
    exact ⟨t, _, e, h1⟩
  · obtain ⟨t, o1, r, e, h1, nw, s⟩ := dd_form g h fun ls e => no ⟨ls, e⟩
    exact ⟨t, _, e, h1⟩
theorem lcp_prs {K : PySem.W.Frag} {tt : TT} {te : TE} {j : Nat} {σ : L2.St} {H1 : Hp} {Q : VK} {a : Addr} {xs : List V} {cs : List (Int × Int)} (p : Int × Int → Bool) (hs : H1 a = some (.lst xs)) (pr : Paired (PrAt H1) xs cs) (hz : xs.length ≤ 90000)
    (ht : ∀ (t : Addr) (c : Int × Int) (H' : Hp) (QB : Bool → Hp → Prop), H' t = some (.tup [.int c.1, .int c.2]) → Same H1 H' → QB (p c) H' → tt ((wipe σ [j]).set j (some (.ref t))) H' QB)
    (he : ∀ (t : Addr) (c : Int × Int) (H' : Hp) (W : VK), H' t = some (.tup [.int c.1, .int c.2]) → Same H1 H' → W (.int c.2) H' → te ((wipe σ [j]).set j (some (.ref t))) H' W)
    (k : ∀ (D : Addr) (H' : Hp), H1 D = none → Same H1 H' → H' D = some (.lst (((cs.filter p).map (·.2)).map V.int)) → Q (.ref D) H') :
    ∃ a', V.ref a = V.ref a' ∧ (∃ xs, SqL K H1 a' xs) ∧ Lcs (Itl K a') (gName j) tt te [j] σ H1 Q := by
  refine ⟨a, rfl, ⟨_, SqL.of hs⟩, fun D hD => ?_⟩
  have lc : xs.length = cs.length := pr.length
  refine lc_list (K := K) (a := a) (xs := xs) (fun i H' => Same H1 H' ∧ H' D = some (.lst ((((cs.take i).filter p).map (·.2)).map V.int))) ⟨same_upd hD, upd_same⟩ (fun i H' _ q => SqL.of (q.1 _ _ hs)) ?_ ?_
  · rintro i x H' hi ⟨s, e⟩
    obtain ⟨c, ec, t, rfl, htt⟩ := Paired.get_ex pr hi
    refine ⟨wipe1, ht t c _ _ (s _ _ htt) s ?_⟩
    rw [take_snoc ec, List.filter_append, List.map_append, List.map_append]
    cases q : p c with
    | true =>
      rw [if_pos rfl]
      refine he t c _ _ (s _ _ htt) s ⟨_, e, ?_, ?_, ?_⟩
      · rw [List.length_map, List.length_map]
        have := List.length_filter_le p (cs.take i)
        rw [List.length_take] at this
        refine sz5l ?_
        omega
      · exact fun b o q => by
          rw [upd_ne (ne_of_none q hD)]
          exact s _ _ q
      · rw [upd_same]
        simp [q]
    | false =>
      rw [if_neg (by decide)]
      refine ⟨s, ?_⟩
      rw [e]
      simp [q]
  · rintro H' ⟨s, e⟩
    rw [lc, List.take_length] at e
    exact k D H' hD s e
theorem side_in {d : Dd} (g : d.good) : ∃ n : Nat, (if inV (.str (word d)) [.str "deliver", .str "back", .str "swap", .str "credit"] = true then 1 else 0 : Int) = (n : Int) ∧ ((n = 1 ∧ wLn (word d)) ∨ (n = 0 ∧ ¬ wLn (word d))) := by
  have no : ∀ w : Str, (w = "order" ∨ w = "move" ∨ w = "pay" ∨ w = "refund") → inV (.str w) [.str "deliver", .str "back", .str "swap", .str "credit"] = false ∧ ¬ wLn w := fun w h => by
    rcases h with rfl | rfl | rfl | rfl <;> exact ⟨by decide +kernel, by unfold wLn; decide +kernel⟩
  have yes : ∀ w : Str, wLn w → inV (.str w) [.str "deliver", .str "back", .str "swap", .str "credit"] = true := fun w h => by
    rcases h with rfl | rfl | rfl | rfl <;> decide +kernel
  cases d with
  | ord ls =>
    obtain ⟨a, b⟩ := no "order" (.inl rfl)
    exact ⟨0, by show (if inV (.str "order") _ = true then 1 else 0 : Int) = 0; rw [a]; rfl, .inr ⟨rfl, b⟩⟩
  | ln w o l n =>
    have a := yes w g
    exact ⟨1, by show (if inV (.str w) _ = true then 1 else 0 : Int) = 1; rw [a]; rfl, .inl ⟨rfl, g⟩⟩
  | mo w o n =>
    obtain ⟨a, b⟩ := no w (.inr (.inr g))
    exact ⟨0, by show (if inV (.str w) _ = true then 1 else 0 : Int) = 0; rw [a]; rfl, .inr ⟨rfl, b⟩⟩
  | mv o p n =>
    obtain ⟨a, b⟩ := no "move" (.inr (.inl rfl))
    exact ⟨0, by show (if inV (.str "move") _ = true then 1 else 0 : Int) = 0; rw [a]; rfl, .inr ⟨rfl, b⟩⟩
def spLChanged (_ : PySem.W.Frag) : Sp := fun vs H Q _ => ∃ (F : Addr → Prop) (v : V) (d : Dd) (r : Addr) (cs : List (Int × Int)) (Sa Sb : Addr → Prop) (sa sb : Addr) (os es : List Od), vs = [v, .ref r, .ref sa, .ref sb] ∧ DdAt F H v d ∧ d.good ∧ ChAt H r cs ∧ SeenAt Sa H sa os ∧ SeenAt Sb H sb es ∧ Chg d os es cs ∧
  os.length ≤ es.length ∧ es.length ≤ 50 ∧ cs.length ≤ 10 ∧ (∀ o, o ∈ os → o.inv) ∧ (∀ o, o ∈ es → o.inv) ∧ ∀ H', Same H H' → Q (.bl true) H'
theorem len_LChanged {K : PySem.W.Frag} {vs : List V} {H : Hp} {Q : VK} {E : XK} (h : spLChanged K vs H Q E) : vs.length = 4 := by
  obtain ⟨_, _, _, _, _, _, _, _, _, _, _, rfl, _⟩ := h; rfl
theorem ok_LChanged {P : Program} {w : World} {K : PySem.W.Frag} {mg : Str → Option Value} {base : Heap} (T : Tx w K mg) : FnOk P w K mg base CX0 1 (He.fAd K dLChanged.at_) (fdO K dLChanged.at_) P_LChanged (spLChanged K) := by
  refine T.f_LChanged.ok sc_LChanged (fun vs H Q E h => len_LChanged h) (fun cdv A outer s H vs Q E hr h => ⟨_, PSs.nox ((pss_cons (ps_if (pt_not (pt_val (pe_callB call_isi (by rfl) T.b_isinstance (by decide +kernel) (pa_cons (pv 1) (pa_cons (pe_bltn (v := .ty "list") (by rfl) T.b_list (by decide +kernel) rfl) pa_nil))))) (pss_one (ps_ret pe_bl)) pss_nil)
      (pss_cons (ps_set (i := 4) sc_LChanged.nd rfl (Or.inl rfl) (pe_callTy call_int1 (by rfl) T.b_int (by decide +kernel) (pa_cons (pe_cmpR op_in_seq (pe_ix ix_tup (pv 0) pe_int (fun _ _ => rfl)) (pe_lst (pa_cons pe_str (pa_cons pe_str (pa_cons pe_str (pa_cons pe_str pa_nil))))) (by rfl)) pa_nil)))
      (pss_cons (ps_for PassesOwn.never rfl (pi_range1 (by rfl) T.b_range (pa_cons (pe_callB call_len_seq (by rfl) T.b_len (by decide +kernel) (pa_cons (pv 2) pa_nil)) pa_nil)) (pg_name (i := 5) sc_LChanged.nd rfl (Or.inr rfl)) (pss_cons (ps_if (pt_cmpR (op_neD hr.units) (pe_ix ix_list (pe_ix ix_list (pv 3) (pv 5) (fun _ _ => rfl)) (pv 4) (fun _ _ => rfl)) (pe_ix ix_list (pe_ix ix_list (pv 2) (pv 5) (fun _ _ => rfl)) (pv 4) (fun _ _ => rfl)) (nomark _)) (pss_one (ps_ret pe_bl)) pss_nil)
      (pss_cons (ps_setLc (i := 7) (own := [("_law_pair", 6)]) (g := gName 6) rfl sc_LChanged.nd rfl rfl (sw_true rfl rfl rfl (by decide +kernel)) (pi_list (pv 1)) (blkOk_by (N := N_LChanged) (sc := defScope sLChanged) (by decide +kernel)) (fun _ _ _ _ _ => pg_name (i := 6) sc_LChanged.nd rfl (Or.inl rfl)) (fun _ _ _ _ _ => (pts_one (pt_cmpR op_eq (pe_ix (ix_tupK (K := K) rfl) (pv 6) pe_int (fun _ _ => rfl)) (pv 5) (nomark _)))) (fun _ _ _ _ _ => (pe_ix (ix_tupK (K := K) rfl) (pv 6) pe_int (fun _ _ => rfl))))
      (pss_cons (ps_if (PW.pt (pw_or (pt_cmpR op_gt (pe_callB call_len_seq (by rfl) T.b_len (by decide +kernel) (pa_cons (pv 7) pa_nil)) pe_int (nomark _)) (pw_or1 (pt_cmpR op_ne (pe_op op_sub (pe_ix ix_list (pe_ix ix_list (pv 3) (pv 5) (fun _ _ => rfl)) pe_int (fun _ _ => rfl)) (pe_ix ix_list (pe_ix ix_list (pv 2) (pv 5) (fun _ _ => rfl)) pe_int (fun _ _ => rfl))) (pe_callB (cr_sum rfl) (by rfl) T.b_sum (by decide +kernel) (pa_cons (pv 7) pa_nil)) (nomark _))))) (pss_one (ps_ret pe_bl)) pss_nil)
      (pss_one (ps_if (PW.pt (pw_and (pt_cmpR (op_eqD hr.units) (pv 7) (pe_lst pa_nil) (nomark _)) (pw_and1 (pt_cmpR (op_neD hr.units) (pe_ix ix_list (pv 3) (pv 5) (fun _ _ => rfl)) (pe_ix ix_list (pv 2) (pv 5) (fun _ _ => rfl)) (nomark _))))) (pss_one (ps_ret pe_bl)) pss_nil))))))
      (pss_one (ps_ret (pe_cmpR op_eq (pe_callB (cr_sum rfl) (by rfl) T.b_sum (by decide +kernel) (pa_cons (pe_lc (own := [("_law_pair", 6)]) (g := gName 6) (tt := tYes) rfl sc_LChanged.nd (pi_list (pv 1)) (blkOk_by (N := N_LChanged) (sc := defScope sLChanged) (by decide +kernel)) (fun _ _ _ _ _ => pg_name (i := 6) sc_LChanged.nd rfl (Or.inl rfl)) (fun _ _ _ _ _ => pts_nil) (fun _ _ _ _ _ => (pe_ix (ix_tupK (K := K) rfl) (pv 6) pe_int (fun _ _ => rfl)))) pa_nil)) (pe_op op_sub (pe_callB (cr_sum rfl) (by rfl) T.b_sum (by decide +kernel) (pa_cons (pe_lc (own := [("_law_one", 8)]) (g := gName 8) (tt := tYes) rfl sc_LChanged.nd (pi_list (pv 3)) (blkOk_by (N := N_LChanged) (sc := defScope sLChanged) (by decide +kernel)) (fun _ _ _ _ _ => pg_name (i := 8) sc_LChanged.nd rfl (Or.inl rfl)) (fun _ _ _ _ _ => pts_nil) (fun _ _ _ _ _ => (pe_ix (ix_listK (K := K) rfl) (pv 8) pe_int (fun _ _ => rfl)))) pa_nil)) (pe_callB (cr_sum rfl) (by rfl) T.b_sum (by decide +kernel) (pa_cons (pe_lc (own := [("_law_one", 8)]) (g := gName 8) (tt := tYes) rfl sc_LChanged.nd (pi_list (pv 2)) (blkOk_by (N := N_LChanged) (sc := defScope sLChanged) (by decide +kernel)) (fun _ _ _ _ _ => pg_name (i := 8) sc_LChanged.nd rfl (Or.inl rfl)) (fun _ _ _ _ _ => pts_nil) (fun _ _ _ _ _ => (pe_ix (ix_listK (K := K) rfl) (pv 8) pe_int (fun _ _ => rfl)))) pa_nil))) (nomark _)))))))), ?_⟩)
  obtain ⟨F, v, d, r, cs, Sa, Sb, sa, sb, os, es, rfl, hd, g, ⟨xs, er, pr⟩, A, B, C, le, l50, l10, iv, iv', k⟩ := h
  obtain ⟨t, rr, rfl, ht⟩ := head_at g hd
  obtain ⟨_, fa, ea, la, ata⟩ := id A
  obtain ⟨_, fb, eb, lb, atb⟩ := id B
  have lx : xs.length = cs.length := pr.length
  walk_at "rd"
  refine r_is_lst_list er ?_
  walk_at "rd"
  refine r_ixT (SqT.of ht) (atI_get (j := 0) rfl rfl) ?_
  walk_at "rd"
  refine r_mk (by simp) fun w4 hw4 => ?_
  walk_at "rd"
  refine ⟨w4, _, rfl, .inl (SqL.of upd_same), rfl, rfl, ?_⟩
  walk_at "rd"
  refine .inr ⟨_, rfl, ?_⟩
  obtain ⟨n, en, side⟩ := side_in g
  have s1 := same_upd (o := .lst [.str "deliver", .str "back", .str "swap", .str "credit"]) hw4
  revert s1
  generalize upd H w4 _ = H1
  intro s1
  have een : (if (if false = true then !inV (V.str (word d)) [.str "deliver", .str "back", .str "swap", .str "credit"] else inV (V.str (word d)) [.str "deliver", .str "back", .str "swap", .str "credit"]) = true then 1 else 0 : Int) = (n : Int) := en
  rw [een]
  have A1 := A.same s1
  have B1 := B.same s1
  walk_at "rd"
  refine ⟨sa, _, rfl, .inl (SqL.of (s1 _ _ ea)), ?_⟩
  rw [List.length_map, la]
  walk_at "rd"
  refine ⟨_, rfl, by omega, by omega, for_range (lo := 0) (n := os.length) (fun i σ H' => ∃ v5 v7, σ = [some (.ref t), some (.ref r), some (.ref sa), some (.ref sb), some (.int (n : Int)), v5, none, v7, none] ∧ Same H1 H') ⟨none, none, rfl, Same.refl _⟩ ?_ ?_⟩
  · rintro j σ H2 hj ⟨v5, v7, rfl, s2⟩
    rw [Int.zero_add]
    have s12 := s1.trans s2
    have eo : os[j]? = some os[j] := List.getElem?_eq_getElem hj
    have ee : es[j]? = some es[j] := List.getElem?_eq_getElem (by omega)
    have io := iv _ (List.getElem_mem hj)
    have ie := iv' _ (List.getElem_mem (show j < es.length by omega))
    revert eo ee io ie
    generalize os[j] = a
    generalize es[j] = b
    intro eo ee io ie
    obtain ⟨c1, c2, c3, c4, c5, _⟩ := C.at_ j a b eo ee
    have ha : j < fa.length := by omega
    have hb : j < fb.length := by omega
    have eva : (fa.map V.ref)[j]? = some (.ref fa[j]) := by rw [List.getElem?_map, List.getElem?_eq_getElem ha]; rfl
    have evb : (fb.map V.ref)[j]? = some (.ref fb[j]) := by rw [List.getElem?_map, List.getElem?_eq_getElem hb]; rfl
    obtain ⟨_, l1, w1, _, _, fa1, rl1, rw1⟩ := ata j _ a (List.getElem?_eq_getElem ha) eo
    obtain ⟨_, l2, w2, _, _, fb1, rl2, rw2⟩ := atb j _ b (List.getElem?_eq_getElem hb) ee
    revert eva evb fa1 fb1
    generalize fa[j] = pa
    generalize fb[j] = pb
    intro eva evb fa1 fb1
    have ea2 := s12 _ _ ea
    have eb2 := s12 _ _ eb
    have fa2 := s12 _ _ fa1
    have fb2 := s12 _ _ fb1
    have rl12 := rl1.same s12
    have rl22 := rl2.same s12
    have rw12 := rw1.same s12
    have rw22 := rw2.same s12
    walk_at "rs"
    with_reducible refine r_join (fun σ' H' => H2 = H' ∧ σ' = [some (.ref t), some (.ref r), some (.ref sa), some (.ref sb), some (.int (n : Int)), some (.int (j : Int)), none, v7, none]) ?_ fun N hN => ?_
    rotate_left
    · walk_at "rd"
      refine r_ixL (SqL.of eb2) (atI_get rfl evb) ?_
      walk_at "rd"
      rcases side with ⟨rfl, wl⟩ | ⟨rfl, wl⟩
      · refine r_ixL (SqL.of fb2) (atI_get (j := 1) rfl rfl) ?_
        walk_at "rd"
        refine r_ixL (SqL.of ea2) (atI_get rfl eva) ?_
        walk_at "rd"
        refine r_ixL (SqL.of fa2) (atI_get (j := 1) rfl rfl) ?_
        refine r_neSS Sc.int Sc.int ?_
        walk_at "rd"
        refine r_itn (fun z => absurd (by rw [c4 wl]) z) (fun _ => ?_)
        walk_at "rd"
        exact hN _ _ ⟨rfl, rfl⟩
      · refine r_ixL (SqL.of fb2) (atI_get (j := 0) rfl rfl) ?_
        walk_at "rd"
        refine r_ixL (SqL.of ea2) (atI_get rfl eva) ?_
        walk_at "rd"
        refine r_ixL (SqL.of fa2) (atI_get (j := 0) rfl rfl) ?_
        obtain ⟨y1, b1, p1⟩ := rl12
        obtain ⟨y2, b2, p2⟩ := rl22
        refine r_neRR (SqL.of b2) (SqL.of b1) p2 p1 (inv_told ie) (inv_told io) ?_
        walk_at "rd"
        refine r_itn (fun z => absurd (by rw [c5 wl]) z) (fun _ => ?_)
        walk_at "rd"
        exact hN _ _ ⟨rfl, rfl⟩
    rintro σ' _ ⟨rfl, rfl⟩
    walk_at "rd"
    refine lcp_prs (fun c => decide (c.1 = (j : Int))) (s12 _ _ er) (Paired.mapP pr fun _ _ ⟨t, e, q⟩ => ⟨t, e, s12 _ _ q⟩) (by omega) ?_ ?_ ?_
    · intro t c H' QB ht s q
      walk_at "rd"
      refine r_ixT (SqT.of ht) (atI_get (j := 0) rfl rfl) ?_
      walk_at "rd"
      exact q
    · intro t c H' W ht s q
      walk_at "rd"
      refine r_ixT (SqT.of ht) (atI_get (j := 1) rfl rfl) ?_
      exact q
    intro D H3 hD s3 eD
    have s13 := s12.trans s3
    have ll : (((cs.filter fun c => decide (c.1 = (j : Int))).map (·.2)).map V.int).length ≤ 1 := by rw [List.length_map, List.length_map]; exact c1
    walk_at "rd"
    refine ⟨D, _, rfl, .inl (SqL.of eD), ?_⟩
    walk_at "rd"
    refine r_itz (by omega) ?_
    walk_at "rd"
    refine r_ixL (SqL.of (s3 _ _ eb2)) (atI_get rfl evb) ?_
    walk_at "rd"
    refine r_ixL (SqL.of (s3 _ _ fb2)) (atI_get (j := 2) rfl rfl) ?_
    walk_at "rd"
    refine r_ixL (SqL.of (s3 _ _ ea2)) (atI_get rfl eva) ?_
    walk_at "rd"
    refine r_ixL (SqL.of (s3 _ _ fa2)) (atI_get (j := 2) rfl rfl) ?_
    walk_at "rd"
    refine ⟨D, _, rfl, SqL.of eD, ?_⟩
    walk_at "rd"
    refine r_itn (fun z => absurd c2 z) (fun _ => ?_)
    walk_at "rd"
    refine r_mk (by simp) fun q0 hq0 => ?_
    have s4 := same_upd (o := .lst []) hq0
    have wi : Scs (((cs.filter fun c => decide (c.1 = (j : Int))).map (·.2)).map V.int) := fun v hv => by
      obtain ⟨z, _, rfl⟩ := List.mem_map.mp hv
      exact .int
    refine r_eqLL (SqL.of (s4 _ _ eD)) (SqL.of upd_same) wi .nil ?_
    walk_at "rd"
    have s34 := s3.trans s4
    refine r_itd (fun z => ?_) (fun _ => ?_)
    · have f0 : (cs.filter fun c => decide (c.1 = (j : Int))) = [] := List.map_eq_nil_iff.mp (List.map_eq_nil_iff.mp z)
      have ab := c3 f0
      subst ab
      walk_at "rd"
      refine r_ixL (SqL.of (s34 _ _ eb2)) (atI_get rfl evb) ?_
      walk_at "rd"
      refine r_ixL (SqL.of (s34 _ _ ea2)) (atI_get rfl eva) ?_
      refine r_neOne ie (one_dp ie (s34 _ _ fb2) (rl22.same s34) (rw22.same s34)) (one_dp ie (s34 _ _ fa2) (rl12.same s34) (rw12.same s34)) ?_
      walk_at "rd"
      exact ⟨_, _, rfl, (s2.trans s3).trans s4⟩
    · walk_at "rd"
      exact ⟨_, _, rfl, (s2.trans s3).trans s4⟩
  · rintro σ H2 ⟨v5, v7, rfl, s2⟩
    have s12 := s1.trans s2
    walk_at "rd"
    refine lcp_prs (fun _ => true) (s12 _ _ er) (Paired.mapP pr fun _ _ ⟨t, e, q⟩ => ⟨t, e, s12 _ _ q⟩) (by omega) (fun t c H' QB ht s q => r_yes q) ?_ ?_
    · intro t c H' W ht s q
      walk_at "rd"
      refine r_ixT (SqT.of ht) (atI_get (j := 1) rfl rfl) ?_
      exact q
    intro D H3 hD s3 eD
    rw [show cs.filter (fun _ => true) = cs from List.filter_eq_self.mpr fun _ _ => rfl] at eD
    have s13 := s12.trans s3
    walk_at "rd"
    refine ⟨D, _, rfl, SqL.of eD, ?_⟩
    walk_at "rd"
    have comp : ∀ {H4 : Hp} {p : Addr} {fs : List Addr} {zs : List Od} {ty : TE} {Q' : VK} {σ' : L2.St}, Same H H4 → H p = some (.lst (fs.map V.ref)) → fs.length = zs.length → zs.length ≤ 50 → (∀ (j : Nat) f o, fs[j]? = some f → zs[j]? = some o → ∃ l w, H f = some (.lst [.ref l, .int o.money, .int o.owing, .ref w])) →
        (∀ (f : Addr) (o : Od) (H' : Hp) (R : VK) (l w : Addr), H' f = some (.lst [.ref l, .int o.money, .int o.owing, .ref w]) → R (.int o.owing) H' → ty ((wipe σ' [8]).set 8 (some (.ref f))) H' R) →
        (∀ D H', Same H4 H' → H' D = some (.lst ((zs.map Od.owing).map V.int)) → Q' (.ref D) H') → ∃ a', V.ref p = V.ref a' ∧ (∃ xs, SqL K H4 a' xs) ∧ Lcs (Itl K a') (gName 8) tYes ty [8] σ' H4 Q' := fun {H4 p fs zs ty Q' σ'} s ep lf lz at_ he kk => by
      refine lcp_list (ys := (zs.map Od.owing).map V.int) (SqL.of (s _ _ ep)) (by simp [lf]) (by simp; omega) ?_ ?_
      · intro i x y H' R ex ey s' q
        rw [List.getElem?_map] at ex
        cases ef : fs[i]? with
        | none => rw [ef] at ex; cases ex
        | some f =>
          rw [ef] at ex
          cases ex
          have hz : i < zs.length := by
            have := (List.getElem?_eq_some_iff.mp ef).1
            omega
          have ez : zs[i]? = some zs[i] := List.getElem?_eq_getElem hz
          rw [List.getElem?_map, List.getElem?_map, ez] at ey
          cases ey
          obtain ⟨l, w, e⟩ := at_ i f _ ef ez
          exact he f _ H' R l w (s' _ _ (s _ _ e)) (q _ (Same.refl _))
      · intro D H' hD s' e
        exact kk D H' s' e
    refine comp s13 eb lb l50 (fun j f o e1 e2 => ?_) (fun f o H' R l w e q => ?_) (fun D2 H4 s4 eD2 => ?_)
    · obtain ⟨_, l, w, _, _, e, _⟩ := atb j f o e1 e2
      exact ⟨l, w, e⟩
    · walk_at "rd"
      refine r_ixL (SqL.of e) (atI_get (j := 2) rfl rfl) ?_
      exact q
    walk_at "rd"
    refine ⟨D2, _, rfl, SqL.of eD2, ?_⟩
    walk_at "rd"
    refine comp (s13.trans s4) ea la (by omega) (fun j f o e1 e2 => ?_) (fun f o H' R l w e q => ?_) (fun D3 H5 s5 eD3 => ?_)
    · obtain ⟨_, l, w, _, _, e, _⟩ := ata j f o e1 e2
      exact ⟨l, w, e⟩
    · walk_at "rd"
      refine r_ixL (SqL.of e) (atI_get (j := 2) rfl rfl) ?_
      exact q
    walk_at "rd"
    refine ⟨D3, _, rfl, SqL.of eD3, ?_⟩
    walk_at "rd"
    rw [decide_eq_true C.sum]
    exact k _ ((s13.trans s4).trans s5)

theorem er_str {e : Er} : PyData.strOk e.name = true ∧ e.name ≠ "" := by
  cases e <;> (simp only [Er.name]; decide +kernel)

/-! ### the law -/
def spLaw (K : PySem.W.Frag) : Sp := fun vs H Q _ => ∃ a, vs = [.ref a] ∧ Script K H a ∧ ∀ H', Q (.bl true) H'
theorem len_Law {K : PySem.W.Frag} {vs : List V} {H : Hp} {Q : VK} {E : XK} (h : spLaw K vs H Q E) : vs.length = 1 := by
  obtain ⟨_, rfl, _⟩ := h; rfl
structure Mid (K : PySem.W.Frag) (H0 H : Hp) (N M : Nat) (b a kr : Addr) (B : Bk) (L : Lay) (as : List Addr) (ps : List (Addr × Addr × Addr)) : Prop where
  bk : BookAt K H b B L
  ok : B.ok
  inv : ∀ o, o ∈ B.each → o.inv
  orr : OrAt H a as B.each
  kq : Kq H kr ps
  d1 : ∀ x, L.own x ≠ .no → ¬ orfoot a as x ∧ ¬ qfoot kr ps x
  d2 : ¬ orfoot a as kr
  d3 : ¬ qfoot kr ps a
  d4 : a ∉ as
  lp : ps.length ≤ N
  tr : B.trail.length ≤ M
  ln : B.each.length < 40
  same : Same H0 H
  out : ∀ x, L.own x ≠ .no → H0 x = none
  oa : H0 a = none
  okr : H0 kr = none
theorem Mid.ext {K : PySem.W.Frag} {H0 H H' : Hp} {N M : Nat} {b a kr : Addr} {B : Bk} {L : Lay} {as : List Addr} {ps : List (Addr × Addr × Addr)} (m : Mid K H0 H N M b a kr B L as ps) (s : Same H H') : Mid K H0 H' N M b a kr B L as ps :=
  ⟨m.bk.same s, m.ok, m.inv, m.orr.same s, m.kq.same s, m.d1, m.d2, m.d3, m.d4, m.lp, m.tr, m.ln, m.same.trans s, m.out, m.oa, m.okr⟩
theorem Mid.up {K : PySem.W.Frag} {H0 H : Hp} {N M N' M' : Nat} {b a kr : Addr} {B : Bk} {L : Lay} {as : List Addr} {ps : List (Addr × Addr × Addr)} (m : Mid K H0 H N M b a kr B L as ps) (h1 : N ≤ N') (h2 : M ≤ M') : Mid K H0 H N' M' b a kr B L as ps :=
  ⟨m.bk, m.ok, m.inv, m.orr, m.kq, m.d1, m.d2, m.d3, m.d4, Nat.le_trans m.lp h1, Nat.le_trans m.tr h2, m.ln, m.same, m.out, m.oa, m.okr⟩
/-- more is held -/
theorem Mid.seen {K : PySem.W.Frag} {H0 H H' : Hp} {N M N' : Nat} {b a kr : Addr} {B : Bk} {L : Lay} {as : List Addr} {ps ps' : List (Addr × Addr × Addr)} (m : Mid K H0 H N M b a kr B L as ps) (kq : Kq H' kr ps') (bt : But (· = kr) H H') (gr : ∀ x, qfoot kr ps' x → qfoot kr ps x ∨ H x = none) (lp : ps'.length ≤ N') :
    Mid K H0 H' N' M b a kr B L as ps' := by
  have nL : ∀ x, L.own x ≠ .no → ¬ x = kr := fun x z e => (m.d1 x z).2 (by rw [e]; exact .inl rfl)
  have nO : ∀ x, orfoot a as x → ¬ x = kr := fun x z e => m.d2 (by rw [← e]; exact z)
  refine ⟨m.bk.keep bt nL, m.ok, m.inv, m.orr.keep bt nO, kq, fun x z => ⟨(m.d1 x z).1, fun q => ?_⟩, m.d2, fun q => ?_, m.d4, lp, m.tr, m.ln, fun x o e => bt.keep _ _ (m.same _ _ e) fun z => (by rw [z, m.okr] at e; cases e), m.out, m.oa, m.okr⟩
  · rcases gr x q with w | w
    · exact (m.d1 x z).2 w
    · obtain ⟨o, e⟩ := m.bk.dom x z
      rw [e] at w; cases w
  · rcases gr a q with w | w
    · exact m.d3 w
    · rw [m.orr.top] at w; cases w
theorem ok_Law {P : Program} {w : World} {K : PySem.W.Frag} {mg : Str → Option Value} {base : Heap} (T : Tx w K mg) : FnOk P w K mg base CX0 9 (He.fAd K dLaw.at_) (fdO K dLaw.at_) P_Law (spLaw K) := by
  refine T.f_Law.ok sc_Law (fun vs H Q E h => len_Law h) (fun cdv A outer s H vs Q E hr h => ⟨_, PSs.nox ((pss_cons (ps_set (i := 1) sc_Law.nd rfl (Or.inl rfl) (pe_make0 T.mk_Book (ok_BookInit T) (hr.mono (by decide)) rfl T.g_Book T.b_BookInit .nil pass0))
      (pss_cons (ps_set (i := 2) sc_Law.nd rfl (Or.inl rfl) (pe_lst pa_nil))
      (pss_cons (ps_set (i := 3) sc_Law.nd rfl (Or.inl rfl) (pe_lst pa_nil))
      (pss_cons (ps_for PassesOwn.never rfl (pi_range1 (by rfl) T.b_range (pa_cons (pe_op op_fdiv (pe_callB call_len_seq (by rfl) T.b_len (by decide +kernel) (pa_cons (pv 0) pa_nil)) pe_int) pa_nil)) (pg_name (i := 4) sc_Law.nd rfl (Or.inl rfl)) (pss_cons (ps_set (i := 5) sc_Law.nd rfl (Or.inl rfl) (pe_call (ok_LDeedBy T) (hr.mono (by decide)) rfl T.g_LDeedBy T.f_LDeedBy.kp T.b_LDeedBy .nil pass0 (pa_cons (pe_ix ix_list (pv 0) (pe_op op_mul pe_int (pv 4)) (fun _ _ => rfl)) (pa_cons (pe_ix ix_list (pv 0) (pe_op op_add (pe_op op_mul pe_int (pv 4)) pe_int) (fun _ _ => rfl)) (pa_cons (pv 2) (pa_cons (pv 1) pa_nil))))))
      (pss_cons (ps_set (i := 6) sc_Law.nd rfl (Or.inl rfl) (pe_call (ok_LSeen T) (hr.mono (by decide)) rfl T.g_LSeen T.f_LSeen.kp T.b_LSeen .nil pass0 (pa_cons (pv 1) (pa_cons (pe_callB call_len_seq (by rfl) T.b_len (by decide +kernel) (pa_cons (pv 2) pa_nil)) (pa_cons (pv 3) pa_nil)))))
      (pss_cons (ps_set (i := 7) sc_Law.nd rfl (Or.inl rfl) (pe_call (ok_LTried T) (hr.mono (by decide)) rfl T.g_LTried T.f_LTried.kp T.b_LTried .nil pass0 (pa_cons (pv 1) (pa_cons (pe_call (ok_LHanded T) (hr.mono (by decide)) rfl T.g_LHanded T.f_LHanded.kp T.b_LHanded .nil pass0 (pa_cons (pv 5) pa_nil)) pa_nil))))
      (pss_cons (ps_if (pt_val (pe_callB call_isi (by rfl) T.b_isinstance (by decide +kernel) (pa_cons (pv 7) (pa_cons (pe_bltn (v := .ty "str") (by rfl) T.b_str (by decide +kernel) rfl) pa_nil)))) (pss_one (ps_if (pt_cmpR (op_neD hr.units) (pe_call (ok_LSeen T) (hr.mono (by decide)) rfl T.g_LSeen T.f_LSeen.kp T.b_LSeen .nil pass0 (pa_cons (pv 1) (pa_cons (pe_callB call_len_seq (by rfl) T.b_len (by decide +kernel) (pa_cons (pv 2) pa_nil)) (pa_cons (pv 3) pa_nil)))) (pv 6) (nomark _)) (pss_one (ps_ret pe_bl)) pss_nil)) (pss_cons (ps_if (pt_cmpR op_eq (pe_ix ix_tup (pv 5) pe_int (fun _ _ => rfl)) pe_str (nomark _)) (pss_one (ps_expr (pe_bm PySem.F.plainAttrs_list PySem.F.slot_list_append PySem.F.type_list_append mt_append (pv 2) (pa_cons (pe_ix ix_tup (pv 5) pe_int (fun _ _ => rfl)) pa_nil)))) pss_nil)
      (pss_one (ps_if (pt_not (pt_val (pe_call (ok_LChanged T) (hr.mono (by decide)) rfl T.g_LChanged T.f_LChanged.kp T.b_LChanged .nil pass0 (pa_cons (pv 5) (pa_cons (pv 7) (pa_cons (pv 6) (pa_cons (pe_call (ok_LSeen T) (hr.mono (by decide)) rfl T.g_LSeen T.f_LSeen.kp T.b_LSeen .nil pass0 (pa_cons (pv 1) (pa_cons (pe_callB call_len_seq (by rfl) T.b_len (by decide +kernel) (pa_cons (pv 2) pa_nil)) (pa_cons (pv 3) pa_nil)))) pa_nil))))))) (pss_one (ps_ret pe_bl)) pss_nil))))
      (pss_one (ps_if (pt_not (pt_val (pe_call (ok_LAllStand T) (hr.mono (by decide)) rfl T.g_LAllStand T.f_LAllStand.kp T.b_LAllStand .nil pass0 (pa_cons (pv 1) (pa_cons (pv 2) pa_nil))))) (pss_one (ps_ret pe_bl)) pss_nil)))))))
      (pss_one (ps_ret (pe_call (ok_LKeptWell T) (hr.mono (by decide)) rfl T.g_LKeptWell T.f_LKeptWell.kp T.b_LKeptWell .nil pass0 (pa_cons (pv 3) pa_nil))))))))), ?_⟩)
  obtain ⟨s, rfl, S0, k⟩ := h
  obtain ⟨ns, hs0, hn⟩ := id S0
  have ki : ∀ H'', Same H H'' → SqL K H'' s (ns.map V.int) := fun H'' q => SqL.keep hs0 fun o e => q _ _ e
  walk_at "rd"
  intro b dx nb ndx ne
  refine ⟨b, dx, rfl, upd_same, fun L1 H1 h1 bt1 own1 _ => ⟨rfl, ?_⟩⟩
  have N1 : New L1 H H1 := ⟨bt1.made (made_same nb ndx) nb, made_own own1 nb⟩
  walk_at "rd"
  refine r_mk (by simp) fun a ha => ?_
  have s2 := same_upd (o := .lst []) ha
  walk_at "rd"
  refine r_mk (by simp) fun kr hkr => ?_
  have s3 := same_upd (o := .lst []) hkr
  have ea := s3 _ _ (upd_same (H := H1) (a := a) (o := .lst []))
  have ek : upd (upd H1 a (.lst [])) kr (.lst []) kr = some (.lst []) := upd_same
  have dak : a ≠ kr := ne_of_none upd_same hkr
  have nk : H1 kr = none := (upd_none hkr).2
  have s13 := s2.trans s3
  revert ea ek s13
  generalize upd (upd H1 a (.lst [])) kr (.lst []) = H3
  intro ea ek s13
  have na : L1.own a = .no := h1.fresh ha
  have nkr : L1.own kr = .no := h1.fresh nk
  have M0 : Mid K H H3 0 0 b a kr ⟨[], []⟩ L1 [] [] := ⟨h1.same s13, ok0, (fun o h => by cases h), ⟨ea, rfl, fun j l o e => by simp at e⟩, ⟨ek, (fun u hu => by cases hu), fun u hu => by cases hu⟩, fun x z => ⟨fun q => ?_, fun q => ?_⟩, fun q => ?_, fun q => ?_, by simp, Nat.le_refl _, Nat.le_refl _, by show 0 < 40; decide, N1.same.trans s13, N1.own, Same.free N1.same ha, Same.free N1.same nk⟩
  rotate_left
  · rcases q with q | q
    · rw [q] at z; exact z na
    · cases q
  · rcases q with q | ⟨u, hu, _⟩
    · rw [q] at z; exact z nkr
    · cases hu
  · rcases q with q | q
    · exact dak q.symm
    · cases q
  · rcases q with q | ⟨u, hu, _⟩
    · exact dak q
    · cases hu
  walk_at "rd"
  refine ⟨s, _, rfl, .inl (ki _ M0.same), ?_⟩
  rw [List.length_map]
  walk_at "rd"
  walk_at "md"
  refine ⟨_, rfl, by omega, by omega, for_range (lo := 0) (n := (((ns.length : Nat) : Int) / 2).toNat) (fun i σ H' => ∃ (B : Bk) (L : Lay) (as : List Addr) (ps : List (Addr × Addr × Addr)) (v4 v5 v6 v7 : Option V), σ = [some (.ref s), some (.ref b), some (.ref a), some (.ref kr), v4, v5, v6, v7] ∧ Mid K H H' (200 * i) i b a kr B L as ps)
    ⟨⟨[], []⟩, L1, [], [], none, none, none, none, rfl, M0⟩ ?_ ?_⟩
  · rintro i σ H6 hi ⟨B, L, as, ps, v4, v5, v6, v7, rfl, M⟩
    rw [Int.zero_add]
    have hs6 := ki _ M.same
    have l1 : 2 * i + 1 < ns.length := by omega
    have ln6 := M.ln
    have lp6 := M.lp
    have tr6 := M.tr
    walk_at "rd"
    walk_at "ml"
    refine r_ixL hs6 (atI_get (j := 2 * i) (by omega) (int_at (by omega))) ?_
    walk_at "rd"
    walk_at "ml"
    walk_at "rd"
    refine r_ixL hs6 (atI_get (j := 2 * i + 1) (by omega) (int_at (by omega))) ?_
    walk_at "rd"
    refine ⟨_, _, a, as, b, B, L, rfl, M.orr, M.bk, M.ok, M.inv, fun v d H7 s7 hd g gd => ?_⟩
    have M7 := M.ext s7
    have gd1 : ∀ ls, d = .ord ls → Good ls := fun ls e => (gd ls e).1
    have few : d.few := Good.few' gd1
    walk_at "rd"
    refine ⟨a, _, rfl, .inl (SqL.of M7.orr.top), ?_⟩
    rw [List.length_map, M7.orr.len]
    walk_at "rd"
    refine ⟨b, B, L, kr, ps, rfl, M7.bk, M7.ok, M7.inv, by omega, M7.kq, fun x z => (M7.d1 x z).2, by omega, fun sa ps8 H8 sn8 kq8 lp8 bt8 st8 gr8 => ?_⟩
    have M8 := M7.seen kq8 bt8 gr8 (N' := 200 * i + 80) (by omega)
    have hk6 : ∀ l, H6 l = none → ¬ l = kr := fun l e z => by rw [z, M.kq.at_] at e; cases e
    have hd8 : DdAt (fun l => H6 l = none) H8 v d := hd.keep bt8 fun l e z => hk6 l e z
    have hk7 : ∀ x, H7 x = none → ¬ x = kr := fun l e z => by rw [z, M7.kq.at_] at e; cases e
    have ha7 : ∀ x, H7 x = none → ¬ x = a := fun l e z => by rw [z, M7.orr.top] at e; cases e
    have hL7 : ∀ x, H7 x = none → L.own x = .no := fun x e => M7.bk.fresh e
    walk_at "rd"
    refine ⟨_, v, d, rfl, hd8, g, fun v' H9 s9 hd9 => ?_⟩
    have M9 := M8.ext s9
    have sn9 := sn8.same s9
    have hd9v := hd8.keep (But.of (S := fun _ => False) s9) fun _ _ => id
    have hd9' : DdAt (fun a => L.own a = .no) H9 v' d := by
      by_cases no : ∃ ls, d = .ord ls
      · obtain ⟨ls, e⟩ := no
        exact hd9.imp fun a f _ => M8.bk.fresh (f ls e)
      · cases d with
        | ord ls => exact absurd ⟨ls, rfl⟩ no
        | ln _ _ _ _ => exact hd9
        | mo _ _ _ => exact hd9
        | mv _ _ _ => exact hd9
    have lp9 := M9.lp
    walk_at "rd"
    refine ⟨b, B, L, v', rfl, M9.bk, M9.ok, by omega, d, hd9', g, few, ?_⟩
    refine tried_by (fun f H2 => (∃ e : Er, f = .str e.name ∧ Same H9 H2) ∨ ∃ es cs L' r, f = .ref r ∧ step B.each d = .ok (es, cs) ∧ BookAt K H2 b ⟨es, B.trail ++ [d]⟩ L' ∧ Mod L L' H9 H2 ∧ Stay H9 H2 ∧ H9 r = none ∧ L'.own r = .no ∧ ChAt H2 r cs) (fun f H10 oc => ?_) ?_
    rotate_left
    · exact ⟨fun e q => ⟨ers_all q, fun H' s => .inl ⟨e, rfl, s⟩⟩, fun es cs q r L' H' a b c e f i => .inr ⟨es, cs, L', r, rfl, q, a, b, c, e, f, i⟩⟩
    rcases oc with ⟨e, rfl, s10⟩ | ⟨es, cs, L', r, rfl, st, bk10, m10, st10, nr, or_, ch⟩
    · have M10 := M9.ext s10
      walk_at "rd"
      refine ⟨a, _, rfl, .inl (SqL.of M10.orr.top), ?_⟩
      rw [List.length_map, M10.orr.len]
      walk_at "rd"
      refine ⟨b, B, L, kr, ps8, rfl, M10.bk, M10.ok, M10.inv, by omega, M10.kq, fun x z => (M10.d1 x z).2, by omega, fun sb ps11 H11 sn11 kq11 lp11 bt11 st11 gr11 => ?_⟩
      have M11 := M10.seen kq11 bt11 gr11 (N' := 200 * (i + 1)) (by omega)
      have sa11 := (sn9.same s10).keep bt11 fun x z => hk7 x z.1
      walk_at "rd"
      refine r_neSeen M11.inv sn11 sa11 ?_
      walk_at "rd"
      have tr11 := M11.tr
      refine ⟨b, B, L, a, as, rfl, M11.bk, M11.ok, M11.orr, M11.inv, by omega, fun H12 s12 => ?_⟩
      walk_at "rd"
      exact ⟨B, L, as, ps11, _, _, _, _, rfl, (M11.ext s12).up (Nat.le_refl _) (by omega)⟩
    · have C := step_chg g gd1 st
      have len := step_len st
      have ok10 := step_ok M9.ok g st
      have inv10 := C.inv M9.inv
      have aL' : ∀ x, L'.own x ≠ .no → L.own x ≠ .no ∨ H9 x = none := m10.grow
      have kq10 : Kq H10 kr ps8 := M9.kq.keep m10.but fun x z w => (M9.d1 x w).2 z
      have orr10 : OrAt H10 a as B.each := M9.orr.keep m10.but fun x z w => (M9.d1 x w).1 z
      have sn10 := sn9.keep m10.but fun x z w => w (hL7 x z.1)
      have hd10 : DdAt (fun l => H6 l = none) H10 v d := hd9v.keep m10.but fun l e w => by
        obtain ⟨o, q⟩ := M.bk.dom l w
        rw [q] at e; cases e
      have na10 : ¬ L'.own a ≠ .no := fun z => by
        rcases aL' a z with q | q
        · exact (M9.d1 a q).1 (.inl rfl)
        · rw [M9.orr.top] at q; cases q
      have ra : r ≠ a := fun z => by rw [z, M9.orr.top] at nr; cases nr
      have rk : r ≠ kr := fun z => by rw [z, M9.kq.at_] at nr; cases nr
      have ns10 : ∀ x, H9 x = none → ¬ orfoot a as x ∧ ¬ qfoot kr ps8 x := fun x e => by
        refine ⟨fun z => ?_, fun z => ?_⟩
        · obtain ⟨o, q⟩ := M9.orr.dom z
          rw [q] at e; cases e
        · obtain ⟨o, q⟩ := M9.kq.dom z
          rw [q] at e; cases e
      obtain ⟨xs, er, pr⟩ := ch
      walk_at "rd"
      refine r_is_lst_str er ?_
      walk_at "rs"
      with_reducible refine r_join (fun σ' H' => ∃ as' : List Addr, OrAt H' a as' es ∧ (∀ x, x ∈ as' → x ∈ as ∨ (x ≠ kr ∧ L'.own x = .no ∧ ¬ qfoot kr ps8 x ∧ x ≠ a)) ∧ But (· = a) H10 H' ∧ Stay H10 H' ∧
        σ' = [some (.ref s), some (.ref b), some (.ref a), some (.ref kr), some (.int (i : Int)), some v, some (.ref sa), some (.ref r)]) ?_ fun N hN => ?_
      rotate_left
      · walk_at "rd"
        by_cases no : ∃ ls, d = .ord ls
        · obtain ⟨ls, rfl⟩ := no
          obtain ⟨t, l, ys, rfl, ht, hl, fl, pl⟩ := id hd10
          have e' : stepOrd B.each ls = .ok (es, cs) := st
          unfold stepOrd at e'
          split at e'
          · cases e'
          cases e'
          refine r_ixT (SqT.of ht) (atI_get (j := 0) rfl rfl) ?_
          walk_at "rd"
          refine r_ity rfl ?_
          walk_at "rd"
          refine r_tyL (SqL.of orr10.top) ?_
          walk_at "rd"
          refine r_ixT (SqT.of ht) (atI_get (j := 1) rfl rfl) ?_
          walk_at "rd"
          refine r_app orr10.top (by rw [List.length_map, orr10.len]; exact sz5l (by omega)) ?_
          have b11 : But (· = a) H10 (upd H10 a (.lst (as.map V.ref ++ [.ref l]))) := But.lst orr10.top rfl
          have la : l ≠ a := fun z => by
            rw [z, M.orr.top] at fl; cases fl
          have lk : l ≠ kr := hk6 l fl
          have bs : (ls.map Lt.ln).map Ln.base = ls := by
            rw [List.map_map]
            have : (Ln.base ∘ Lt.ln) = id := by funext t; rfl
            rw [this, List.map_id]
          walk_at "rd"
          refine hN _ _ ⟨as ++ [l], ⟨by rw [upd_same, List.map_append]; rfl, by simp [orr10.len], fun j g o e1 e2 => ?_⟩, fun x hx => ?_, b11, fun x e => (upd_none e).2, rfl⟩
          · by_cases hj : j < as.length
            · rw [List.getElem?_append_left hj] at e1
              rw [List.getElem?_append_left (by rw [← orr10.len]; exact hj)] at e2
              obtain ⟨zs, q1, q2⟩ := orr10.at_ j g o e1 e2
              exact ⟨zs, b11.keep _ _ q1 (fun z => by rw [← show g = a from z] at M; exact M9.d4 (by rw [← show g = a from z]; exact List.mem_of_getElem? e1)), b11.lts q2⟩
            · have hj2 : j = as.length := by
                have := (List.getElem?_eq_some_iff.mp e1).1
                simp at this
                omega
              subst hj2
              rw [List.getElem?_append_right (Nat.le_refl _), Nat.sub_self] at e1
              cases e1
              rw [List.getElem?_append_right (by rw [orr10.len]; exact Nat.le_refl _), orr10.len, Nat.sub_self] at e2
              cases e2
              refine ⟨ys, b11.keep _ _ hl la, ?_⟩
              rw [bs]
              exact b11.lts pl
          · rcases List.mem_append.mp hx with z | z
            · exact .inl z
            · rw [List.mem_singleton.mp z]
              refine .inr ⟨lk, Classical.byContradiction fun w => ?_, fun w => ?_, la⟩
              · rcases aL' l w with q | q
                · obtain ⟨o, e⟩ := M.bk.dom l q
                  rw [e] at fl; cases fl
                · obtain ⟨o, e⟩ : ∃ o, H9 l = some o := by
                    obtain ⟨t', l', ys', et', ht', hl', _⟩ := hd9v
                    cases et'
                    rw [m10.but.tup _ _ ht'] at ht
                    cases ht
                    exact ⟨_, hl'⟩
                  rw [e] at q; cases q
              · rcases gr8 l w with q | q
                · obtain ⟨o, e⟩ := M.kq.dom q
                  rw [e] at fl; cases fl
                · obtain ⟨t', l', ys', et', ht', hl', _⟩ := hd
                  cases et'
                  have h8t := bt8.tup _ _ ht'
                  have h10t := m10.but.tup _ _ (s9 _ _ h8t)
                  rw [h10t] at ht
                  cases ht
                  rw [hl'] at q; cases q
        · obtain ⟨t, o1, rr, rfl, ht, nw, _⟩ := dd_form g hd10 fun ls e => no ⟨ls, e⟩
          refine r_ixT (SqT.of ht) (atI_get (j := 0) rfl rfl) ?_
          walk_at "rd"
          refine r_itz nw ?_
          walk_at "rd"
          have le := len.2.1 fun ls e => no ⟨ls, e⟩
          refine hN _ _ ⟨as, ⟨orr10.top, by rw [orr10.len, le], fun j g o e1 e2 => ?_⟩, fun x hx => .inl hx, But.refl, fun _ e => e, rfl⟩
          have hj := (List.getElem?_eq_some_iff.mp e2).1
          have eo : B.each[j]? = some B.each[j] := List.getElem?_eq_getElem (by omega)
          obtain ⟨zs, q1, q2⟩ := orr10.at_ j g _ e1 eo
          obtain ⟨_, _, _, _, _, q⟩ := C.at_ j _ o eo e2
          exact ⟨zs, q1, by rw [q]; exact q2⟩
      rintro σ' H12 ⟨as', orr12, mem', b12, st12, rfl⟩
      have nfa : ∀ x, L'.own x ≠ .no → ¬ x = a := fun x z w => na10 (by rw [← w]; exact z)
      have bk12 := bk10.keep b12 nfa
      have kq12 : Kq H12 kr ps8 := kq10.keep b12 fun x z w => M9.d3 (by rw [← show x = a from w]; exact z)
      have l48 : es.length < 40 := by
        by_cases no : ∃ ls, d = .ord ls
        · have := len.2.2 no
          obtain ⟨ls, e⟩ := no
          have := (gd ls e).2
          omega
        · have := len.2.1 fun ls e => no ⟨ls, e⟩
          omega
      have M12 : Mid K H H12 (200 * i + 80) (i + 1) b a kr ⟨es, B.trail ++ [d]⟩ L' as' ps8 := by
        refine ⟨bk12, ok10, inv10, orr12, kq12, fun x z => ⟨fun w => ?_, fun w => ?_⟩, fun w => ?_, M9.d3, fun w => ?_, lp9, by simp; omega, l48, fun x o e => ?_, fun x z => ?_, M9.oa, M9.okr⟩
        · rcases w with w | w
          · exact nfa x z w
          · rcases mem' x w with q | q
            · rcases aL' x z with y | y
              · exact (M9.d1 x y).1 (.inr q)
              · exact (ns10 x y).1 (.inr q)
            · exact z q.2.1
        · rcases aL' x z with y | y
          · exact (M9.d1 x y).2 w
          · exact (ns10 x y).2 w
        · rcases w with w | w
          · exact M9.d2 (.inl w)
          · rcases mem' kr w with q | q
            · exact M9.d2 (.inr q)
            · exact q.1 rfl
        · rcases mem' a w with q | q
          · exact M9.d4 q
          · exact q.2.2.2 rfl
        · exact b12.keep _ _ (m10.but.keep _ _ (M9.same _ _ e) fun z => by rw [M9.out x z] at e; cases e) fun z => by rw [show x = a from z, M9.oa] at e; cases e
        · rcases aL' x z with y | y
          · exact M9.out x y
          · exact Same.free M9.same y
      have er12 := b12.keep _ _ er ra
      have pr12 := b12.prs pr
      have sn12 := sn10.keep b12 fun x z w => ha7 x z.1 w
      have hd12 : DdAt (fun l => H6 l = none) H12 v d := hd10.keep b12 fun l e w => by rw [show l = a from w, M.orr.top] at e; cases e
      walk_at "rd"
      refine ⟨a, _, rfl, .inl (SqL.of orr12.top), ?_⟩
      rw [List.length_map, orr12.len]
      walk_at "rd"
      have tr12 := M12.tr
      refine ⟨b, ⟨es, B.trail ++ [d]⟩, L', kr, ps8, rfl, bk12, ok10, inv10, by omega, kq12, fun x z => (M12.d1 x z).2, by omega, fun sb ps14 H14 sn14 kq14 lp14 bt14 st14 gr14 => ?_⟩
      have lp14' : ps14.length ≤ ps8.length + 2 * es.length := lp14
      have M14 := M12.seen kq14 bt14 gr14 (N' := 200 * (i + 1)) (by omega)
      have er14 := bt14.keep _ _ er12 rk
      have pr14 := bt14.prs pr12
      have sn12' := sn12.keep bt14 fun x z w => hk7 x z.1 w
      have hd14 := hd12.keep bt14 fun l e w => hk6 l e w
      walk_at "rd"
      refine ⟨_, v, d, r, cs, _, _, sa, sb, B.each, es, rfl, hd14, g, ⟨xs, er14, pr14⟩, sn12', sn14, C, ?_, by omega, by have := cs_len st; omega, M9.inv, inv10, fun H15 s15 => ?_⟩
      · by_cases no : ∃ ls, d = .ord ls
        · have := len.2.2 no
          omega
        · have := len.2.1 fun ls e => no ⟨ls, e⟩
          omega
      have M15 := M14.ext s15
      walk_at "rd"
      refine ⟨b, ⟨es, B.trail ++ [d]⟩, L', a, as', rfl, M15.bk, ok10, M15.orr, inv10, by omega, fun H16 s16 => ?_⟩
      walk_at "rd"
      exact ⟨_, L', as', ps14, _, _, _, _, rfl, M15.ext s16⟩
  · rintro σ H6 ⟨B, L, as, ps, v4, v5, v6, v7, rfl, M⟩
    walk_at "rd"
    exact ⟨kr, ps, rfl, M.kq, k _⟩

theorem Tx.b_Law_args {w : World} {K : PySem.W.Frag} {mg : Str → Option Value} (T : Tx w K mg) (s : Shared) (v : Value) : BindsTo s (fdO K dLaw.at_) ⟨[v], []⟩ [("_law_script", v)] := by
  have b := FunD.bindsA (ps := ["_law_script"]) T.f_Law fun _ _ _ _ _ _ us hl => match us, hl with | [_], _ => rfl
  exact b s [v] rfl
theorem law_start {K : PySem.W.Frag} {H : Hp} {a : Addr} {ns : List Int} (hs : SqL K H a (ns.map V.int)) (hl : ns.length ≤ 63) : spLaw K [.ref a] H (fun v _ => v = .bl true) fun _ _ _ => False := ⟨a, rfl, ⟨ns, hs, hl⟩, fun _ => rfl⟩
end Of
open PySem PySem.W PySem.Calls PyProof.Rows
set_option maxRecDepth 100000 in
set_option maxHeartbeats 0 in
theorem PySem.Challenge.cw_orderflow_k11_whole_owed_and_kept_holds : PySem.Challenge.rw_orderflow_k11_whole_owed_and_kept.Holds := by
  w_on; o_law
  refine HandSHeadRun.head_any (r := OpenLaw.row PySem.Challenge.rw_orderflow_k11_whole_owed_and_kept) (q := view (OpenLaw.row PySem.Challenge.rw_orderflow_k11_whole_owed_and_kept).prog [47]) (H := Of.hk) (ob := Of.ob) (M := 20000) (loose := Of.names) (d := HandSHeadRun.topDef (OpenLaw.row PySem.Challenge.rw_orderflow_k11_whole_owed_and_kept).prog 47) (kwd := []) Of.ob_eq
    (by kernel_rfl) (fun s => by kernel_rfl) Of.run (by kernel_rfl) (by kernel_rfl) (by kernel_rfl) (by rfl) (by first | assumption | decide +kernel) (by decide +kernel) ⟨rfl, rfl, rfl, rfl, rfl, by decide +kernel⟩ ?hw ?hc
  case hw => w_witness2
  case hc =>
    refine L2.walk_ofE (l := PySem.Challenge.rw_orderflow_k11_whole_owed_and_kept) (n := 63) (k := 9) (x := "_law_script") (CX := L2.CX0) rfl (by decide) (by kernel_rfl) ⟨rfl, by decide, by decide⟩ ?F (fun _ _ _ _ z => z)
    intro w mg fa h Y G hm0
    obtain ⟨K, KX, c⟩ := Y
    have T : Of.Tx w K mg := Of.tx_of KX G c
    have hm : mg ("law" : PySem.Str) = some (.ref fa) := by
      have e : (HandSHeadRun.topDef (OpenLaw.row PySem.Challenge.rw_orderflow_k11_whole_owed_and_kept).prog 47).name = ("law" : PySem.Str) := by kernel_rfl
      rw [← e]
      exact hm0
    have ef : fa = He.fAd K Of.dLaw.at_ := by
      have q := hm.symm.trans T.g_Law
      cases q
      rfl
    rw [ef]
    exact ⟨K, Of.fdO K Of.dLaw.at_, Of.spLaw K, KX, fun s v => T.b_Law_args s v, fun H a ns hl _ hS => Of.law_start hS hl, fun base _ _ => Of.ok_Law T⟩
#print axioms PySem.Challenge.cw_orderflow_k11_whole_owed_and_kept_holds
