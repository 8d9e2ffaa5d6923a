import PyProof.Rows.All
import Wide.All
import OpenK.AllK
import Wide.FinOn
import KE.KStateDown
import Lean
import HandS.ForMost
import HandS.ForExc
import HandS.More
import HandS.TryMany
import HandS.Walk
import HandS.IsInst
import HandS.ExcIs
import HandS.Defaults
import HandS.Head0
import HandS.Head1
import HandS.Head2
import HandS.HeadEnd
import HandS.HeadHook1
import HandS.HeadHook2
import HandS.HeadHook3
import HandS.HeadHook4
import HandS.HotCalls
import PySem.Challenge.RW_orderflow_k06_deeds_refused
set_option Elab.async false
set_option linter.all false
set_option maxRecDepth 100000
set_option maxHeartbeats 0
namespace Of
open PySem PySem.Spec PyProof.Rows L2
/-! ### a written dict of text keys, whole -/
theorem kd_of {K : PySem.W.Frag} {w : World} {a : Addr} {ks : List Str} (h : He.dicW K a = some (He.keysIn w.params ks)) :
    ∃ es n, K.lookup a = some ⟨.type "dict", none, .dict es n, #[]⟩ ∧ PySem.W.KeysLit w.params es.toList ∧ es.toList.map He.keyOf = He.keysIn w.params ks ∧ (a == sysModules) = false := by
  obtain ⟨es, n, D⟩ := He.dicW_ok h
  refine ⟨es, n, D.at_, D.lit, ?_, D.low⟩
  unfold He.dicW at h
  rw [D.at_] at h
  have e2 : (match decide ((("dict" : String)) = "dict") && ((#[] : Array (Option Value)).isEmpty && !(a == sysModules)) with
    | true => some (es.toList.map He.keyOf)
    | false => none) = some (He.keysIn w.params ks) := h
  have e3 : (decide ((("dict" : String)) = "dict") && ((#[] : Array (Option Value)).isEmpty && !(a == sysModules))) = true := by
    rw [D.low]; rfl
  rw [e3] at e2
  exact Option.some.inj e2

/-! ### what an error's class says, for isinstance -/
def excB (K : PySem.W.Frag) (D : Addr) : Bool := decide (PySem.W.findIn K (.ref D) "__getattribute__" = some (some (.builtin "BaseException.__getattribute__"))) && (decide (PySem.W.findIn K (.ref D) "__getattr__" = some none) &&
  (decide (PySem.W.subIn K (.ref D) (.type "BaseException") = some true) && (PySem.W.hasDictIn K D && (decide (PySem.W.findIn K (.ref D) "__class__" = some (some (.builtin "object.__class__"))) &&
  (decide (PySem.W.specialIn K (.builtin "object.__class__") "__get__" = some (some (.builtin "getset_descriptor.__get__"))) && (decide (PySem.W.takesIn K (.builtin "object.__class__") = some true) && decide (PySem.W.mroIn K D (.type "object") = some true)))))))
theorem excB_ok {K : PySem.W.Frag} {D : Addr} (h : excB K D = true) : ExcC K D := by
  obtain ⟨h1, h⟩ := He.ba h
  obtain ⟨h2, h⟩ := He.ba h
  obtain ⟨h3, h⟩ := He.ba h
  obtain ⟨h4, h⟩ := He.ba h
  obtain ⟨h5, h⟩ := He.ba h
  obtain ⟨h6, h⟩ := He.ba h
  obtain ⟨h7, h8⟩ := He.ba h
  exact ⟨of_decide_eq_true h1, of_decide_eq_true h2, of_decide_eq_true h3, h4, of_decide_eq_true h5, of_decide_eq_true h6, of_decide_eq_true h7, of_decide_eq_true h8⟩
def excAll (K : PySem.W.Frag) (xs : List Str) : Bool := xs.all fun x => excB K (He.ga K x) && (decide (PySem.W.kitOne K (.ref (He.ga K x)) (.type "ValueError") = some true) && xs.all fun y => decide (PySem.W.kitOne K (.ref (He.ga K x)) (.ref (He.ga K y)) = some (decide (x = y))))
theorem excAll_ok {K : PySem.W.Frag} {xs : List Str} (h : excAll K xs = true) {x : Str} (hx : x ∈ xs) : ExcC K (He.ga K x) ∧ PySem.W.kitOne K (.ref (He.ga K x)) (.type "ValueError") = some true ∧
    ∀ y, y ∈ xs → PySem.W.kitOne K (.ref (He.ga K x)) (.ref (He.ga K y)) = some (decide (x = y)) := by
  obtain ⟨h1, h⟩ := He.ba (List.all_eq_true.mp h x hx)
  obtain ⟨h2, h3⟩ := He.ba h
  exact ⟨excB_ok h1, of_decide_eq_true h2, fun y hy => of_decide_eq_true (List.all_eq_true.mp h3 y hy)⟩
/-- isinstance(e, C) in a handler -/
def rIsX (K : PySem.W.Frag) (cls : Value) (d : Option Addr) (a : Addr) : List V → Hp → VK → Prop := fun xs H Q => ∃ (D : Addr) (c : V) (cv : Value) (b : Bool), cls = .ref D ∧ d = none ∧ ExcC K D ∧ xs = [.ref a, c] ∧ ClsV c cv ∧ PySem.W.kitOne K (.ref D) cv = some b ∧ Q (.bl b) H
theorem call_isX {X : Cx} {K : PySem.W.Frag} {a : Addr} {cls : Value} {d : Option Addr} {oe : Obj} {pn : List (Addr × Obj)} (eK : X.K = K) (hz : Zc cls d oe) (hf : ∃ vs, oe.data = .fields vs) : CallR (X.suite a ((a, oe) :: pn)) (.builtin "isinstance") (rIsX K cls d a) := by
  subst eK
  intro pins s σ H xs us Q I r h
  obtain ⟨D, c, cv, b, rfl, rfl, C, rfl, hc, e, q⟩ := h
  exact call_isE C hz hf pins s σ H _ us Q I r ⟨c, cv, b, rfl, fun u ru => hc.eq ru, e, q⟩
/-! ### the text by places -/
def top (i : Nat) : Stmt := PySem.Challenge.pw_orderflow_k06_deeds_refused.main.body.getD i (.Pass ⟨0, 0, 0, 0⟩)
abbrev sWorth : Stmt := top 19
abbrev sIsItem : Stmt := top 20
abbrev sCheckLine : Stmt := top 21
abbrev sLineInit : Stmt := inClass (top 22) 0
abbrev sLineKept : Stmt := inClass (top 22) 1
abbrev sLineToCome : Stmt := inClass (top 22) 2
abbrev sLineKeptWorth : Stmt := inClass (top 22) 3
abbrev sLineCharge : Stmt := inClass (top 22) 4
abbrev sLineDeliver : Stmt := inClass (top 22) 5
abbrev sLineBring : Stmt := inClass (top 22) 6
abbrev sLineReduce : Stmt := inClass (top 22) 7
abbrev sLineNumbers : Stmt := inClass (top 22) 8
abbrev sMatched : Stmt := top 24
abbrev sOrderInit : Stmt := inClass (top 26) 0
abbrev sOrderOwing : Stmt := inClass (top 26) 1
abbrev sOrderLineOf : Stmt := inClass (top 26) 2
abbrev sOrderNeedOver : Stmt := inClass (top 26) 3
abbrev sOrderTurnLine : Stmt := inClass (top 26) 4
abbrev sOrderTake : Stmt := inClass (top 26) 5
abbrev sOrderMark : Stmt := inClass (top 26) 6
abbrev sOwn : Stmt := top 31
abbrev sBookInit : Stmt := inClass (top 32) 0
abbrev sBookOrderOf : Stmt := inClass (top 32) 1
abbrev sBookDo : Stmt := inClass (top 32) 2
abbrev sBookBegin : Stmt := inClass (top 32) 3
abbrev sBookShift : Stmt := inClass (top 32) 4
abbrev sBookOne : Stmt := inClass (top 32) 5
abbrev sBookNeedNumber : Stmt := inClass (top 32) 6
abbrev sBookUndo : Stmt := inClass (top 32) 7
abbrev sBookOrders : Stmt := inClass (top 32) 8
abbrev sBookTold : Stmt := inClass (top 32) 9
abbrev sBookPaid : Stmt := inClass (top 32) 10
abbrev sBookOwed : Stmt := inClass (top 32) 11
abbrev sBookRows : Stmt := inClass (top 32) 12
abbrev sBookNet : Stmt := inClass (top 32) 14
abbrev sLCellAt : Stmt := top 34
abbrev sLTried : Stmt := top 35
abbrev sLFarBy : Stmt := top 36
abbrev sLWordBy : Stmt := top 37
abbrev sLDeedBy : Stmt := top 38
abbrev sLBegun : Stmt := top 39
abbrev sLMost : Stmt := top 40
abbrev sLDue : Stmt := top 41
abbrev sLOfOneClass : Stmt := top 42
abbrev sLRefusedByAny : Stmt := top 43
abbrev sLSeen : Stmt := top 44
abbrev sLKeptWell : Stmt := top 45
abbrev sLMadeGood : Stmt := top 46
abbrev sLGoodLater : Stmt := top 47
abbrev sLDeedAsked : Stmt := top 48
abbrev sLaw : Stmt := top 49
def dWorth : He.DefD := ⟨("worth", none), "worth", "worth", defArgs sWorth, defBody sWorth, defScope sWorth, [], []⟩
def dIsItem : He.DefD := ⟨("is_item", none), "is_item", "is_item", defArgs sIsItem, defBody sIsItem, defScope sIsItem, [], []⟩
def dCheckLine : He.DefD := ⟨("check_line", none), "check_line", "check_line", defArgs sCheckLine, defBody sCheckLine, defScope sCheckLine, [], []⟩
def dLineInit : He.DefD := ⟨("Line", some "__init__"), "__init__", "Line.__init__", defArgs sLineInit, defBody sLineInit, defScope sLineInit, [], []⟩
def dLineKept : He.DefD := ⟨("Line", some "kept"), "kept", "Line.kept", defArgs sLineKept, defBody sLineKept, defScope sLineKept, [], []⟩
def dLineToCome : He.DefD := ⟨("Line", some "to_come"), "to_come", "Line.to_come", defArgs sLineToCome, defBody sLineToCome, defScope sLineToCome, [], []⟩
def dLineKeptWorth : He.DefD := ⟨("Line", some "kept_worth"), "kept_worth", "Line.kept_worth", defArgs sLineKeptWorth, defBody sLineKeptWorth, defScope sLineKeptWorth, [], []⟩
def dLineCharge : He.DefD := ⟨("Line", some "charge"), "charge", "Line.charge", defArgs sLineCharge, defBody sLineCharge, defScope sLineCharge, [], []⟩
def dLineDeliver : He.DefD := ⟨("Line", some "deliver"), "deliver", "Line.deliver", defArgs sLineDeliver, defBody sLineDeliver, defScope sLineDeliver, [], []⟩
def dLineBring : He.DefD := ⟨("Line", some "bring"), "bring", "Line.bring", defArgs sLineBring, defBody sLineBring, defScope sLineBring, [], []⟩
def dLineReduce : He.DefD := ⟨("Line", some "reduce"), "reduce", "Line.reduce", defArgs sLineReduce, defBody sLineReduce, defScope sLineReduce, [], []⟩
def dLineNumbers : He.DefD := ⟨("Line", some "numbers"), "numbers", "Line.numbers", defArgs sLineNumbers, defBody sLineNumbers, defScope sLineNumbers, [], []⟩
def dMatched : He.DefD := ⟨("matched", none), "matched", "matched", defArgs sMatched, defBody sMatched, defScope sMatched, [], []⟩
def dOrderInit : He.DefD := ⟨("Order", some "__init__"), "__init__", "Order.__init__", defArgs sOrderInit, defBody sOrderInit, defScope sOrderInit, [], []⟩
def dOrderOwing : He.DefD := ⟨("Order", some "owing"), "owing", "Order.owing", defArgs sOrderOwing, defBody sOrderOwing, defScope sOrderOwing, [], []⟩
def dOrderLineOf : He.DefD := ⟨("Order", some "line_of"), "line_of", "Order.line_of", defArgs sOrderLineOf, defBody sOrderLineOf, defScope sOrderLineOf, [], []⟩
def dOrderNeedOver : He.DefD := ⟨("Order", some "need_over"), "need_over", "Order.need_over", defArgs sOrderNeedOver, defBody sOrderNeedOver, defScope sOrderNeedOver, [], []⟩
def dOrderTurnLine : He.DefD := ⟨("Order", some "turn_line"), "turn_line", "Order.turn_line", defArgs sOrderTurnLine, defBody sOrderTurnLine, defScope sOrderTurnLine, [], []⟩
def dOrderTake : He.DefD := ⟨("Order", some "take"), "take", "Order.take", defArgs sOrderTake, defBody sOrderTake, defScope sOrderTake, [], []⟩
def dOrderMark : He.DefD := ⟨("Order", some "mark"), "mark", "Order.mark", defArgs sOrderMark, defBody sOrderMark, defScope sOrderMark, [], []⟩
def dOwn : He.DefD := ⟨("own", none), "own", "own", defArgs sOwn, defBody sOwn, defScope sOwn, [], []⟩
def dBookInit : He.DefD := ⟨("Book", some "__init__"), "__init__", "Book.__init__", defArgs sBookInit, defBody sBookInit, defScope sBookInit, [], []⟩
def dBookOrderOf : He.DefD := ⟨("Book", some "order_of"), "order_of", "Book.order_of", defArgs sBookOrderOf, defBody sBookOrderOf, defScope sBookOrderOf, [], []⟩
def dBookDo : He.DefD := ⟨("Book", some "do"), "do", "Book.do", defArgs sBookDo, defBody sBookDo, defScope sBookDo, [], []⟩
def dBookBegin : He.DefD := ⟨("Book", some "begin"), "begin", "Book.begin", defArgs sBookBegin, defBody sBookBegin, defScope sBookBegin, [], []⟩
def dBookShift : He.DefD := ⟨("Book", some "shift"), "shift", "Book.shift", defArgs sBookShift, defBody sBookShift, defScope sBookShift, [], []⟩
def dBookOne : He.DefD := ⟨("Book", some "one"), "one", "Book.one", defArgs sBookOne, defBody sBookOne, defScope sBookOne, [], []⟩
def dBookNeedNumber : He.DefD := ⟨("Book", some "need_number"), "need_number", "Book.need_number", defArgs sBookNeedNumber, defBody sBookNeedNumber, defScope sBookNeedNumber, [], []⟩
def dBookUndo : He.DefD := ⟨("Book", some "undo"), "undo", "Book.undo", defArgs sBookUndo, defBody sBookUndo, defScope sBookUndo, [], []⟩
def dBookOrders : He.DefD := ⟨("Book", some "orders"), "orders", "Book.orders", defArgs sBookOrders, defBody sBookOrders, defScope sBookOrders, [], []⟩
def dBookTold : He.DefD := ⟨("Book", some "told"), "told", "Book.told", defArgs sBookTold, defBody sBookTold, defScope sBookTold, [], []⟩
def dBookPaid : He.DefD := ⟨("Book", some "paid"), "paid", "Book.paid", defArgs sBookPaid, defBody sBookPaid, defScope sBookPaid, [], []⟩
def dBookOwed : He.DefD := ⟨("Book", some "owed"), "owed", "Book.owed", defArgs sBookOwed, defBody sBookOwed, defScope sBookOwed, [], []⟩
def dBookRows : He.DefD := ⟨("Book", some "rows"), "rows", "Book.rows", defArgs sBookRows, defBody sBookRows, defScope sBookRows, [], []⟩
def dBookNet : He.DefD := ⟨("Book", some "net"), "net", "Book.net", defArgs sBookNet, defBody sBookNet, defScope sBookNet, [], []⟩
def dLCellAt : He.DefD := ⟨("_law_cell_at", none), "_law_cell_at", "_law_cell_at", defArgs sLCellAt, defBody sLCellAt, defScope sLCellAt, [], []⟩
def dLTried : He.DefD := ⟨("_law_tried", none), "_law_tried", "_law_tried", defArgs sLTried, defBody sLTried, defScope sLTried, [], []⟩
def dLFarBy : He.DefD := ⟨("_law_far_by", none), "_law_far_by", "_law_far_by", defArgs sLFarBy, defBody sLFarBy, defScope sLFarBy, [], []⟩
def dLWordBy : He.DefD := ⟨("_law_word_by", none), "_law_word_by", "_law_word_by", defArgs sLWordBy, defBody sLWordBy, defScope sLWordBy, [], []⟩
def dLDeedBy : He.DefD := ⟨("_law_deed_by", none), "_law_deed_by", "_law_deed_by", defArgs sLDeedBy, defBody sLDeedBy, defScope sLDeedBy, [], []⟩
def dLBegun : He.DefD := ⟨("_law_begun", none), "_law_begun", "_law_begun", defArgs sLBegun, defBody sLBegun, defScope sLBegun, [], []⟩
def dLMost : He.DefD := ⟨("_law_most", none), "_law_most", "_law_most", defArgs sLMost, defBody sLMost, defScope sLMost, [], []⟩
def dLDue : He.DefD := ⟨("_law_due", none), "_law_due", "_law_due", defArgs sLDue, defBody sLDue, defScope sLDue, [], []⟩
def dLOfOneClass : He.DefD := ⟨("_law_of_one_class", none), "_law_of_one_class", "_law_of_one_class", defArgs sLOfOneClass, defBody sLOfOneClass, defScope sLOfOneClass, [], []⟩
def dLRefusedByAny : He.DefD := ⟨("_law_refused_by_any", none), "_law_refused_by_any", "_law_refused_by_any", defArgs sLRefusedByAny, defBody sLRefusedByAny, defScope sLRefusedByAny, [], []⟩
def dLSeen : He.DefD := ⟨("_law_seen", none), "_law_seen", "_law_seen", defArgs sLSeen, defBody sLSeen, defScope sLSeen, [], []⟩
def dLKeptWell : He.DefD := ⟨("_law_kept_well", none), "_law_kept_well", "_law_kept_well", defArgs sLKeptWell, defBody sLKeptWell, defScope sLKeptWell, [], []⟩
def dLMadeGood : He.DefD := ⟨("_law_made_good", none), "_law_made_good", "_law_made_good", defArgs sLMadeGood, defBody sLMadeGood, defScope sLMadeGood, [], []⟩
def dLGoodLater : He.DefD := ⟨("_law_good_later", none), "_law_good_later", "_law_good_later", defArgs sLGoodLater, defBody sLGoodLater, defScope sLGoodLater, [], []⟩
def dLDeedAsked : He.DefD := ⟨("_law_deed_asked", none), "_law_deed_asked", "_law_deed_asked", defArgs sLDeedAsked, defBody sLDeedAsked, defScope sLDeedAsked, [], []⟩
def dLaw : He.DefD := ⟨("law", none), "law", "law", defArgs sLaw, defBody sLaw, defScope sLaw, [], []⟩
def fn : List He.DefD := ([dWorth, dIsItem, dCheckLine, dLineInit, dLineKept, dLineToCome, dLineKeptWorth, dLineCharge, dLineDeliver, dLineBring, dLineReduce, dLineNumbers] : List He.DefD) ++ ([dMatched, dOrderInit, dOrderOwing, dOrderLineOf, dOrderNeedOver, dOrderTurnLine, dOrderTake, dOrderMark, dOwn, dBookInit, dBookOrderOf, dBookDo] : List He.DefD) ++ ([dBookBegin, dBookShift, dBookOne, dBookNeedNumber, dBookUndo, dBookOrders, dBookTold, dBookPaid, dBookOwed, dBookRows, dBookNet, dLCellAt] : List He.DefD) ++ ([dLTried, dLFarBy, dLWordBy, dLDeedBy, dLBegun, dLMost, dLDue, dLOfOneClass, dLRefusedByAny, dLSeen, dLKeptWell, dLMadeGood] : List He.DefD) ++ ([dLGoodLater, dLDeedAsked, dLaw] : List He.DefD)
def fa : List He.Fa := ([.glo "worth", .glo "is_item", .glo "check_line", .glo "matched", .glo "own", .glo "_law_cell_at", .glo "_law_tried", .glo "_law_far_by", .glo "_law_word_by", .glo "_law_deed_by", .glo "_law_begun", .glo "_law_most"] : List He.Fa) ++ ([.glo "_law_due", .glo "_law_of_one_class", .glo "_law_refused_by_any", .glo "_law_seen", .glo "_law_kept_well", .glo "_law_made_good", .glo "_law_good_later", .glo "_law_deed_asked", .glo "law", .free "ValueError", .free "abs", .free "int"] : List He.Fa) ++ ([.free "isinstance", .free "len", .free "list", .free "max", .free "min", .free "range", .free "str", .free "sum", .free "tuple", .str "LETTERS" "abcdefghijklmnopqrstuvwxyz", .int "MOST_LETTERS" 12, .int "MOST_PIECES" 1000000] : List He.Fa) ++ ([.int "MOST_CENTS" 1000000000, .int "MOST_PACK" 1000, .glo "PARTS", .int "MOST_LINES" 20, .int "MOST_ORDERS" 40, .glo "FlowError", .exc "FlowError", .glo "NoDeed", .exc "NoDeed", .glo "NoLines", .exc "NoLines", .glo "NoItem"] : List He.Fa) ++ ([.exc "NoItem", .glo "NoNumber", .exc "NoNumber", .glo "FullBook", .exc "FullBook", .glo "NoOrder", .exc "NoOrder", .glo "SameOrder", .exc "SameOrder", .glo "NoLine", .exc "NoLine", .glo "TooMuch"] : List He.Fa) ++ ([.exc "TooMuch", .glo "NothingDone", .exc "NothingDone", .glo "Line", .cls "Line", .noat "Line" "item", .noat "Line" "ordered", .noat "Line" "cents", .noat "Line" "pack", .noat "Line" "sent", .noat "Line" "home", .noat "Line" "again"] : List He.Fa) ++ ([.noat "Line" "credited", .mkr "Line", .meth "Line" "kept", .meth "Line" "to_come", .meth "Line" "kept_worth", .meth "Line" "charge", .meth "Line" "deliver", .meth "Line" "bring", .meth "Line" "reduce", .meth "Line" "numbers", .glo "Order", .cls "Order"] : List He.Fa) ++ ([.noat "Order" "lines", .noat "Order" "money", .noat "Order" "marks", .mkr "Order", .meth "Order" "owing", .meth "Order" "line_of", .meth "Order" "need_over", .meth "Order" "turn_line", .meth "Order" "take", .meth "Order" "mark", .glo "Book", .cls "Book"] : List He.Fa) ++ ([.noat "Book" "each", .noat "Book" "trail", .mkr "Book", .meth "Book" "order_of", .meth "Book" "do", .meth "Book" "begin", .meth "Book" "shift", .meth "Book" "one", .meth "Book" "need_number", .meth "Book" "undo", .meth "Book" "orders", .meth "Book" "told"] : List He.Fa) ++ ([.meth "Book" "paid", .meth "Book" "owed", .meth "Book" "rows", .meth "Book" "net", .exm "NoDeed" "FlowError" true, .exm "NoLines" "FlowError" true, .exm "NoItem" "FlowError" true, .exm "NoNumber" "FlowError" true, .exm "FullBook" "FlowError" true, .exm "NoOrder" "FlowError" true, .exm "SameOrder" "FlowError" true, .exm "NoLine" "FlowError" true] : List He.Fa) ++ ([.exm "TooMuch" "FlowError" true, .exm "NothingDone" "FlowError" true, .exm "NoDeed" "FullBook" false, .exm "NoLines" "FullBook" false, .exm "NoItem" "FullBook" false, .exm "NoNumber" "FullBook" false, .exm "FullBook" "FullBook" true, .exm "NoOrder" "FullBook" false, .exm "SameOrder" "FullBook" false, .exm "NoLine" "FullBook" false, .exm "TooMuch" "FullBook" false, .exm "NothingDone" "FullBook" false] : List He.Fa) ++ ([.exm "NoDeed" "NoDeed" true, .exm "NoLines" "NoDeed" false, .exm "NoItem" "NoDeed" false, .exm "NoNumber" "NoDeed" false, .exm "FullBook" "NoDeed" false, .exm "NoOrder" "NoDeed" false, .exm "SameOrder" "NoDeed" false, .exm "NoLine" "NoDeed" false, .exm "TooMuch" "NoDeed" false, .exm "NothingDone" "NoDeed" false, .exm "NoDeed" "NoItem" false, .exm "NoLines" "NoItem" false] : List He.Fa) ++ ([.exm "NoItem" "NoItem" true, .exm "NoNumber" "NoItem" false, .exm "FullBook" "NoItem" false, .exm "NoOrder" "NoItem" false, .exm "SameOrder" "NoItem" false, .exm "NoLine" "NoItem" false, .exm "TooMuch" "NoItem" false, .exm "NothingDone" "NoItem" false, .exm "NoDeed" "NoLine" false, .exm "NoLines" "NoLine" false, .exm "NoItem" "NoLine" false, .exm "NoNumber" "NoLine" false] : List He.Fa) ++ ([.exm "FullBook" "NoLine" false, .exm "NoOrder" "NoLine" false, .exm "SameOrder" "NoLine" false, .exm "NoLine" "NoLine" true, .exm "TooMuch" "NoLine" false, .exm "NothingDone" "NoLine" false, .exm "NoDeed" "NoLines" false, .exm "NoLines" "NoLines" true, .exm "NoItem" "NoLines" false, .exm "NoNumber" "NoLines" false, .exm "FullBook" "NoLines" false, .exm "NoOrder" "NoLines" false] : List He.Fa) ++ ([.exm "SameOrder" "NoLines" false, .exm "NoLine" "NoLines" false, .exm "TooMuch" "NoLines" false, .exm "NothingDone" "NoLines" false, .exm "NoDeed" "NoNumber" false, .exm "NoLines" "NoNumber" false, .exm "NoItem" "NoNumber" false, .exm "NoNumber" "NoNumber" true, .exm "FullBook" "NoNumber" false, .exm "NoOrder" "NoNumber" false, .exm "SameOrder" "NoNumber" false, .exm "NoLine" "NoNumber" false] : List He.Fa) ++ ([.exm "TooMuch" "NoNumber" false, .exm "NothingDone" "NoNumber" false, .exm "NoDeed" "NoOrder" false, .exm "NoLines" "NoOrder" false, .exm "NoItem" "NoOrder" false, .exm "NoNumber" "NoOrder" false, .exm "FullBook" "NoOrder" false, .exm "NoOrder" "NoOrder" true, .exm "SameOrder" "NoOrder" false, .exm "NoLine" "NoOrder" false, .exm "TooMuch" "NoOrder" false, .exm "NothingDone" "NoOrder" false] : List He.Fa) ++ ([.exm "NoDeed" "SameOrder" false, .exm "NoLines" "SameOrder" false, .exm "NoItem" "SameOrder" false, .exm "NoNumber" "SameOrder" false, .exm "FullBook" "SameOrder" false, .exm "NoOrder" "SameOrder" false, .exm "SameOrder" "SameOrder" true, .exm "NoLine" "SameOrder" false, .exm "TooMuch" "SameOrder" false, .exm "NothingDone" "SameOrder" false, .exm "NoDeed" "TooMuch" false, .exm "NoLines" "TooMuch" false] : List He.Fa) ++ ([.exm "NoItem" "TooMuch" false, .exm "NoNumber" "TooMuch" false, .exm "FullBook" "TooMuch" false, .exm "NoOrder" "TooMuch" false, .exm "SameOrder" "TooMuch" false, .exm "NoLine" "TooMuch" false, .exm "TooMuch" "TooMuch" true, .exm "NothingDone" "TooMuch" false] : List He.Fa)
def ts : List He.Tab := [(fun K => He.ga K "PARTS", ["order", "deliver", "back", "swap", "credit", "pay", "refund", "move"])]
def parts : List (Str × Int) := [("order", 2), ("deliver", 4), ("back", 4), ("swap", 4), ("credit", 4), ("pay", 3), ("refund", 3), ("move", 4)]
def exNames : List Str := ["NoDeed", "NoLines", "NoItem", "NoNumber", "FullBook", "NoOrder", "SameOrder", "NoLine", "TooMuch", "NothingDone"]
def ex (K : PySem.W.Frag) : Bool := He.valsB K (He.ga K "PARTS") (parts.map fun p => (p.1, He.Dv.int p.2)) && excAll K exNames
abbrev R : PySem.W.OpenRow := PySem.W.OpenLaw.row PySem.Challenge.rw_orderflow_k06_deeds_refused
abbrev qv : Program := PySem.W.view R.prog [49]
abbrev hk : PySem.W.Hook := He.hookX 5 fa fn ts [] ex
def ob (s : PySem.W.SharedT) : He.AlX := He.obsX 5 fa fn ts [] ex (HandSHeadRun.getT s)
theorem ob_eq (s : PySem.W.SharedT) : ob s = hk.obs s.abs := He.obsX_eq (HandSHeadRun.getT_eq s)
def names : List PySem.Str := (["_wall", "FlowError", "NoDeed", "NoLines", "NoItem", "NoNumber", "FullBook", "NoOrder", "SameOrder", "NoLine", "TooMuch", "NothingDone"] : List PySem.Str) ++ (["LETTERS", "MOST_LETTERS", "MOST_PIECES", "MOST_CENTS", "MOST_PACK", "worth", "is_item", "check_line", "Line", "matched", "Order", "PARTS"] : List PySem.Str) ++ (["MOST_LINES", "MOST_ORDERS", "own", "Book", "_law_cell_at", "_law_tried", "_law_far_by", "_law_word_by", "_law_deed_by", "_law_begun", "_law_most", "_law_due"] : List PySem.Str) ++ (["_law_of_one_class", "_law_refused_by_any", "_law_seen", "_law_kept_well", "_law_made_good", "_law_good_later", "_law_deed_asked"] : List PySem.Str)
/-! ### what the walk asks of the text -/
def fdO (K : PySem.W.Frag) (p : Str × Option Str) : FuncData := match K.lookup (He.fAd K p) with
  | some ⟨_, _, .func fd, _⟩ => fd
  | _ => PySem.W.fnOf "" "" ⟨[], [], none, [], [], none, []⟩ [] default .none .none .none .none none .none .none
theorem fdO_of {K : PySem.W.Frag} {p : Str × Option Str} {x qual : Str} {params : Arguments} {body : List Stmt} {scope : Scope} {dvs : List V} {kws : List (Str × V)} {fd : FuncData} (F : FunD K x qual params body scope dvs kws (He.fAd K p) fd) :
    FunD K x qual params body scope dvs kws (He.fAd K p) (fdO K p) := by
  obtain ⟨oc, od, dV, kV, doc, pm, an, cdv, ct, osl, e, lk, _⟩ := F.ex
  have q : fdO K p = fd := by
    unfold fdO
    rw [lk]
  rw [q]
  exact F
theorem gi_ok {K : PySem.W.Frag} {h : Heap} {mg : Str → Option Value} (X : K.In h) (G : h.Ns mainGlobals mg) {x : Str} {i : Int} (c : (He.Fa.int x i).ok K = true) : ∃ u, mg x = some u ∧ RelV (.int i) u := by
  obtain ⟨t, h⟩ := He.int_ok X G c
  exact ⟨_, h, t, rfl⟩
theorem gs_ok {K : PySem.W.Frag} {h : Heap} {mg : Str → Option Value} (X : K.In h) (G : h.Ns mainGlobals mg) {x z : Str} (c : (He.Fa.str x z).ok K = true) : ∃ u, mg x = some u ∧ RelV (.str z) u := by
  obtain ⟨t, h⟩ := He.str_ok X G c
  exact ⟨_, h, t, rfl⟩
structure Tx (w : World) (K : PySem.W.Frag) (mg : Str → Option Value) : Prop where
  g_Worth : mg "worth" = some (.ref (He.ga K "worth"))
  g_IsItem : mg "is_item" = some (.ref (He.ga K "is_item"))
  g_CheckLine : mg "check_line" = some (.ref (He.ga K "check_line"))
  g_Matched : mg "matched" = some (.ref (He.ga K "matched"))
  g_Own : mg "own" = some (.ref (He.ga K "own"))
  g_LCellAt : mg "_law_cell_at" = some (.ref (He.ga K "_law_cell_at"))
  g_LTried : mg "_law_tried" = some (.ref (He.ga K "_law_tried"))
  g_LFarBy : mg "_law_far_by" = some (.ref (He.ga K "_law_far_by"))
  g_LWordBy : mg "_law_word_by" = some (.ref (He.ga K "_law_word_by"))
  g_LDeedBy : mg "_law_deed_by" = some (.ref (He.ga K "_law_deed_by"))
  g_LBegun : mg "_law_begun" = some (.ref (He.ga K "_law_begun"))
  g_LMost : mg "_law_most" = some (.ref (He.ga K "_law_most"))
  g_LDue : mg "_law_due" = some (.ref (He.ga K "_law_due"))
  g_LOfOneClass : mg "_law_of_one_class" = some (.ref (He.ga K "_law_of_one_class"))
  g_LRefusedByAny : mg "_law_refused_by_any" = some (.ref (He.ga K "_law_refused_by_any"))
  g_LSeen : mg "_law_seen" = some (.ref (He.ga K "_law_seen"))
  g_LKeptWell : mg "_law_kept_well" = some (.ref (He.ga K "_law_kept_well"))
  g_LMadeGood : mg "_law_made_good" = some (.ref (He.ga K "_law_made_good"))
  g_LGoodLater : mg "_law_good_later" = some (.ref (He.ga K "_law_good_later"))
  g_LDeedAsked : mg "_law_deed_asked" = some (.ref (He.ga K "_law_deed_asked"))
  g_Law : mg "law" = some (.ref (He.ga K "law"))
  b_ValueError : mg "ValueError" = none
  b_abs : mg "abs" = none
  b_int : mg "int" = none
  b_isinstance : mg "isinstance" = none
  b_len : mg "len" = none
  b_list : mg "list" = none
  b_max : mg "max" = none
  b_min : mg "min" = none
  b_range : mg "range" = none
  b_str : mg "str" = none
  b_sum : mg "sum" = none
  b_tuple : mg "tuple" = none
  c_LETTERS : ∃ u, mg "LETTERS" = some u ∧ RelV (.str "abcdefghijklmnopqrstuvwxyz") u
  c_MOST_LETTERS : ∃ u, mg "MOST_LETTERS" = some u ∧ RelV (.int 12) u
  c_MOST_PIECES : ∃ u, mg "MOST_PIECES" = some u ∧ RelV (.int 1000000) u
  c_MOST_CENTS : ∃ u, mg "MOST_CENTS" = some u ∧ RelV (.int 1000000000) u
  c_MOST_PACK : ∃ u, mg "MOST_PACK" = some u ∧ RelV (.int 1000) u
  c_PARTS : mg "PARTS" = some (.ref (He.ga K "PARTS"))
  c_MOST_LINES : ∃ u, mg "MOST_LINES" = some u ∧ RelV (.int 20) u
  c_MOST_ORDERS : ∃ u, mg "MOST_ORDERS" = some u ∧ RelV (.int 40) u
  g_FlowError : mg "FlowError" = some (.ref (He.ga K "FlowError"))
  x_FlowError : PySem.W.excIn K (He.ga K "FlowError") He.veBase "ValueError.__new__" = true ∧ PySem.W.keepIn K (.ref (He.ga K "FlowError")) = true ∧ PySem.W.subIn K (.ref (He.ga K "FlowError")) (.type "BaseException") = some true ∧ PySem.W.typeIn K (.ref (He.ga K "FlowError")) = some (.type "type")
  g_NoDeed : mg "NoDeed" = some (.ref (He.ga K "NoDeed"))
  x_NoDeed : PySem.W.excIn K (He.ga K "NoDeed") He.veBase "ValueError.__new__" = true ∧ PySem.W.keepIn K (.ref (He.ga K "NoDeed")) = true ∧ PySem.W.subIn K (.ref (He.ga K "NoDeed")) (.type "BaseException") = some true ∧ PySem.W.typeIn K (.ref (He.ga K "NoDeed")) = some (.type "type")
  g_NoLines : mg "NoLines" = some (.ref (He.ga K "NoLines"))
  x_NoLines : PySem.W.excIn K (He.ga K "NoLines") He.veBase "ValueError.__new__" = true ∧ PySem.W.keepIn K (.ref (He.ga K "NoLines")) = true ∧ PySem.W.subIn K (.ref (He.ga K "NoLines")) (.type "BaseException") = some true ∧ PySem.W.typeIn K (.ref (He.ga K "NoLines")) = some (.type "type")
  g_NoItem : mg "NoItem" = some (.ref (He.ga K "NoItem"))
  x_NoItem : PySem.W.excIn K (He.ga K "NoItem") He.veBase "ValueError.__new__" = true ∧ PySem.W.keepIn K (.ref (He.ga K "NoItem")) = true ∧ PySem.W.subIn K (.ref (He.ga K "NoItem")) (.type "BaseException") = some true ∧ PySem.W.typeIn K (.ref (He.ga K "NoItem")) = some (.type "type")
  g_NoNumber : mg "NoNumber" = some (.ref (He.ga K "NoNumber"))
  x_NoNumber : PySem.W.excIn K (He.ga K "NoNumber") He.veBase "ValueError.__new__" = true ∧ PySem.W.keepIn K (.ref (He.ga K "NoNumber")) = true ∧ PySem.W.subIn K (.ref (He.ga K "NoNumber")) (.type "BaseException") = some true ∧ PySem.W.typeIn K (.ref (He.ga K "NoNumber")) = some (.type "type")
  g_FullBook : mg "FullBook" = some (.ref (He.ga K "FullBook"))
  x_FullBook : PySem.W.excIn K (He.ga K "FullBook") He.veBase "ValueError.__new__" = true ∧ PySem.W.keepIn K (.ref (He.ga K "FullBook")) = true ∧ PySem.W.subIn K (.ref (He.ga K "FullBook")) (.type "BaseException") = some true ∧ PySem.W.typeIn K (.ref (He.ga K "FullBook")) = some (.type "type")
  g_NoOrder : mg "NoOrder" = some (.ref (He.ga K "NoOrder"))
  x_NoOrder : PySem.W.excIn K (He.ga K "NoOrder") He.veBase "ValueError.__new__" = true ∧ PySem.W.keepIn K (.ref (He.ga K "NoOrder")) = true ∧ PySem.W.subIn K (.ref (He.ga K "NoOrder")) (.type "BaseException") = some true ∧ PySem.W.typeIn K (.ref (He.ga K "NoOrder")) = some (.type "type")
  g_SameOrder : mg "SameOrder" = some (.ref (He.ga K "SameOrder"))
  x_SameOrder : PySem.W.excIn K (He.ga K "SameOrder") He.veBase "ValueError.__new__" = true ∧ PySem.W.keepIn K (.ref (He.ga K "SameOrder")) = true ∧ PySem.W.subIn K (.ref (He.ga K "SameOrder")) (.type "BaseException") = some true ∧ PySem.W.typeIn K (.ref (He.ga K "SameOrder")) = some (.type "type")
  g_NoLine : mg "NoLine" = some (.ref (He.ga K "NoLine"))
  x_NoLine : PySem.W.excIn K (He.ga K "NoLine") He.veBase "ValueError.__new__" = true ∧ PySem.W.keepIn K (.ref (He.ga K "NoLine")) = true ∧ PySem.W.subIn K (.ref (He.ga K "NoLine")) (.type "BaseException") = some true ∧ PySem.W.typeIn K (.ref (He.ga K "NoLine")) = some (.type "type")
  g_TooMuch : mg "TooMuch" = some (.ref (He.ga K "TooMuch"))
  x_TooMuch : PySem.W.excIn K (He.ga K "TooMuch") He.veBase "ValueError.__new__" = true ∧ PySem.W.keepIn K (.ref (He.ga K "TooMuch")) = true ∧ PySem.W.subIn K (.ref (He.ga K "TooMuch")) (.type "BaseException") = some true ∧ PySem.W.typeIn K (.ref (He.ga K "TooMuch")) = some (.type "type")
  g_NothingDone : mg "NothingDone" = some (.ref (He.ga K "NothingDone"))
  x_NothingDone : PySem.W.excIn K (He.ga K "NothingDone") He.veBase "ValueError.__new__" = true ∧ PySem.W.keepIn K (.ref (He.ga K "NothingDone")) = true ∧ PySem.W.subIn K (.ref (He.ga K "NothingDone")) (.type "BaseException") = some true ∧ PySem.W.typeIn K (.ref (He.ga K "NothingDone")) = some (.type "type")
  g_Line : mg "Line" = some (.ref (He.ga K "Line"))
  cl_Line : Cls K (He.ga K "Line")
  n_Line_item : NoAttr K (He.ga K "Line") "item"
  n_Line_ordered : NoAttr K (He.ga K "Line") "ordered"
  n_Line_cents : NoAttr K (He.ga K "Line") "cents"
  n_Line_pack : NoAttr K (He.ga K "Line") "pack"
  n_Line_sent : NoAttr K (He.ga K "Line") "sent"
  n_Line_home : NoAttr K (He.ga K "Line") "home"
  n_Line_again : NoAttr K (He.ga K "Line") "again"
  n_Line_credited : NoAttr K (He.ga K "Line") "credited"
  mk_Line : Mk K (He.ga K "Line") (He.ma K (He.ga K "Line") "__init__")
  m_Line_kept : Meth K (He.ga K "Line") "kept" (He.ma K (He.ga K "Line") "kept")
  m_Line_to_come : Meth K (He.ga K "Line") "to_come" (He.ma K (He.ga K "Line") "to_come")
  m_Line_kept_worth : Meth K (He.ga K "Line") "kept_worth" (He.ma K (He.ga K "Line") "kept_worth")
  m_Line_charge : Meth K (He.ga K "Line") "charge" (He.ma K (He.ga K "Line") "charge")
  m_Line_deliver : Meth K (He.ga K "Line") "deliver" (He.ma K (He.ga K "Line") "deliver")
  m_Line_bring : Meth K (He.ga K "Line") "bring" (He.ma K (He.ga K "Line") "bring")
  m_Line_reduce : Meth K (He.ga K "Line") "reduce" (He.ma K (He.ga K "Line") "reduce")
  m_Line_numbers : Meth K (He.ga K "Line") "numbers" (He.ma K (He.ga K "Line") "numbers")
  g_Order : mg "Order" = some (.ref (He.ga K "Order"))
  cl_Order : Cls K (He.ga K "Order")
  n_Order_lines : NoAttr K (He.ga K "Order") "lines"
  n_Order_money : NoAttr K (He.ga K "Order") "money"
  n_Order_marks : NoAttr K (He.ga K "Order") "marks"
  mk_Order : Mk K (He.ga K "Order") (He.ma K (He.ga K "Order") "__init__")
  m_Order_owing : Meth K (He.ga K "Order") "owing" (He.ma K (He.ga K "Order") "owing")
  m_Order_line_of : Meth K (He.ga K "Order") "line_of" (He.ma K (He.ga K "Order") "line_of")
  m_Order_need_over : Meth K (He.ga K "Order") "need_over" (He.ma K (He.ga K "Order") "need_over")
  m_Order_turn_line : Meth K (He.ga K "Order") "turn_line" (He.ma K (He.ga K "Order") "turn_line")
  m_Order_take : Meth K (He.ga K "Order") "take" (He.ma K (He.ga K "Order") "take")
  m_Order_mark : Meth K (He.ga K "Order") "mark" (He.ma K (He.ga K "Order") "mark")
  g_Book : mg "Book" = some (.ref (He.ga K "Book"))
  cl_Book : Cls K (He.ga K "Book")
  n_Book_each : NoAttr K (He.ga K "Book") "each"
  n_Book_trail : NoAttr K (He.ga K "Book") "trail"
  mk_Book : Mk K (He.ga K "Book") (He.ma K (He.ga K "Book") "__init__")
  m_Book_order_of : Meth K (He.ga K "Book") "order_of" (He.ma K (He.ga K "Book") "order_of")
  m_Book_do : Meth K (He.ga K "Book") "do" (He.ma K (He.ga K "Book") "do")
  m_Book_begin : Meth K (He.ga K "Book") "begin" (He.ma K (He.ga K "Book") "begin")
  m_Book_shift : Meth K (He.ga K "Book") "shift" (He.ma K (He.ga K "Book") "shift")
  m_Book_one : Meth K (He.ga K "Book") "one" (He.ma K (He.ga K "Book") "one")
  m_Book_need_number : Meth K (He.ga K "Book") "need_number" (He.ma K (He.ga K "Book") "need_number")
  m_Book_undo : Meth K (He.ga K "Book") "undo" (He.ma K (He.ga K "Book") "undo")
  m_Book_orders : Meth K (He.ga K "Book") "orders" (He.ma K (He.ga K "Book") "orders")
  m_Book_told : Meth K (He.ga K "Book") "told" (He.ma K (He.ga K "Book") "told")
  m_Book_paid : Meth K (He.ga K "Book") "paid" (He.ma K (He.ga K "Book") "paid")
  m_Book_owed : Meth K (He.ga K "Book") "owed" (He.ma K (He.ga K "Book") "owed")
  m_Book_rows : Meth K (He.ga K "Book") "rows" (He.ma K (He.ga K "Book") "rows")
  m_Book_net : Meth K (He.ga K "Book") "net" (He.ma K (He.ga K "Book") "net")
  e_NoDeed_FlowError : PySem.W.exmOne K (.ref (He.ga K "NoDeed")) (.ref (He.ga K "FlowError")) = some true
  e_NoLines_FlowError : PySem.W.exmOne K (.ref (He.ga K "NoLines")) (.ref (He.ga K "FlowError")) = some true
  e_NoItem_FlowError : PySem.W.exmOne K (.ref (He.ga K "NoItem")) (.ref (He.ga K "FlowError")) = some true
  e_NoNumber_FlowError : PySem.W.exmOne K (.ref (He.ga K "NoNumber")) (.ref (He.ga K "FlowError")) = some true
  e_FullBook_FlowError : PySem.W.exmOne K (.ref (He.ga K "FullBook")) (.ref (He.ga K "FlowError")) = some true
  e_NoOrder_FlowError : PySem.W.exmOne K (.ref (He.ga K "NoOrder")) (.ref (He.ga K "FlowError")) = some true
  e_SameOrder_FlowError : PySem.W.exmOne K (.ref (He.ga K "SameOrder")) (.ref (He.ga K "FlowError")) = some true
  e_NoLine_FlowError : PySem.W.exmOne K (.ref (He.ga K "NoLine")) (.ref (He.ga K "FlowError")) = some true
  e_TooMuch_FlowError : PySem.W.exmOne K (.ref (He.ga K "TooMuch")) (.ref (He.ga K "FlowError")) = some true
  e_NothingDone_FlowError : PySem.W.exmOne K (.ref (He.ga K "NothingDone")) (.ref (He.ga K "FlowError")) = some true
  e_NoDeed_FullBook : PySem.W.exmOne K (.ref (He.ga K "NoDeed")) (.ref (He.ga K "FullBook")) = some false
  e_NoLines_FullBook : PySem.W.exmOne K (.ref (He.ga K "NoLines")) (.ref (He.ga K "FullBook")) = some false
  e_NoItem_FullBook : PySem.W.exmOne K (.ref (He.ga K "NoItem")) (.ref (He.ga K "FullBook")) = some false
  e_NoNumber_FullBook : PySem.W.exmOne K (.ref (He.ga K "NoNumber")) (.ref (He.ga K "FullBook")) = some false
  e_FullBook_FullBook : PySem.W.exmOne K (.ref (He.ga K "FullBook")) (.ref (He.ga K "FullBook")) = some true
  e_NoOrder_FullBook : PySem.W.exmOne K (.ref (He.ga K "NoOrder")) (.ref (He.ga K "FullBook")) = some false
  e_SameOrder_FullBook : PySem.W.exmOne K (.ref (He.ga K "SameOrder")) (.ref (He.ga K "FullBook")) = some false
  e_NoLine_FullBook : PySem.W.exmOne K (.ref (He.ga K "NoLine")) (.ref (He.ga K "FullBook")) = some false
  e_TooMuch_FullBook : PySem.W.exmOne K (.ref (He.ga K "TooMuch")) (.ref (He.ga K "FullBook")) = some false
  e_NothingDone_FullBook : PySem.W.exmOne K (.ref (He.ga K "NothingDone")) (.ref (He.ga K "FullBook")) = some false
  e_NoDeed_NoDeed : PySem.W.exmOne K (.ref (He.ga K "NoDeed")) (.ref (He.ga K "NoDeed")) = some true
  e_NoLines_NoDeed : PySem.W.exmOne K (.ref (He.ga K "NoLines")) (.ref (He.ga K "NoDeed")) = some false
  e_NoItem_NoDeed : PySem.W.exmOne K (.ref (He.ga K "NoItem")) (.ref (He.ga K "NoDeed")) = some false
  e_NoNumber_NoDeed : PySem.W.exmOne K (.ref (He.ga K "NoNumber")) (.ref (He.ga K "NoDeed")) = some false
  e_FullBook_NoDeed : PySem.W.exmOne K (.ref (He.ga K "FullBook")) (.ref (He.ga K "NoDeed")) = some false
  e_NoOrder_NoDeed : PySem.W.exmOne K (.ref (He.ga K "NoOrder")) (.ref (He.ga K "NoDeed")) = some false
  e_SameOrder_NoDeed : PySem.W.exmOne K (.ref (He.ga K "SameOrder")) (.ref (He.ga K "NoDeed")) = some false
  e_NoLine_NoDeed : PySem.W.exmOne K (.ref (He.ga K "NoLine")) (.ref (He.ga K "NoDeed")) = some false
  e_TooMuch_NoDeed : PySem.W.exmOne K (.ref (He.ga K "TooMuch")) (.ref (He.ga K "NoDeed")) = some false
  e_NothingDone_NoDeed : PySem.W.exmOne K (.ref (He.ga K "NothingDone")) (.ref (He.ga K "NoDeed")) = some false
  e_NoDeed_NoItem : PySem.W.exmOne K (.ref (He.ga K "NoDeed")) (.ref (He.ga K "NoItem")) = some false
  e_NoLines_NoItem : PySem.W.exmOne K (.ref (He.ga K "NoLines")) (.ref (He.ga K "NoItem")) = some false
  e_NoItem_NoItem : PySem.W.exmOne K (.ref (He.ga K "NoItem")) (.ref (He.ga K "NoItem")) = some true
  e_NoNumber_NoItem : PySem.W.exmOne K (.ref (He.ga K "NoNumber")) (.ref (He.ga K "NoItem")) = some false
  e_FullBook_NoItem : PySem.W.exmOne K (.ref (He.ga K "FullBook")) (.ref (He.ga K "NoItem")) = some false
  e_NoOrder_NoItem : PySem.W.exmOne K (.ref (He.ga K "NoOrder")) (.ref (He.ga K "NoItem")) = some false
  e_SameOrder_NoItem : PySem.W.exmOne K (.ref (He.ga K "SameOrder")) (.ref (He.ga K "NoItem")) = some false
  e_NoLine_NoItem : PySem.W.exmOne K (.ref (He.ga K "NoLine")) (.ref (He.ga K "NoItem")) = some false
  e_TooMuch_NoItem : PySem.W.exmOne K (.ref (He.ga K "TooMuch")) (.ref (He.ga K "NoItem")) = some false
  e_NothingDone_NoItem : PySem.W.exmOne K (.ref (He.ga K "NothingDone")) (.ref (He.ga K "NoItem")) = some false
  e_NoDeed_NoLine : PySem.W.exmOne K (.ref (He.ga K "NoDeed")) (.ref (He.ga K "NoLine")) = some false
  e_NoLines_NoLine : PySem.W.exmOne K (.ref (He.ga K "NoLines")) (.ref (He.ga K "NoLine")) = some false
  e_NoItem_NoLine : PySem.W.exmOne K (.ref (He.ga K "NoItem")) (.ref (He.ga K "NoLine")) = some false
  e_NoNumber_NoLine : PySem.W.exmOne K (.ref (He.ga K "NoNumber")) (.ref (He.ga K "NoLine")) = some false
  e_FullBook_NoLine : PySem.W.exmOne K (.ref (He.ga K "FullBook")) (.ref (He.ga K "NoLine")) = some false
  e_NoOrder_NoLine : PySem.W.exmOne K (.ref (He.ga K "NoOrder")) (.ref (He.ga K "NoLine")) = some false
  e_SameOrder_NoLine : PySem.W.exmOne K (.ref (He.ga K "SameOrder")) (.ref (He.ga K "NoLine")) = some false
  e_NoLine_NoLine : PySem.W.exmOne K (.ref (He.ga K "NoLine")) (.ref (He.ga K "NoLine")) = some true
  e_TooMuch_NoLine : PySem.W.exmOne K (.ref (He.ga K "TooMuch")) (.ref (He.ga K "NoLine")) = some false
  e_NothingDone_NoLine : PySem.W.exmOne K (.ref (He.ga K "NothingDone")) (.ref (He.ga K "NoLine")) = some false
  e_NoDeed_NoLines : PySem.W.exmOne K (.ref (He.ga K "NoDeed")) (.ref (He.ga K "NoLines")) = some false
  e_NoLines_NoLines : PySem.W.exmOne K (.ref (He.ga K "NoLines")) (.ref (He.ga K "NoLines")) = some true
  e_NoItem_NoLines : PySem.W.exmOne K (.ref (He.ga K "NoItem")) (.ref (He.ga K "NoLines")) = some false
  e_NoNumber_NoLines : PySem.W.exmOne K (.ref (He.ga K "NoNumber")) (.ref (He.ga K "NoLines")) = some false
  e_FullBook_NoLines : PySem.W.exmOne K (.ref (He.ga K "FullBook")) (.ref (He.ga K "NoLines")) = some false
  e_NoOrder_NoLines : PySem.W.exmOne K (.ref (He.ga K "NoOrder")) (.ref (He.ga K "NoLines")) = some false
  e_SameOrder_NoLines : PySem.W.exmOne K (.ref (He.ga K "SameOrder")) (.ref (He.ga K "NoLines")) = some false
  e_NoLine_NoLines : PySem.W.exmOne K (.ref (He.ga K "NoLine")) (.ref (He.ga K "NoLines")) = some false
  e_TooMuch_NoLines : PySem.W.exmOne K (.ref (He.ga K "TooMuch")) (.ref (He.ga K "NoLines")) = some false
  e_NothingDone_NoLines : PySem.W.exmOne K (.ref (He.ga K "NothingDone")) (.ref (He.ga K "NoLines")) = some false
  e_NoDeed_NoNumber : PySem.W.exmOne K (.ref (He.ga K "NoDeed")) (.ref (He.ga K "NoNumber")) = some false
  e_NoLines_NoNumber : PySem.W.exmOne K (.ref (He.ga K "NoLines")) (.ref (He.ga K "NoNumber")) = some false
  e_NoItem_NoNumber : PySem.W.exmOne K (.ref (He.ga K "NoItem")) (.ref (He.ga K "NoNumber")) = some false
  e_NoNumber_NoNumber : PySem.W.exmOne K (.ref (He.ga K "NoNumber")) (.ref (He.ga K "NoNumber")) = some true
  e_FullBook_NoNumber : PySem.W.exmOne K (.ref (He.ga K "FullBook")) (.ref (He.ga K "NoNumber")) = some false
  e_NoOrder_NoNumber : PySem.W.exmOne K (.ref (He.ga K "NoOrder")) (.ref (He.ga K "NoNumber")) = some false
  e_SameOrder_NoNumber : PySem.W.exmOne K (.ref (He.ga K "SameOrder")) (.ref (He.ga K "NoNumber")) = some false
  e_NoLine_NoNumber : PySem.W.exmOne K (.ref (He.ga K "NoLine")) (.ref (He.ga K "NoNumber")) = some false
  e_TooMuch_NoNumber : PySem.W.exmOne K (.ref (He.ga K "TooMuch")) (.ref (He.ga K "NoNumber")) = some false
  e_NothingDone_NoNumber : PySem.W.exmOne K (.ref (He.ga K "NothingDone")) (.ref (He.ga K "NoNumber")) = some false
  e_NoDeed_NoOrder : PySem.W.exmOne K (.ref (He.ga K "NoDeed")) (.ref (He.ga K "NoOrder")) = some false
  e_NoLines_NoOrder : PySem.W.exmOne K (.ref (He.ga K "NoLines")) (.ref (He.ga K "NoOrder")) = some false
  e_NoItem_NoOrder : PySem.W.exmOne K (.ref (He.ga K "NoItem")) (.ref (He.ga K "NoOrder")) = some false
  e_NoNumber_NoOrder : PySem.W.exmOne K (.ref (He.ga K "NoNumber")) (.ref (He.ga K "NoOrder")) = some false
  e_FullBook_NoOrder : PySem.W.exmOne K (.ref (He.ga K "FullBook")) (.ref (He.ga K "NoOrder")) = some false
  e_NoOrder_NoOrder : PySem.W.exmOne K (.ref (He.ga K "NoOrder")) (.ref (He.ga K "NoOrder")) = some true
  e_SameOrder_NoOrder : PySem.W.exmOne K (.ref (He.ga K "SameOrder")) (.ref (He.ga K "NoOrder")) = some false
  e_NoLine_NoOrder : PySem.W.exmOne K (.ref (He.ga K "NoLine")) (.ref (He.ga K "NoOrder")) = some false
  e_TooMuch_NoOrder : PySem.W.exmOne K (.ref (He.ga K "TooMuch")) (.ref (He.ga K "NoOrder")) = some false
  e_NothingDone_NoOrder : PySem.W.exmOne K (.ref (He.ga K "NothingDone")) (.ref (He.ga K "NoOrder")) = some false
  e_NoDeed_SameOrder : PySem.W.exmOne K (.ref (He.ga K "NoDeed")) (.ref (He.ga K "SameOrder")) = some false
  e_NoLines_SameOrder : PySem.W.exmOne K (.ref (He.ga K "NoLines")) (.ref (He.ga K "SameOrder")) = some false
  e_NoItem_SameOrder : PySem.W.exmOne K (.ref (He.ga K "NoItem")) (.ref (He.ga K "SameOrder")) = some false
  e_NoNumber_SameOrder : PySem.W.exmOne K (.ref (He.ga K "NoNumber")) (.ref (He.ga K "SameOrder")) = some false
  e_FullBook_SameOrder : PySem.W.exmOne K (.ref (He.ga K "FullBook")) (.ref (He.ga K "SameOrder")) = some false
  e_NoOrder_SameOrder : PySem.W.exmOne K (.ref (He.ga K "NoOrder")) (.ref (He.ga K "SameOrder")) = some false
  e_SameOrder_SameOrder : PySem.W.exmOne K (.ref (He.ga K "SameOrder")) (.ref (He.ga K "SameOrder")) = some true
  e_NoLine_SameOrder : PySem.W.exmOne K (.ref (He.ga K "NoLine")) (.ref (He.ga K "SameOrder")) = some false
  e_TooMuch_SameOrder : PySem.W.exmOne K (.ref (He.ga K "TooMuch")) (.ref (He.ga K "SameOrder")) = some false
  e_NothingDone_SameOrder : PySem.W.exmOne K (.ref (He.ga K "NothingDone")) (.ref (He.ga K "SameOrder")) = some false
  e_NoDeed_TooMuch : PySem.W.exmOne K (.ref (He.ga K "NoDeed")) (.ref (He.ga K "TooMuch")) = some false
  e_NoLines_TooMuch : PySem.W.exmOne K (.ref (He.ga K "NoLines")) (.ref (He.ga K "TooMuch")) = some false
  e_NoItem_TooMuch : PySem.W.exmOne K (.ref (He.ga K "NoItem")) (.ref (He.ga K "TooMuch")) = some false
  e_NoNumber_TooMuch : PySem.W.exmOne K (.ref (He.ga K "NoNumber")) (.ref (He.ga K "TooMuch")) = some false
  e_FullBook_TooMuch : PySem.W.exmOne K (.ref (He.ga K "FullBook")) (.ref (He.ga K "TooMuch")) = some false
  e_NoOrder_TooMuch : PySem.W.exmOne K (.ref (He.ga K "NoOrder")) (.ref (He.ga K "TooMuch")) = some false
  e_SameOrder_TooMuch : PySem.W.exmOne K (.ref (He.ga K "SameOrder")) (.ref (He.ga K "TooMuch")) = some false
  e_NoLine_TooMuch : PySem.W.exmOne K (.ref (He.ga K "NoLine")) (.ref (He.ga K "TooMuch")) = some false
  e_TooMuch_TooMuch : PySem.W.exmOne K (.ref (He.ga K "TooMuch")) (.ref (He.ga K "TooMuch")) = some true
  e_NothingDone_TooMuch : PySem.W.exmOne K (.ref (He.ga K "NothingDone")) (.ref (He.ga K "TooMuch")) = some false
  f_Worth : FunD K dWorth.name dWorth.qual dWorth.params dWorth.body dWorth.scope [] [] (He.fAd K dWorth.at_) (fdO K dWorth.at_)
  f_IsItem : FunD K dIsItem.name dIsItem.qual dIsItem.params dIsItem.body dIsItem.scope [] [] (He.fAd K dIsItem.at_) (fdO K dIsItem.at_)
  f_CheckLine : FunD K dCheckLine.name dCheckLine.qual dCheckLine.params dCheckLine.body dCheckLine.scope [] [] (He.fAd K dCheckLine.at_) (fdO K dCheckLine.at_)
  f_LineInit : FunD K dLineInit.name dLineInit.qual dLineInit.params dLineInit.body dLineInit.scope [] [] (He.fAd K dLineInit.at_) (fdO K dLineInit.at_)
  f_LineKept : FunD K dLineKept.name dLineKept.qual dLineKept.params dLineKept.body dLineKept.scope [] [] (He.fAd K dLineKept.at_) (fdO K dLineKept.at_)
  f_LineToCome : FunD K dLineToCome.name dLineToCome.qual dLineToCome.params dLineToCome.body dLineToCome.scope [] [] (He.fAd K dLineToCome.at_) (fdO K dLineToCome.at_)
  f_LineKeptWorth : FunD K dLineKeptWorth.name dLineKeptWorth.qual dLineKeptWorth.params dLineKeptWorth.body dLineKeptWorth.scope [] [] (He.fAd K dLineKeptWorth.at_) (fdO K dLineKeptWorth.at_)
  f_LineCharge : FunD K dLineCharge.name dLineCharge.qual dLineCharge.params dLineCharge.body dLineCharge.scope [] [] (He.fAd K dLineCharge.at_) (fdO K dLineCharge.at_)
  f_LineDeliver : FunD K dLineDeliver.name dLineDeliver.qual dLineDeliver.params dLineDeliver.body dLineDeliver.scope [] [] (He.fAd K dLineDeliver.at_) (fdO K dLineDeliver.at_)
  f_LineBring : FunD K dLineBring.name dLineBring.qual dLineBring.params dLineBring.body dLineBring.scope [] [] (He.fAd K dLineBring.at_) (fdO K dLineBring.at_)
  f_LineReduce : FunD K dLineReduce.name dLineReduce.qual dLineReduce.params dLineReduce.body dLineReduce.scope [] [] (He.fAd K dLineReduce.at_) (fdO K dLineReduce.at_)
  f_LineNumbers : FunD K dLineNumbers.name dLineNumbers.qual dLineNumbers.params dLineNumbers.body dLineNumbers.scope [] [] (He.fAd K dLineNumbers.at_) (fdO K dLineNumbers.at_)
  f_Matched : FunD K dMatched.name dMatched.qual dMatched.params dMatched.body dMatched.scope [] [] (He.fAd K dMatched.at_) (fdO K dMatched.at_)
  f_OrderInit : FunD K dOrderInit.name dOrderInit.qual dOrderInit.params dOrderInit.body dOrderInit.scope [] [] (He.fAd K dOrderInit.at_) (fdO K dOrderInit.at_)
  f_OrderOwing : FunD K dOrderOwing.name dOrderOwing.qual dOrderOwing.params dOrderOwing.body dOrderOwing.scope [] [] (He.fAd K dOrderOwing.at_) (fdO K dOrderOwing.at_)
  f_OrderLineOf : FunD K dOrderLineOf.name dOrderLineOf.qual dOrderLineOf.params dOrderLineOf.body dOrderLineOf.scope [] [] (He.fAd K dOrderLineOf.at_) (fdO K dOrderLineOf.at_)
  f_OrderNeedOver : FunD K dOrderNeedOver.name dOrderNeedOver.qual dOrderNeedOver.params dOrderNeedOver.body dOrderNeedOver.scope [] [] (He.fAd K dOrderNeedOver.at_) (fdO K dOrderNeedOver.at_)
  f_OrderTurnLine : FunD K dOrderTurnLine.name dOrderTurnLine.qual dOrderTurnLine.params dOrderTurnLine.body dOrderTurnLine.scope [] [] (He.fAd K dOrderTurnLine.at_) (fdO K dOrderTurnLine.at_)
  f_OrderTake : FunD K dOrderTake.name dOrderTake.qual dOrderTake.params dOrderTake.body dOrderTake.scope [] [] (He.fAd K dOrderTake.at_) (fdO K dOrderTake.at_)
  f_OrderMark : FunD K dOrderMark.name dOrderMark.qual dOrderMark.params dOrderMark.body dOrderMark.scope [] [] (He.fAd K dOrderMark.at_) (fdO K dOrderMark.at_)
  f_Own : FunD K dOwn.name dOwn.qual dOwn.params dOwn.body dOwn.scope [] [] (He.fAd K dOwn.at_) (fdO K dOwn.at_)
  f_BookInit : FunD K dBookInit.name dBookInit.qual dBookInit.params dBookInit.body dBookInit.scope [] [] (He.fAd K dBookInit.at_) (fdO K dBookInit.at_)
  f_BookOrderOf : FunD K dBookOrderOf.name dBookOrderOf.qual dBookOrderOf.params dBookOrderOf.body dBookOrderOf.scope [] [] (He.fAd K dBookOrderOf.at_) (fdO K dBookOrderOf.at_)
  f_BookDo : FunD K dBookDo.name dBookDo.qual dBookDo.params dBookDo.body dBookDo.scope [] [] (He.fAd K dBookDo.at_) (fdO K dBookDo.at_)
  f_BookBegin : FunD K dBookBegin.name dBookBegin.qual dBookBegin.params dBookBegin.body dBookBegin.scope [] [] (He.fAd K dBookBegin.at_) (fdO K dBookBegin.at_)
  f_BookShift : FunD K dBookShift.name dBookShift.qual dBookShift.params dBookShift.body dBookShift.scope [] [] (He.fAd K dBookShift.at_) (fdO K dBookShift.at_)
  f_BookOne : FunD K dBookOne.name dBookOne.qual dBookOne.params dBookOne.body dBookOne.scope [] [] (He.fAd K dBookOne.at_) (fdO K dBookOne.at_)
  f_BookNeedNumber : FunD K dBookNeedNumber.name dBookNeedNumber.qual dBookNeedNumber.params dBookNeedNumber.body dBookNeedNumber.scope [] [] (He.fAd K dBookNeedNumber.at_) (fdO K dBookNeedNumber.at_)
  f_BookUndo : FunD K dBookUndo.name dBookUndo.qual dBookUndo.params dBookUndo.body dBookUndo.scope [] [] (He.fAd K dBookUndo.at_) (fdO K dBookUndo.at_)
  f_BookOrders : FunD K dBookOrders.name dBookOrders.qual dBookOrders.params dBookOrders.body dBookOrders.scope [] [] (He.fAd K dBookOrders.at_) (fdO K dBookOrders.at_)
  f_BookTold : FunD K dBookTold.name dBookTold.qual dBookTold.params dBookTold.body dBookTold.scope [] [] (He.fAd K dBookTold.at_) (fdO K dBookTold.at_)
  f_BookPaid : FunD K dBookPaid.name dBookPaid.qual dBookPaid.params dBookPaid.body dBookPaid.scope [] [] (He.fAd K dBookPaid.at_) (fdO K dBookPaid.at_)
  f_BookOwed : FunD K dBookOwed.name dBookOwed.qual dBookOwed.params dBookOwed.body dBookOwed.scope [] [] (He.fAd K dBookOwed.at_) (fdO K dBookOwed.at_)
  f_BookRows : FunD K dBookRows.name dBookRows.qual dBookRows.params dBookRows.body dBookRows.scope [] [] (He.fAd K dBookRows.at_) (fdO K dBookRows.at_)
  f_BookNet : FunD K dBookNet.name dBookNet.qual dBookNet.params dBookNet.body dBookNet.scope [] [] (He.fAd K dBookNet.at_) (fdO K dBookNet.at_)
  f_LCellAt : FunD K dLCellAt.name dLCellAt.qual dLCellAt.params dLCellAt.body dLCellAt.scope [] [] (He.fAd K dLCellAt.at_) (fdO K dLCellAt.at_)
  f_LTried : FunD K dLTried.name dLTried.qual dLTried.params dLTried.body dLTried.scope [] [] (He.fAd K dLTried.at_) (fdO K dLTried.at_)
  f_LFarBy : FunD K dLFarBy.name dLFarBy.qual dLFarBy.params dLFarBy.body dLFarBy.scope [] [] (He.fAd K dLFarBy.at_) (fdO K dLFarBy.at_)
  f_LWordBy : FunD K dLWordBy.name dLWordBy.qual dLWordBy.params dLWordBy.body dLWordBy.scope [] [] (He.fAd K dLWordBy.at_) (fdO K dLWordBy.at_)
  f_LDeedBy : FunD K dLDeedBy.name dLDeedBy.qual dLDeedBy.params dLDeedBy.body dLDeedBy.scope [] [] (He.fAd K dLDeedBy.at_) (fdO K dLDeedBy.at_)
  f_LBegun : FunD K dLBegun.name dLBegun.qual dLBegun.params dLBegun.body dLBegun.scope [] [] (He.fAd K dLBegun.at_) (fdO K dLBegun.at_)
  f_LMost : FunD K dLMost.name dLMost.qual dLMost.params dLMost.body dLMost.scope [] [] (He.fAd K dLMost.at_) (fdO K dLMost.at_)
  f_LDue : FunD K dLDue.name dLDue.qual dLDue.params dLDue.body dLDue.scope [] [] (He.fAd K dLDue.at_) (fdO K dLDue.at_)
  f_LOfOneClass : FunD K dLOfOneClass.name dLOfOneClass.qual dLOfOneClass.params dLOfOneClass.body dLOfOneClass.scope [] [] (He.fAd K dLOfOneClass.at_) (fdO K dLOfOneClass.at_)
  f_LRefusedByAny : FunD K dLRefusedByAny.name dLRefusedByAny.qual dLRefusedByAny.params dLRefusedByAny.body dLRefusedByAny.scope [] [] (He.fAd K dLRefusedByAny.at_) (fdO K dLRefusedByAny.at_)
  f_LSeen : FunD K dLSeen.name dLSeen.qual dLSeen.params dLSeen.body dLSeen.scope [] [] (He.fAd K dLSeen.at_) (fdO K dLSeen.at_)
  f_LKeptWell : FunD K dLKeptWell.name dLKeptWell.qual dLKeptWell.params dLKeptWell.body dLKeptWell.scope [] [] (He.fAd K dLKeptWell.at_) (fdO K dLKeptWell.at_)
  f_LMadeGood : FunD K dLMadeGood.name dLMadeGood.qual dLMadeGood.params dLMadeGood.body dLMadeGood.scope [] [] (He.fAd K dLMadeGood.at_) (fdO K dLMadeGood.at_)
  f_LGoodLater : FunD K dLGoodLater.name dLGoodLater.qual dLGoodLater.params dLGoodLater.body dLGoodLater.scope [] [] (He.fAd K dLGoodLater.at_) (fdO K dLGoodLater.at_)
  f_LDeedAsked : FunD K dLDeedAsked.name dLDeedAsked.qual dLDeedAsked.params dLDeedAsked.body dLDeedAsked.scope [] [] (He.fAd K dLDeedAsked.at_) (fdO K dLDeedAsked.at_)
  f_Law : FunD K dLaw.name dLaw.qual dLaw.params dLaw.body dLaw.scope [] [] (He.fAd K dLaw.at_) (fdO K dLaw.at_)
  kd : ∃ es n, K.lookup (He.ga K "PARTS") = some ⟨.type "dict", none, .dict es n, #[]⟩ ∧ PySem.W.KeysLit w.params es.toList ∧ es.toList.map He.keyOf = He.keysIn w.params (parts.map (·.1)) ∧ ((He.ga K "PARTS") == sysModules) = false
  kv : He.valsB K (He.ga K "PARTS") (parts.map fun p => (p.1, He.Dv.int p.2)) = true
  xv : excAll K exNames = true
theorem tx_of {w : World} {K : PySem.W.Frag} {h : Heap} {mg : Str → Option Value} (X : K.In h) (G : h.Ns mainGlobals mg) (c : He.SaysX fa fn ts [] ex w h K) : Tx w K mg where
  g_Worth := He.glo_ok X G (c.t.d.fact 0 (f := .glo "worth") rfl)
  g_IsItem := He.glo_ok X G (c.t.d.fact 1 (f := .glo "is_item") rfl)
  g_CheckLine := He.glo_ok X G (c.t.d.fact 2 (f := .glo "check_line") rfl)
  g_Matched := He.glo_ok X G (c.t.d.fact 3 (f := .glo "matched") rfl)
  g_Own := He.glo_ok X G (c.t.d.fact 4 (f := .glo "own") rfl)
  g_LCellAt := He.glo_ok X G (c.t.d.fact 5 (f := .glo "_law_cell_at") rfl)
  g_LTried := He.glo_ok X G (c.t.d.fact 6 (f := .glo "_law_tried") rfl)
  g_LFarBy := He.glo_ok X G (c.t.d.fact 7 (f := .glo "_law_far_by") rfl)
  g_LWordBy := He.glo_ok X G (c.t.d.fact 8 (f := .glo "_law_word_by") rfl)
  g_LDeedBy := He.glo_ok X G (c.t.d.fact 9 (f := .glo "_law_deed_by") rfl)
  g_LBegun := He.glo_ok X G (c.t.d.fact 10 (f := .glo "_law_begun") rfl)
  g_LMost := He.glo_ok X G (c.t.d.fact 11 (f := .glo "_law_most") rfl)
  g_LDue := He.glo_ok X G (c.t.d.fact 12 (f := .glo "_law_due") rfl)
  g_LOfOneClass := He.glo_ok X G (c.t.d.fact 13 (f := .glo "_law_of_one_class") rfl)
  g_LRefusedByAny := He.glo_ok X G (c.t.d.fact 14 (f := .glo "_law_refused_by_any") rfl)
  g_LSeen := He.glo_ok X G (c.t.d.fact 15 (f := .glo "_law_seen") rfl)
  g_LKeptWell := He.glo_ok X G (c.t.d.fact 16 (f := .glo "_law_kept_well") rfl)
  g_LMadeGood := He.glo_ok X G (c.t.d.fact 17 (f := .glo "_law_made_good") rfl)
  g_LGoodLater := He.glo_ok X G (c.t.d.fact 18 (f := .glo "_law_good_later") rfl)
  g_LDeedAsked := He.glo_ok X G (c.t.d.fact 19 (f := .glo "_law_deed_asked") rfl)
  g_Law := He.glo_ok X G (c.t.d.fact 20 (f := .glo "law") rfl)
  b_ValueError := He.free_ok X G (c.t.d.fact 21 (f := .free "ValueError") rfl)
  b_abs := He.free_ok X G (c.t.d.fact 22 (f := .free "abs") rfl)
  b_int := He.free_ok X G (c.t.d.fact 23 (f := .free "int") rfl)
  b_isinstance := He.free_ok X G (c.t.d.fact 24 (f := .free "isinstance") rfl)
  b_len := He.free_ok X G (c.t.d.fact 25 (f := .free "len") rfl)
  b_list := He.free_ok X G (c.t.d.fact 26 (f := .free "list") rfl)
  b_max := He.free_ok X G (c.t.d.fact 27 (f := .free "max") rfl)
  b_min := He.free_ok X G (c.t.d.fact 28 (f := .free "min") rfl)
  b_range := He.free_ok X G (c.t.d.fact 29 (f := .free "range") rfl)
  b_str := He.free_ok X G (c.t.d.fact 30 (f := .free "str") rfl)
  b_sum := He.free_ok X G (c.t.d.fact 31 (f := .free "sum") rfl)
  b_tuple := He.free_ok X G (c.t.d.fact 32 (f := .free "tuple") rfl)
  c_LETTERS := gs_ok X G (c.t.d.fact 33 (f := .str "LETTERS" "abcdefghijklmnopqrstuvwxyz") rfl)
  c_MOST_LETTERS := gi_ok X G (c.t.d.fact 34 (f := .int "MOST_LETTERS" 12) rfl)
  c_MOST_PIECES := gi_ok X G (c.t.d.fact 35 (f := .int "MOST_PIECES" 1000000) rfl)
  c_MOST_CENTS := gi_ok X G (c.t.d.fact 36 (f := .int "MOST_CENTS" 1000000000) rfl)
  c_MOST_PACK := gi_ok X G (c.t.d.fact 37 (f := .int "MOST_PACK" 1000) rfl)
  c_PARTS := He.glo_ok X G (c.t.d.fact 38 (f := .glo "PARTS") rfl)
  c_MOST_LINES := gi_ok X G (c.t.d.fact 39 (f := .int "MOST_LINES" 20) rfl)
  c_MOST_ORDERS := gi_ok X G (c.t.d.fact 40 (f := .int "MOST_ORDERS" 40) rfl)
  g_FlowError := He.glo_ok X G (c.t.d.fact 41 (f := .glo "FlowError") rfl)
  x_FlowError := He.exc_ok (c.t.d.fact 42 (f := .exc "FlowError") rfl)
  g_NoDeed := He.glo_ok X G (c.t.d.fact 43 (f := .glo "NoDeed") rfl)
  x_NoDeed := He.exc_ok (c.t.d.fact 44 (f := .exc "NoDeed") rfl)
  g_NoLines := He.glo_ok X G (c.t.d.fact 45 (f := .glo "NoLines") rfl)
  x_NoLines := He.exc_ok (c.t.d.fact 46 (f := .exc "NoLines") rfl)
  g_NoItem := He.glo_ok X G (c.t.d.fact 47 (f := .glo "NoItem") rfl)
  x_NoItem := He.exc_ok (c.t.d.fact 48 (f := .exc "NoItem") rfl)
  g_NoNumber := He.glo_ok X G (c.t.d.fact 49 (f := .glo "NoNumber") rfl)
  x_NoNumber := He.exc_ok (c.t.d.fact 50 (f := .exc "NoNumber") rfl)
  g_FullBook := He.glo_ok X G (c.t.d.fact 51 (f := .glo "FullBook") rfl)
  x_FullBook := He.exc_ok (c.t.d.fact 52 (f := .exc "FullBook") rfl)
  g_NoOrder := He.glo_ok X G (c.t.d.fact 53 (f := .glo "NoOrder") rfl)
  x_NoOrder := He.exc_ok (c.t.d.fact 54 (f := .exc "NoOrder") rfl)
  g_SameOrder := He.glo_ok X G (c.t.d.fact 55 (f := .glo "SameOrder") rfl)
  x_SameOrder := He.exc_ok (c.t.d.fact 56 (f := .exc "SameOrder") rfl)
  g_NoLine := He.glo_ok X G (c.t.d.fact 57 (f := .glo "NoLine") rfl)
  x_NoLine := He.exc_ok (c.t.d.fact 58 (f := .exc "NoLine") rfl)
  g_TooMuch := He.glo_ok X G (c.t.d.fact 59 (f := .glo "TooMuch") rfl)
  x_TooMuch := He.exc_ok (c.t.d.fact 60 (f := .exc "TooMuch") rfl)
  g_NothingDone := He.glo_ok X G (c.t.d.fact 61 (f := .glo "NothingDone") rfl)
  x_NothingDone := He.exc_ok (c.t.d.fact 62 (f := .exc "NothingDone") rfl)
  g_Line := He.glo_ok X G (c.t.d.fact 63 (f := .glo "Line") rfl)
  cl_Line := He.cls_ok (c.t.d.fact 64 (f := .cls "Line") rfl)
  n_Line_item := He.noat_ok (c.t.d.fact 65 (f := .noat "Line" "item") rfl)
  n_Line_ordered := He.noat_ok (c.t.d.fact 66 (f := .noat "Line" "ordered") rfl)
  n_Line_cents := He.noat_ok (c.t.d.fact 67 (f := .noat "Line" "cents") rfl)
  n_Line_pack := He.noat_ok (c.t.d.fact 68 (f := .noat "Line" "pack") rfl)
  n_Line_sent := He.noat_ok (c.t.d.fact 69 (f := .noat "Line" "sent") rfl)
  n_Line_home := He.noat_ok (c.t.d.fact 70 (f := .noat "Line" "home") rfl)
  n_Line_again := He.noat_ok (c.t.d.fact 71 (f := .noat "Line" "again") rfl)
  n_Line_credited := He.noat_ok (c.t.d.fact 72 (f := .noat "Line" "credited") rfl)
  mk_Line := He.mkr_ok (c.t.d.fact 73 (f := .mkr "Line") rfl)
  m_Line_kept := He.meth_ok (c.t.d.fact 74 (f := .meth "Line" "kept") rfl)
  m_Line_to_come := He.meth_ok (c.t.d.fact 75 (f := .meth "Line" "to_come") rfl)
  m_Line_kept_worth := He.meth_ok (c.t.d.fact 76 (f := .meth "Line" "kept_worth") rfl)
  m_Line_charge := He.meth_ok (c.t.d.fact 77 (f := .meth "Line" "charge") rfl)
  m_Line_deliver := He.meth_ok (c.t.d.fact 78 (f := .meth "Line" "deliver") rfl)
  m_Line_bring := He.meth_ok (c.t.d.fact 79 (f := .meth "Line" "bring") rfl)
  m_Line_reduce := He.meth_ok (c.t.d.fact 80 (f := .meth "Line" "reduce") rfl)
  m_Line_numbers := He.meth_ok (c.t.d.fact 81 (f := .meth "Line" "numbers") rfl)
  g_Order := He.glo_ok X G (c.t.d.fact 82 (f := .glo "Order") rfl)
  cl_Order := He.cls_ok (c.t.d.fact 83 (f := .cls "Order") rfl)
  n_Order_lines := He.noat_ok (c.t.d.fact 84 (f := .noat "Order" "lines") rfl)
  n_Order_money := He.noat_ok (c.t.d.fact 85 (f := .noat "Order" "money") rfl)
  n_Order_marks := He.noat_ok (c.t.d.fact 86 (f := .noat "Order" "marks") rfl)
  mk_Order := He.mkr_ok (c.t.d.fact 87 (f := .mkr "Order") rfl)
  m_Order_owing := He.meth_ok (c.t.d.fact 88 (f := .meth "Order" "owing") rfl)
  m_Order_line_of := He.meth_ok (c.t.d.fact 89 (f := .meth "Order" "line_of") rfl)
  m_Order_need_over := He.meth_ok (c.t.d.fact 90 (f := .meth "Order" "need_over") rfl)
  m_Order_turn_line := He.meth_ok (c.t.d.fact 91 (f := .meth "Order" "turn_line") rfl)
  m_Order_take := He.meth_ok (c.t.d.fact 92 (f := .meth "Order" "take") rfl)
  m_Order_mark := He.meth_ok (c.t.d.fact 93 (f := .meth "Order" "mark") rfl)
  g_Book := He.glo_ok X G (c.t.d.fact 94 (f := .glo "Book") rfl)
  cl_Book := He.cls_ok (c.t.d.fact 95 (f := .cls "Book") rfl)
  n_Book_each := He.noat_ok (c.t.d.fact 96 (f := .noat "Book" "each") rfl)
  n_Book_trail := He.noat_ok (c.t.d.fact 97 (f := .noat "Book" "trail") rfl)
  mk_Book := He.mkr_ok (c.t.d.fact 98 (f := .mkr "Book") rfl)
  m_Book_order_of := He.meth_ok (c.t.d.fact 99 (f := .meth "Book" "order_of") rfl)
  m_Book_do := He.meth_ok (c.t.d.fact 100 (f := .meth "Book" "do") rfl)
  m_Book_begin := He.meth_ok (c.t.d.fact 101 (f := .meth "Book" "begin") rfl)
  m_Book_shift := He.meth_ok (c.t.d.fact 102 (f := .meth "Book" "shift") rfl)
  m_Book_one := He.meth_ok (c.t.d.fact 103 (f := .meth "Book" "one") rfl)
  m_Book_need_number := He.meth_ok (c.t.d.fact 104 (f := .meth "Book" "need_number") rfl)
  m_Book_undo := He.meth_ok (c.t.d.fact 105 (f := .meth "Book" "undo") rfl)
  m_Book_orders := He.meth_ok (c.t.d.fact 106 (f := .meth "Book" "orders") rfl)
  m_Book_told := He.meth_ok (c.t.d.fact 107 (f := .meth "Book" "told") rfl)
  m_Book_paid := He.meth_ok (c.t.d.fact 108 (f := .meth "Book" "paid") rfl)
  m_Book_owed := He.meth_ok (c.t.d.fact 109 (f := .meth "Book" "owed") rfl)
  m_Book_rows := He.meth_ok (c.t.d.fact 110 (f := .meth "Book" "rows") rfl)
  m_Book_net := He.meth_ok (c.t.d.fact 111 (f := .meth "Book" "net") rfl)
  e_NoDeed_FlowError := He.exm_ok (c.t.d.fact 112 (f := .exm "NoDeed" "FlowError" true) rfl)
  e_NoLines_FlowError := He.exm_ok (c.t.d.fact 113 (f := .exm "NoLines" "FlowError" true) rfl)
  e_NoItem_FlowError := He.exm_ok (c.t.d.fact 114 (f := .exm "NoItem" "FlowError" true) rfl)
  e_NoNumber_FlowError := He.exm_ok (c.t.d.fact 115 (f := .exm "NoNumber" "FlowError" true) rfl)
  e_FullBook_FlowError := He.exm_ok (c.t.d.fact 116 (f := .exm "FullBook" "FlowError" true) rfl)
  e_NoOrder_FlowError := He.exm_ok (c.t.d.fact 117 (f := .exm "NoOrder" "FlowError" true) rfl)
  e_SameOrder_FlowError := He.exm_ok (c.t.d.fact 118 (f := .exm "SameOrder" "FlowError" true) rfl)
  e_NoLine_FlowError := He.exm_ok (c.t.d.fact 119 (f := .exm "NoLine" "FlowError" true) rfl)
  e_TooMuch_FlowError := He.exm_ok (c.t.d.fact 120 (f := .exm "TooMuch" "FlowError" true) rfl)
  e_NothingDone_FlowError := He.exm_ok (c.t.d.fact 121 (f := .exm "NothingDone" "FlowError" true) rfl)
  e_NoDeed_FullBook := He.exm_ok (c.t.d.fact 122 (f := .exm "NoDeed" "FullBook" false) rfl)
  e_NoLines_FullBook := He.exm_ok (c.t.d.fact 123 (f := .exm "NoLines" "FullBook" false) rfl)
  e_NoItem_FullBook := He.exm_ok (c.t.d.fact 124 (f := .exm "NoItem" "FullBook" false) rfl)
  e_NoNumber_FullBook := He.exm_ok (c.t.d.fact 125 (f := .exm "NoNumber" "FullBook" false) rfl)
  e_FullBook_FullBook := He.exm_ok (c.t.d.fact 126 (f := .exm "FullBook" "FullBook" true) rfl)
  e_NoOrder_FullBook := He.exm_ok (c.t.d.fact 127 (f := .exm "NoOrder" "FullBook" false) rfl)
  e_SameOrder_FullBook := He.exm_ok (c.t.d.fact 128 (f := .exm "SameOrder" "FullBook" false) rfl)
  e_NoLine_FullBook := He.exm_ok (c.t.d.fact 129 (f := .exm "NoLine" "FullBook" false) rfl)
  e_TooMuch_FullBook := He.exm_ok (c.t.d.fact 130 (f := .exm "TooMuch" "FullBook" false) rfl)
  e_NothingDone_FullBook := He.exm_ok (c.t.d.fact 131 (f := .exm "NothingDone" "FullBook" false) rfl)
  e_NoDeed_NoDeed := He.exm_ok (c.t.d.fact 132 (f := .exm "NoDeed" "NoDeed" true) rfl)
  e_NoLines_NoDeed := He.exm_ok (c.t.d.fact 133 (f := .exm "NoLines" "NoDeed" false) rfl)
  e_NoItem_NoDeed := He.exm_ok (c.t.d.fact 134 (f := .exm "NoItem" "NoDeed" false) rfl)
  e_NoNumber_NoDeed := He.exm_ok (c.t.d.fact 135 (f := .exm "NoNumber" "NoDeed" false) rfl)
  e_FullBook_NoDeed := He.exm_ok (c.t.d.fact 136 (f := .exm "FullBook" "NoDeed" false) rfl)
  e_NoOrder_NoDeed := He.exm_ok (c.t.d.fact 137 (f := .exm "NoOrder" "NoDeed" false) rfl)
  e_SameOrder_NoDeed := He.exm_ok (c.t.d.fact 138 (f := .exm "SameOrder" "NoDeed" false) rfl)
  e_NoLine_NoDeed := He.exm_ok (c.t.d.fact 139 (f := .exm "NoLine" "NoDeed" false) rfl)
  e_TooMuch_NoDeed := He.exm_ok (c.t.d.fact 140 (f := .exm "TooMuch" "NoDeed" false) rfl)
  e_NothingDone_NoDeed := He.exm_ok (c.t.d.fact 141 (f := .exm "NothingDone" "NoDeed" false) rfl)
  e_NoDeed_NoItem := He.exm_ok (c.t.d.fact 142 (f := .exm "NoDeed" "NoItem" false) rfl)
  e_NoLines_NoItem := He.exm_ok (c.t.d.fact 143 (f := .exm "NoLines" "NoItem" false) rfl)
  e_NoItem_NoItem := He.exm_ok (c.t.d.fact 144 (f := .exm "NoItem" "NoItem" true) rfl)
  e_NoNumber_NoItem := He.exm_ok (c.t.d.fact 145 (f := .exm "NoNumber" "NoItem" false) rfl)
  e_FullBook_NoItem := He.exm_ok (c.t.d.fact 146 (f := .exm "FullBook" "NoItem" false) rfl)
  e_NoOrder_NoItem := He.exm_ok (c.t.d.fact 147 (f := .exm "NoOrder" "NoItem" false) rfl)
  e_SameOrder_NoItem := He.exm_ok (c.t.d.fact 148 (f := .exm "SameOrder" "NoItem" false) rfl)
  e_NoLine_NoItem := He.exm_ok (c.t.d.fact 149 (f := .exm "NoLine" "NoItem" false) rfl)
  e_TooMuch_NoItem := He.exm_ok (c.t.d.fact 150 (f := .exm "TooMuch" "NoItem" false) rfl)
  e_NothingDone_NoItem := He.exm_ok (c.t.d.fact 151 (f := .exm "NothingDone" "NoItem" false) rfl)
  e_NoDeed_NoLine := He.exm_ok (c.t.d.fact 152 (f := .exm "NoDeed" "NoLine" false) rfl)
  e_NoLines_NoLine := He.exm_ok (c.t.d.fact 153 (f := .exm "NoLines" "NoLine" false) rfl)
  e_NoItem_NoLine := He.exm_ok (c.t.d.fact 154 (f := .exm "NoItem" "NoLine" false) rfl)
  e_NoNumber_NoLine := He.exm_ok (c.t.d.fact 155 (f := .exm "NoNumber" "NoLine" false) rfl)
  e_FullBook_NoLine := He.exm_ok (c.t.d.fact 156 (f := .exm "FullBook" "NoLine" false) rfl)
  e_NoOrder_NoLine := He.exm_ok (c.t.d.fact 157 (f := .exm "NoOrder" "NoLine" false) rfl)
  e_SameOrder_NoLine := He.exm_ok (c.t.d.fact 158 (f := .exm "SameOrder" "NoLine" false) rfl)
  e_NoLine_NoLine := He.exm_ok (c.t.d.fact 159 (f := .exm "NoLine" "NoLine" true) rfl)
  e_TooMuch_NoLine := He.exm_ok (c.t.d.fact 160 (f := .exm "TooMuch" "NoLine" false) rfl)
  e_NothingDone_NoLine := He.exm_ok (c.t.d.fact 161 (f := .exm "NothingDone" "NoLine" false) rfl)
  e_NoDeed_NoLines := He.exm_ok (c.t.d.fact 162 (f := .exm "NoDeed" "NoLines" false) rfl)
  e_NoLines_NoLines := He.exm_ok (c.t.d.fact 163 (f := .exm "NoLines" "NoLines" true) rfl)
  e_NoItem_NoLines := He.exm_ok (c.t.d.fact 164 (f := .exm "NoItem" "NoLines" false) rfl)
  e_NoNumber_NoLines := He.exm_ok (c.t.d.fact 165 (f := .exm "NoNumber" "NoLines" false) rfl)
  e_FullBook_NoLines := He.exm_ok (c.t.d.fact 166 (f := .exm "FullBook" "NoLines" false) rfl)
  e_NoOrder_NoLines := He.exm_ok (c.t.d.fact 167 (f := .exm "NoOrder" "NoLines" false) rfl)
  e_SameOrder_NoLines := He.exm_ok (c.t.d.fact 168 (f := .exm "SameOrder" "NoLines" false) rfl)
  e_NoLine_NoLines := He.exm_ok (c.t.d.fact 169 (f := .exm "NoLine" "NoLines" false) rfl)
  e_TooMuch_NoLines := He.exm_ok (c.t.d.fact 170 (f := .exm "TooMuch" "NoLines" false) rfl)
  e_NothingDone_NoLines := He.exm_ok (c.t.d.fact 171 (f := .exm "NothingDone" "NoLines" false) rfl)
  e_NoDeed_NoNumber := He.exm_ok (c.t.d.fact 172 (f := .exm "NoDeed" "NoNumber" false) rfl)
  e_NoLines_NoNumber := He.exm_ok (c.t.d.fact 173 (f := .exm "NoLines" "NoNumber" false) rfl)
  e_NoItem_NoNumber := He.exm_ok (c.t.d.fact 174 (f := .exm "NoItem" "NoNumber" false) rfl)
  e_NoNumber_NoNumber := He.exm_ok (c.t.d.fact 175 (f := .exm "NoNumber" "NoNumber" true) rfl)
  e_FullBook_NoNumber := He.exm_ok (c.t.d.fact 176 (f := .exm "FullBook" "NoNumber" false) rfl)
  e_NoOrder_NoNumber := He.exm_ok (c.t.d.fact 177 (f := .exm "NoOrder" "NoNumber" false) rfl)
  e_SameOrder_NoNumber := He.exm_ok (c.t.d.fact 178 (f := .exm "SameOrder" "NoNumber" false) rfl)
  e_NoLine_NoNumber := He.exm_ok (c.t.d.fact 179 (f := .exm "NoLine" "NoNumber" false) rfl)
  e_TooMuch_NoNumber := He.exm_ok (c.t.d.fact 180 (f := .exm "TooMuch" "NoNumber" false) rfl)
  e_NothingDone_NoNumber := He.exm_ok (c.t.d.fact 181 (f := .exm "NothingDone" "NoNumber" false) rfl)
  e_NoDeed_NoOrder := He.exm_ok (c.t.d.fact 182 (f := .exm "NoDeed" "NoOrder" false) rfl)
  e_NoLines_NoOrder := He.exm_ok (c.t.d.fact 183 (f := .exm "NoLines" "NoOrder" false) rfl)
  e_NoItem_NoOrder := He.exm_ok (c.t.d.fact 184 (f := .exm "NoItem" "NoOrder" false) rfl)
  e_NoNumber_NoOrder := He.exm_ok (c.t.d.fact 185 (f := .exm "NoNumber" "NoOrder" false) rfl)
  e_FullBook_NoOrder := He.exm_ok (c.t.d.fact 186 (f := .exm "FullBook" "NoOrder" false) rfl)
  e_NoOrder_NoOrder := He.exm_ok (c.t.d.fact 187 (f := .exm "NoOrder" "NoOrder" true) rfl)
  e_SameOrder_NoOrder := He.exm_ok (c.t.d.fact 188 (f := .exm "SameOrder" "NoOrder" false) rfl)
  e_NoLine_NoOrder := He.exm_ok (c.t.d.fact 189 (f := .exm "NoLine" "NoOrder" false) rfl)
  e_TooMuch_NoOrder := He.exm_ok (c.t.d.fact 190 (f := .exm "TooMuch" "NoOrder" false) rfl)
  e_NothingDone_NoOrder := He.exm_ok (c.t.d.fact 191 (f := .exm "NothingDone" "NoOrder" false) rfl)
  e_NoDeed_SameOrder := He.exm_ok (c.t.d.fact 192 (f := .exm "NoDeed" "SameOrder" false) rfl)
  e_NoLines_SameOrder := He.exm_ok (c.t.d.fact 193 (f := .exm "NoLines" "SameOrder" false) rfl)
  e_NoItem_SameOrder := He.exm_ok (c.t.d.fact 194 (f := .exm "NoItem" "SameOrder" false) rfl)
  e_NoNumber_SameOrder := He.exm_ok (c.t.d.fact 195 (f := .exm "NoNumber" "SameOrder" false) rfl)
  e_FullBook_SameOrder := He.exm_ok (c.t.d.fact 196 (f := .exm "FullBook" "SameOrder" false) rfl)
  e_NoOrder_SameOrder := He.exm_ok (c.t.d.fact 197 (f := .exm "NoOrder" "SameOrder" false) rfl)
  e_SameOrder_SameOrder := He.exm_ok (c.t.d.fact 198 (f := .exm "SameOrder" "SameOrder" true) rfl)
  e_NoLine_SameOrder := He.exm_ok (c.t.d.fact 199 (f := .exm "NoLine" "SameOrder" false) rfl)
  e_TooMuch_SameOrder := He.exm_ok (c.t.d.fact 200 (f := .exm "TooMuch" "SameOrder" false) rfl)
  e_NothingDone_SameOrder := He.exm_ok (c.t.d.fact 201 (f := .exm "NothingDone" "SameOrder" false) rfl)
  e_NoDeed_TooMuch := He.exm_ok (c.t.d.fact 202 (f := .exm "NoDeed" "TooMuch" false) rfl)
  e_NoLines_TooMuch := He.exm_ok (c.t.d.fact 203 (f := .exm "NoLines" "TooMuch" false) rfl)
  e_NoItem_TooMuch := He.exm_ok (c.t.d.fact 204 (f := .exm "NoItem" "TooMuch" false) rfl)
  e_NoNumber_TooMuch := He.exm_ok (c.t.d.fact 205 (f := .exm "NoNumber" "TooMuch" false) rfl)
  e_FullBook_TooMuch := He.exm_ok (c.t.d.fact 206 (f := .exm "FullBook" "TooMuch" false) rfl)
  e_NoOrder_TooMuch := He.exm_ok (c.t.d.fact 207 (f := .exm "NoOrder" "TooMuch" false) rfl)
  e_SameOrder_TooMuch := He.exm_ok (c.t.d.fact 208 (f := .exm "SameOrder" "TooMuch" false) rfl)
  e_NoLine_TooMuch := He.exm_ok (c.t.d.fact 209 (f := .exm "NoLine" "TooMuch" false) rfl)
  e_TooMuch_TooMuch := He.exm_ok (c.t.d.fact 210 (f := .exm "TooMuch" "TooMuch" true) rfl)
  e_NothingDone_TooMuch := He.exm_ok (c.t.d.fact 211 (f := .exm "NothingDone" "TooMuch" false) rfl)
  f_Worth := by
    obtain ⟨fd, F⟩ := c.t.d.def_ 0 (d := dWorth) rfl
    exact fdO_of F
  f_IsItem := by
    obtain ⟨fd, F⟩ := c.t.d.def_ 1 (d := dIsItem) rfl
    exact fdO_of F
  f_CheckLine := by
    obtain ⟨fd, F⟩ := c.t.d.def_ 2 (d := dCheckLine) rfl
    exact fdO_of F
  f_LineInit := by
    obtain ⟨fd, F⟩ := c.t.d.def_ 3 (d := dLineInit) rfl
    exact fdO_of F
  f_LineKept := by
    obtain ⟨fd, F⟩ := c.t.d.def_ 4 (d := dLineKept) rfl
    exact fdO_of F
  f_LineToCome := by
    obtain ⟨fd, F⟩ := c.t.d.def_ 5 (d := dLineToCome) rfl
    exact fdO_of F
  f_LineKeptWorth := by
    obtain ⟨fd, F⟩ := c.t.d.def_ 6 (d := dLineKeptWorth) rfl
    exact fdO_of F
  f_LineCharge := by
    obtain ⟨fd, F⟩ := c.t.d.def_ 7 (d := dLineCharge) rfl
    exact fdO_of F
  f_LineDeliver := by
    obtain ⟨fd, F⟩ := c.t.d.def_ 8 (d := dLineDeliver) rfl
    exact fdO_of F
  f_LineBring := by
    obtain ⟨fd, F⟩ := c.t.d.def_ 9 (d := dLineBring) rfl
    exact fdO_of F
  f_LineReduce := by
    obtain ⟨fd, F⟩ := c.t.d.def_ 10 (d := dLineReduce) rfl
    exact fdO_of F
  f_LineNumbers := by
    obtain ⟨fd, F⟩ := c.t.d.def_ 11 (d := dLineNumbers) rfl
    exact fdO_of F
  f_Matched := by
    obtain ⟨fd, F⟩ := c.t.d.def_ 12 (d := dMatched) rfl
    exact fdO_of F
  f_OrderInit := by
    obtain ⟨fd, F⟩ := c.t.d.def_ 13 (d := dOrderInit) rfl
    exact fdO_of F
  f_OrderOwing := by
    obtain ⟨fd, F⟩ := c.t.d.def_ 14 (d := dOrderOwing) rfl
    exact fdO_of F
  f_OrderLineOf := by
    obtain ⟨fd, F⟩ := c.t.d.def_ 15 (d := dOrderLineOf) rfl
    exact fdO_of F
  f_OrderNeedOver := by
    obtain ⟨fd, F⟩ := c.t.d.def_ 16 (d := dOrderNeedOver) rfl
    exact fdO_of F
  f_OrderTurnLine := by
    obtain ⟨fd, F⟩ := c.t.d.def_ 17 (d := dOrderTurnLine) rfl
    exact fdO_of F
  f_OrderTake := by
    obtain ⟨fd, F⟩ := c.t.d.def_ 18 (d := dOrderTake) rfl
    exact fdO_of F
  f_OrderMark := by
    obtain ⟨fd, F⟩ := c.t.d.def_ 19 (d := dOrderMark) rfl
    exact fdO_of F
  f_Own := by
    obtain ⟨fd, F⟩ := c.t.d.def_ 20 (d := dOwn) rfl
    exact fdO_of F
  f_BookInit := by
    obtain ⟨fd, F⟩ := c.t.d.def_ 21 (d := dBookInit) rfl
    exact fdO_of F
  f_BookOrderOf := by
    obtain ⟨fd, F⟩ := c.t.d.def_ 22 (d := dBookOrderOf) rfl
    exact fdO_of F
  f_BookDo := by
    obtain ⟨fd, F⟩ := c.t.d.def_ 23 (d := dBookDo) rfl
    exact fdO_of F
  f_BookBegin := by
    obtain ⟨fd, F⟩ := c.t.d.def_ 24 (d := dBookBegin) rfl
    exact fdO_of F
  f_BookShift := by
    obtain ⟨fd, F⟩ := c.t.d.def_ 25 (d := dBookShift) rfl
    exact fdO_of F
  f_BookOne := by
    obtain ⟨fd, F⟩ := c.t.d.def_ 26 (d := dBookOne) rfl
    exact fdO_of F
  f_BookNeedNumber := by
    obtain ⟨fd, F⟩ := c.t.d.def_ 27 (d := dBookNeedNumber) rfl
    exact fdO_of F
  f_BookUndo := by
    obtain ⟨fd, F⟩ := c.t.d.def_ 28 (d := dBookUndo) rfl
    exact fdO_of F
  f_BookOrders := by
    obtain ⟨fd, F⟩ := c.t.d.def_ 29 (d := dBookOrders) rfl
    exact fdO_of F
  f_BookTold := by
    obtain ⟨fd, F⟩ := c.t.d.def_ 30 (d := dBookTold) rfl
    exact fdO_of F
  f_BookPaid := by
    obtain ⟨fd, F⟩ := c.t.d.def_ 31 (d := dBookPaid) rfl
    exact fdO_of F
  f_BookOwed := by
    obtain ⟨fd, F⟩ := c.t.d.def_ 32 (d := dBookOwed) rfl
    exact fdO_of F
  f_BookRows := by
    obtain ⟨fd, F⟩ := c.t.d.def_ 33 (d := dBookRows) rfl
    exact fdO_of F
  f_BookNet := by
    obtain ⟨fd, F⟩ := c.t.d.def_ 34 (d := dBookNet) rfl
    exact fdO_of F
  f_LCellAt := by
    obtain ⟨fd, F⟩ := c.t.d.def_ 35 (d := dLCellAt) rfl
    exact fdO_of F
  f_LTried := by
    obtain ⟨fd, F⟩ := c.t.d.def_ 36 (d := dLTried) rfl
    exact fdO_of F
  f_LFarBy := by
    obtain ⟨fd, F⟩ := c.t.d.def_ 37 (d := dLFarBy) rfl
    exact fdO_of F
  f_LWordBy := by
    obtain ⟨fd, F⟩ := c.t.d.def_ 38 (d := dLWordBy) rfl
    exact fdO_of F
  f_LDeedBy := by
    obtain ⟨fd, F⟩ := c.t.d.def_ 39 (d := dLDeedBy) rfl
    exact fdO_of F
  f_LBegun := by
    obtain ⟨fd, F⟩ := c.t.d.def_ 40 (d := dLBegun) rfl
    exact fdO_of F
  f_LMost := by
    obtain ⟨fd, F⟩ := c.t.d.def_ 41 (d := dLMost) rfl
    exact fdO_of F
  f_LDue := by
    obtain ⟨fd, F⟩ := c.t.d.def_ 42 (d := dLDue) rfl
    exact fdO_of F
  f_LOfOneClass := by
    obtain ⟨fd, F⟩ := c.t.d.def_ 43 (d := dLOfOneClass) rfl
    exact fdO_of F
  f_LRefusedByAny := by
    obtain ⟨fd, F⟩ := c.t.d.def_ 44 (d := dLRefusedByAny) rfl
    exact fdO_of F
  f_LSeen := by
    obtain ⟨fd, F⟩ := c.t.d.def_ 45 (d := dLSeen) rfl
    exact fdO_of F
  f_LKeptWell := by
    obtain ⟨fd, F⟩ := c.t.d.def_ 46 (d := dLKeptWell) rfl
    exact fdO_of F
  f_LMadeGood := by
    obtain ⟨fd, F⟩ := c.t.d.def_ 47 (d := dLMadeGood) rfl
    exact fdO_of F
  f_LGoodLater := by
    obtain ⟨fd, F⟩ := c.t.d.def_ 48 (d := dLGoodLater) rfl
    exact fdO_of F
  f_LDeedAsked := by
    obtain ⟨fd, F⟩ := c.t.d.def_ 49 (d := dLDeedAsked) rfl
    exact fdO_of F
  f_Law := by
    obtain ⟨fd, F⟩ := c.t.d.def_ 50 (d := dLaw) rfl
    exact fdO_of F
  kd := by
    have e : ts.map (fun t => He.dicW K (t.1 K)) = ts.map fun t => some (He.keysIn w.params t.2) := congrArg (fun z : He.AlT => z.2) c.t
    have e1 : He.dicW K (He.ga K "PARTS") = some (He.keysIn w.params (parts.map (·.1))) := (List.cons.inj e).1
    exact kd_of e1
  kv := (He.ba c.more).1
  xv := (He.ba c.more).2
theorem room_any {k : Nat} {A : Around} (h : Room k A) : Room k A := h
/-! ### rules of our own over the layer -/
theorem pe_gc {X : Cx} {x : Str} {v : V} {pos : Pos} (hg : Gl X x) (hm : ∃ u, X.mg x = some u ∧ RelV v u) (hd : (x == ("__debug__" : Str)) = false := by decide) : PE X (.Name x pos) (tC v) := by
  obtain ⟨u, h, r⟩ := hm
  exact pe_glob hg h r hd
/-! ### readings from the left: one lemma a form -/
section
variable {σ : L2.St} {H : Hp} {Q : VK} {QB : Bool → Hp → Prop} {D : Ends} {K : PySem.W.Frag}
theorem r_seq {t u : TS} (h : t { D with nx := u D } σ H) : tSeq t u D σ H := h
/-- the ways behind a statement are joined: P holds behind it -/
theorem r_join {t u : TS} (P : L2.St → Hp → Prop) (h2 : ∀ σ' H', P σ' H' → u D σ' H') (h1 : ∀ N : L2.St → Hp → Prop, (∀ σ' H', P σ' H' → N σ' H') → t { D with nx := N } σ H) : tSeq t u D σ H := h1 (u D) h2
/-- a test, by what it tells -/
theorem r_ifj {c : TT} {t u : TS} (P : Bool → Hp → Prop) (h2 : ∀ b H', P b H' → if b = true then t D σ H' else u D σ H') (h1 : ∀ QB' : Bool → Hp → Prop, (∀ b H', P b H' → QB' b H') → c σ H QB') : tIfS c t u D σ H := h1 _ h2
theorem r_asg {te : TE} {i : Nat} (h : te σ H fun x H1 => D.nx (σ.set i (some x)) H1) : tAsg te (gName i) D σ H := h
theorem r_gn {i : Nat} {v : V} {R : L2.St → Hp → Prop} (h : R (σ.set i (some v)) H) : gName i v σ H R := h
theorem r_ret {te : TE} (h : te σ H D.rt) : tRet te D σ H := h
theorem r_retN (h : D.rt .non H) : tRetN D σ H := h
theorem r_drop {te : TE} (h : te σ H fun _ H1 => D.nx σ H1) : tDrop te D σ H := h
theorem r_ifs {c : TT} {t u : TS} (h : c σ H fun b H1 => if b = true then t D σ H1 else u D σ H1) : tIfS c t u D σ H := h
theorem r_next (h : D.nx σ H) : tNext D σ H := h
theorem r_var {i : Nat} {v : V} (e : σ[i]? = some (some v)) (h : Q v H) : tVar i σ H Q := ⟨v, e, h⟩
theorem r_c {v : V} (h : Q v H) : tC v σ H Q := h
theorem r_op {r : R2} {ta tb : TE} (h : ta σ H fun x H1 => tb σ H1 fun y H2 => r x y H2 Q) : tOp r ta tb σ H Q := h
theorem r_un {r : V → Hp → VK → Prop} {ta : TE} (h : ta σ H fun x H1 => r x H1 Q) : tUn r ta σ H Q := h
theorem r_U {g : Int → V} {i : Int} (h : Q (g i) H) : rU g (.int i) H Q := ⟨i, rfl, h⟩
theorem r_I0 {g : Int → Int → V} {i j : Int} (h : Q (g i j) H) : rI0 g (.int i) (.int j) H Q := ⟨i, j, rfl, rfl, h⟩
theorem r_I {C : Int → Int → Prop} {g : Int → Int → V} {i j : Int} (c : C i j) (h : Q (g i j) H) : rI C g (.int i) (.int j) H Q := ⟨i, j, rfl, rfl, c, h⟩
theorem r_eqI {i j : Int} (h : Q (.bl (decide (i = j))) H) : rEq (.int i) (.int j) H Q := by
  refine ⟨rfl, ?_⟩
  have e : decide (V.int i = V.int j) = decide (i = j) := by simp
  rw [e]
  exact h
theorem r_neI {i j : Int} (h : Q (.bl (!decide (i = j))) H) : rNe (.int i) (.int j) H Q := by
  refine ⟨rfl, ?_⟩
  have e : decide (V.int i = V.int j) = decide (i = j) := by simp
  rw [e]
  exact h
theorem r_eqS {i j : Str} (h : Q (.bl (decide (i = j))) H) : rEq (.str i) (.str j) H Q := by
  refine ⟨rfl, ?_⟩
  have e : decide (V.str i = V.str j) = decide (i = j) := by simp
  rw [e]
  exact h
theorem r_neS {i j : Str} (h : Q (.bl (!decide (i = j))) H) : rNe (.str i) (.str j) H Q := by
  refine ⟨rfl, ?_⟩
  have e : decide (V.str i = V.str j) = decide (i = j) := by simp
  rw [e]
  exact h
theorem r_test {t : TE} (h : t σ H fun x H1 => ∃ k, x = V.bl k ∧ QB k H1) : tTest t σ H QB := h
theorem r_tB {t : TE} (h : t σ H fun x H1 => ∃ k, x = V.bl k ∧ QB k H1) : tB t σ H QB := h
theorem r_exb {b : Bool} {P : Bool → Prop} (h : P b) : ∃ k, V.bl b = V.bl k ∧ P k := ⟨b, rfl, h⟩
theorem r_and {t u : TT} (h : t σ H fun c H1 => if c = true then u σ H1 QB else QB false H1) : tAnd t u σ H QB := h
theorem r_or {t u : TT} (h : t σ H fun c H1 => if c = true then QB true H1 else u σ H1 QB) : tOr t u σ H QB := h
theorem r_not {t : TT} (h : t σ H fun c H1 => QB (!c) H1) : tNot t σ H QB := h
theorem r_andV {ta tb : TE} (h : ta σ H fun x H1 => ∃ c, x = V.bl c ∧ if c = true then tb σ H1 Q else Q (.bl false) H1) : tAndV ta tb σ H Q := h
theorem r_orV {ta tb : TE} (h : ta σ H fun x H1 => ∃ c, x = V.bl c ∧ if c = true then Q (.bl true) H1 else tb σ H1 Q) : tOrV ta tb σ H Q := h
theorem r_notV {ta : TE} (h : ta σ H fun x H1 => ∃ c, x = V.bl c ∧ Q (.bl (!c)) H1) : tNotV ta σ H Q := h
theorem r_ifE {t : TT} {ta tb : TE} (h : t σ H fun c H1 => if c = true then ta σ H1 Q else tb σ H1 Q) : tIf t ta tb σ H Q := h
theorem r_nil {QA : List V → Hp → Prop} (h : QA [] H) : tNil σ H QA := h
theorem r_cons {te : TE} {ta : TA} {QA : List V → Hp → Prop} (h : te σ H fun x H1 => ta σ H1 fun xs H2 => QA (x :: xs) H2) : tCons te ta σ H QA := h
theorem r_cb {r : List V → Hp → VK → Prop} {t : TA} (h : t σ H fun vs H1 => r vs H1 Q) : tCB r t σ H Q := h
theorem r_tup {t : TA} (h : t σ H fun xs H1 => xs.length ≤ sizeLine ∧ ∀ p, H1 p = none → Q (.ref p) (upd H1 p (.tup xs))) : tTup t σ H Q := h
theorem r_lst {t : TA} (h : t σ H fun xs H1 => xs.length ≤ sizeLine ∧ ∀ p, H1 p = none → Q (.ref p) (upd H1 p (.lst xs))) : tLst t σ H Q := h
theorem r_mk {xs : List V} {P : Addr → Prop} (hl : xs.length ≤ 100) (h : ∀ p, P p) : xs.length ≤ sizeLine ∧ ∀ p, P p := ⟨Nat.le_trans hl (by rw [sizeLine_eq]; decide), h⟩
theorem r_call {sp : Sp} {E : XK} {t : TA} (h : t σ H fun vs H1 => sp (vs ++ []) H1 Q E) : tCall sp [] E t σ H Q := h
theorem r_callS {sp : Sp} {E : L2.St → XK} {t : TA} (h : t σ H fun vs H1 => sp vs H1 Q (E σ)) : tCallS sp E t σ H Q := h
theorem r_meth {C : Addr} {m : Str} {sp : Sp} {E : XK} {ta : TE} {t : TA} (h : ta σ H fun x H1 => ∃ a dx fs, x = V.ref a ∧ H1 a = some (.ins C dx fs) ∧ fs.lookup m = none ∧ t σ H1 fun vs H2 => sp (x :: (vs ++ [])) H2 Q E) :
    tMeth C m sp [] E ta t σ H Q := h
theorem r_m {C : Addr} {m : Str} {a dx : Addr} {fs : List (Str × V)} {P : Prop} (ho : H a = some (.ins C dx fs)) (hn : fs.lookup m = none) (h : P) : ∃ a' dx' fs', V.ref a = V.ref a' ∧ H a' = some (.ins C dx' fs') ∧ fs'.lookup m = none ∧ P :=
  ⟨a, dx, fs, rfl, ho, hn, h⟩
theorem r_fld {ta : TE} {f : Str} (h : ta σ H fun x H1 => ∃ a C dx fs v, x = V.ref a ∧ H1 a = some (.ins C dx fs) ∧ Cls K C ∧ NoAttr K C f ∧ fs.lookup f = some v ∧ Q v H1) : tFld K ta f σ H Q := h
theorem r_f {f : Str} {a C dx : Addr} {fs : List (Str × V)} {v : V} {P : V → Prop} (ho : H a = some (.ins C dx fs)) (hc : Cls K C) (hn : NoAttr K C f) (hl : fs.lookup f = some v) (h : P v) :
    ∃ a' C' dx' fs' v', V.ref a = V.ref a' ∧ H a' = some (.ins C' dx' fs') ∧ Cls K C' ∧ NoAttr K C' f ∧ fs'.lookup f = some v' ∧ P v' := ⟨a, C, dx, fs, v, rfl, ho, hc, hn, hl, h⟩
theorem r_sfld {ta tv : TE} {f : Str} (h : tv σ H fun y H1 => ta σ H1 fun x H2 => ∃ a C dx fs, x = V.ref a ∧ H2 a = some (.ins C dx fs) ∧ Cls K C ∧ NoAttr K C f ∧ fs.length < 1000 ∧ D.nx σ (upd H2 a (.ins C dx (putF f y fs)))) :
    sFld K ta tv f D σ H := h
theorem r_sf {f : Str} {y : V} {a C dx : Addr} {fs gs : List (Str × V)} {P : Hp → Prop} (ho : H a = some (.ins C dx fs)) (hc : Cls K C) (hn : NoAttr K C f) (hp : putF f y fs = gs) (hl : fs.length ≤ 20) (h : P (upd H a (.ins C dx gs))) :
    ∃ a' C' dx' fs', V.ref a = V.ref a' ∧ H a' = some (.ins C' dx' fs') ∧ Cls K C' ∧ NoAttr K C' f ∧ fs'.length < 1000 ∧ P (upd H a' (.ins C' dx' (putF f y fs'))) :=
  ⟨a, C, dx, fs, rfl, ho, hc, hn, Nat.lt_of_le_of_lt hl (by decide), by rw [hp]; exact h⟩
theorem r_ixT {a : Addr} {xs : List V} {i : Int} {v : V} (h : SqT K H a xs) (e : atI xs i = some v) (q : Q v H) : rIxT K (.ref a) (.int i) H Q := ⟨a, xs, i, v, rfl, rfl, h, e, q⟩
theorem r_ixL {a : Addr} {xs : List V} {i : Int} {v : V} (h : SqL K H a xs) (e : atI xs i = some v) (q : Q v H) : rIxL K (.ref a) (.int i) H Q := ⟨a, xs, i, v, rfl, rfl, h, e, q⟩
theorem r_chain {r r' : R2} {ta tb tc : TE} (h : ta σ H fun x H1 => tb σ H1 fun y H2 => r x y H2 fun z H3 => ∃ k, z = V.bl k ∧ (if k = true then tc σ H3 fun w H4 => r' y w H4 Q else Q (.bl false) H3)) : tChain r r' ta tb tc σ H Q := h
theorem r_itd {p : Prop} [Decidable p] {A B : Prop} (h1 : p → A) (h2 : ¬ p → B) : if decide p = true then A else B := by
  by_cases h : p
  · rw [decide_eq_true h, if_pos rfl]; exact h1 h
  · rw [decide_eq_false h, if_neg (by decide)]; exact h2 h
theorem r_itn {p : Prop} [Decidable p] {A B : Prop} (h1 : ¬ p → A) (h2 : p → B) : if (!decide p) = true then A else B := by
  by_cases h : p
  · rw [decide_eq_true h, if_neg (by decide)]; exact h2 h
  · rw [decide_eq_false h, if_pos (show (!false) = true from rfl)]; exact h1 h
theorem r_itb {b : Bool} {A B : Prop} (h1 : b = true → A) (h2 : b = false → B) : if b = true then A else B := by
  cases b with
  | true => rw [if_pos rfl]; exact h1 rfl
  | false => rw [if_neg (by decide)]; exact h2 rfl
theorem r_ity {p : Prop} [Decidable p] {A B : Prop} (hp : p) (h : A) : if decide p = true then A else B := by
  rw [decide_eq_true hp, if_pos rfl]; exact h
theorem r_itz {p : Prop} [Decidable p] {A B : Prop} (hp : ¬ p) (h : B) : if decide p = true then A else B := by
  rw [decide_eq_false hp, if_neg (by decide)]; exact h
theorem r_itT {A B : Prop} (h : A) : if true = true then A else B := h
theorem r_itF {A B : Prop} (h : B) : if false = true then A else B := by
  rw [if_neg (by decide)]; exact h
theorem r_itnT {A B : Prop} (h : B) : if (!true) = true then A else B := by
  rw [if_neg (by decide)]; exact h
theorem r_itnF {A B : Prop} (h : A) : if (!false) = true then A else B := by
  rw [if_pos (by decide)]; exact h
theorem r_make {C : Addr} {sp : Sp} {E : XK} {t : TA} (h : t σ H fun vs H1 => ∀ x dx, H1 x = none → H1 dx = none → dx ≠ x → sp (.ref x :: (vs ++ [])) (upd (upd H1 dx (.own x)) x (.ins C dx [])) (fun v H2 => v = .non ∧ Q (.ref x) H2) E) : tMake C sp [] E t σ H Q := h
theorem r_bm {T : String} {r : V → List V → Hp → VK → Prop} {to : TE} {t : TA} (h : to σ H fun x H1 => tyV K T x H1 ∧ t σ H1 fun xs H2 => r x xs H2 Q) : tBM K T r to t σ H Q := h
theorem r_tyL {p : Addr} {xs : List V} {P : Prop} (h : SqL K H p xs) (q : P) : tyV K "list" (.ref p) H ∧ P := ⟨.inl ⟨rfl, xs, h⟩, q⟩
theorem r_app {l : Addr} {xs : List V} {y : V} (h : H l = some (.lst xs)) (hz : xs.length < sizeLine) (q : Q .non (upd H l (.lst (xs ++ [y])))) : rAppend (.ref l) [y] H Q := ⟨l, xs, y, rfl, rfl, h, hz, q⟩
theorem r_yes (h : QB true H) : tYes σ H QB := h
theorem r_raise {cls : Value} {W : WX} (h : W cls none σ H) : (fun (_ : Ends) (σ : L2.St) (H : Hp) => (fun (_ : L2.St) (H : Hp) (Q : XK) => Q cls none H) σ H fun cls d H' => W cls d σ H') D σ H := h
end
theorem atI_get {α : Type} {xs : List α} {i : Int} {j : Nat} {v : α} (e : i = (j : Int)) (h : xs[j]? = some v) : atI xs i = some v := by
  subst e
  have hl : j < xs.length := (List.getElem?_eq_some_iff.mp h).1
  unfold atI ixN
  rw [if_pos (by omega), if_pos (by omega)]
  simpa using h
theorem lk_hit {a : Str} {v : V} {r : List (Str × V)} : List.lookup a ((a, v) :: r) = some v := by simp [List.lookup]
theorem lk_miss {a b : Str} {v : V} {r : List (Str × V)} (h : ¬ a = b) : List.lookup a ((b, v) :: r) = List.lookup a r := by
  have e : (a == b) = false := by simpa using h
  simp [List.lookup, e]
theorem pf_hit {a : Str} {v u : V} {r : List (Str × V)} : putF a v ((a, u) :: r) = (a, v) :: r := by
  show (if a = a then (a, v) :: r else _) = _
  rw [if_pos rfl]
theorem pf_miss {a b : Str} {v u : V} {r : List (Str × V)} (h : ¬ b = a) : putF a v ((b, u) :: r) = (b, u) :: putF a v r := by
  show (if b = a then _ else (b, u) :: putF a v r) = _
  rw [if_neg h]
theorem pf_nil {a : Str} {v : V} : putF a v [] = [(a, v)] := rfl
/-- all but S is as it was; tuples always -/
structure But (S : Addr → Prop) (H H' : Hp) : Prop where
  keep : ∀ a o, H a = some o → ¬ S a → H' a = some o
  tup : ∀ a xs, H a = some (.tup xs) → H' a = some (.tup xs)
theorem But.refl {S : Addr → Prop} {H : Hp} : But S H H := ⟨fun _ _ h _ => h, fun _ _ h => h⟩
theorem But.trans {S : Addr → Prop} {H H1 H2 : Hp} (a : But S H H1) (b : But S H1 H2) : But S H H2 := ⟨fun x o h n => b.keep x o (a.keep x o h n) n, fun x o h => b.tup x o (a.tup x o h)⟩
theorem But.of {S : Addr → Prop} {H H' : Hp} (h : Same H H') : But S H H' := ⟨fun x o e _ => h x o e, fun x o e => h x _ e⟩
theorem But.mono {S S' : Addr → Prop} {H H' : Hp} (h : But S H H') (m : ∀ a, S a → S' a) : But S' H H' := ⟨fun x o e n => h.keep x o e fun z => n (m x z), h.tup⟩
theorem But.ins {S : Addr → Prop} {H : Hp} {a C dx : Addr} {fs : List (Str × V)} {o : HO} (ha : H a = some (.ins C dx fs)) (h : S a) : But S H (L2.upd H a o) :=
  ⟨fun x u e n => by rw [upd_ne (fun z => n (by rw [z]; exact h))]; exact e, fun x u e => by rw [upd_ne (ne_of e ha (by intro q; cases q))]; exact e⟩
theorem But.lst {S : Addr → Prop} {H : Hp} {a : Addr} {xs : List V} {o : HO} (ha : H a = some (.lst xs)) (h : S a) : But S H (L2.upd H a o) :=
  ⟨fun x u e n => by rw [upd_ne (fun z => n (by rw [z]; exact h))]; exact e, fun x u e => by rw [upd_ne (ne_of e ha (by intro q; cases q))]; exact e⟩
theorem same_upd {H : Hp} {a : Addr} {o : HO} (h : H a = none) : Same H (L2.upd H a o) := fun x u e => by
  rw [upd_ne (ne_of_none e h)]; exact e
/-- a new address may change -/
theorem But.new {S : Addr → Prop} {H H1 : Hp} {a : Addr} {o : HO} (b : But S H H1) (h : H a = none) : But S H (L2.upd H1 a o) :=
  ⟨fun x u e n => by rw [upd_ne (ne_of_none e h)]; exact b.keep x u e n, fun x u e => by rw [upd_ne (ne_of_none e h)]; exact b.tup x u e⟩
theorem But.same {H H' : Hp} (h : But (fun _ => False) H H') : Same H H' := fun x o e => h.keep x o e id
theorem But.mut {S S' : Addr → Prop} {H H1 H2 : Hp} (b : But S H H1) (c : But S' H1 H2) (m : ∀ a, S' a → S a ∨ H a = none) : But S H H2 :=
  ⟨fun x u e n => c.keep x u (b.keep x u e n) fun z => (m x z).elim n fun q => (by rw [q] at e; cases e), fun x u e => c.tup x u (b.tup x u e)⟩
theorem sz5 {n : Nat} (h : n ≤ 100000) : n ≤ sizeLine := Nat.le_trans h (by rw [sizeLine_eq]; decide)
theorem sz5l {n : Nat} (h : n < 100000) : n < sizeLine := Nat.lt_of_lt_of_le h (by rw [sizeLine_eq]; decide)
/-! ### comprehensions -/
theorem wipe1 {σ : L2.St} {j : Nat} {x : V} : wipe ((wipe σ [j]).set j (some x)) [j] = wipe σ [j] := by
  show ((σ.set j none).set j (some x)).set j none = σ.set j none
  simp
theorem take_snoc {α : Type} : ∀ {l : List α} {i : Nat} {x : α}, l[i]? = some x → l.take (i + 1) = l.take i ++ [x]
  | [], i, x, h => by simp at h
  | a :: l, 0, x, h => by
    have e : a = x := Option.some.inj h
    subst e
    rfl
  | a :: l, i + 1, x, h => by
    have ih := take_snoc (l := l) (i := i) (x := x) h
    show a :: l.take (i + 1) = a :: l.take i ++ [x]
    rw [ih]
    rfl
/-- what a comprehension's walk asks -/
def Lcs (J : It) (g : TG) (tt : TT) (te : TE) (vs : List Nat) (σ : L2.St) (H1 : Hp) (Q : VK) : Prop := ∀ D, H1 D = none → ∃ W : Nat → Nat → Hp → Prop, (∃ m, W 0 m (L2.upd H1 D (.lst []))) ∧ ∀ i m H, W i m H →
  (J.stop i H ∧ Q (.ref D) H) ∨ (J.go i H ∧ ∃ Nx : Hp → Prop, (∀ H', Nx H' → ∃ m', m' < m ∧ W (i + 1) m' H') ∧ ∀ x H', J.yld i H x H' → g x (wipe σ vs) H' fun σ2 H2 => wipe σ2 vs = wipe σ vs ∧ tt σ2 H2 fun b H3 =>
    if b = true then te σ2 H3 fun y H4 => ∃ acc, H4 D = some (.lst acc) ∧ acc.length < sizeLine ∧ Nx (L2.upd H4 D (.lst (acc ++ [y]))) else Nx H3)
theorem r_lcl {K : PySem.W.Frag} {tl te : TE} {g : TG} {tt : TT} {vs : List Nat} {σ : L2.St} {H : Hp} {Q : VK} (h : tl σ H fun x H1 => ∃ a, x = V.ref a ∧ (∃ xs, SqL K H1 a xs) ∧ Lcs (Itl K a) g tt te vs σ H1 Q) : tLc (iList K tl) g tt te vs σ H Q := h
theorem r_lct {K : PySem.W.Frag} {tl te : TE} {g : TG} {tt : TT} {vs : List Nat} {σ : L2.St} {H : Hp} {Q : VK} (h : tl σ H fun x H1 => ∃ a, x = V.ref a ∧ (∃ xs, SqT K H1 a xs) ∧ Lcs (Itt K a) g tt te vs σ H1 Q) : tLc (iTup K tl) g tt te vs σ H Q := h
theorem r_lcr {ta : TA} {te : TE} {g : TG} {tt : TT} {vs : List Nat} {σ : L2.St} {H : Hp} {Q : VK} (h : ta σ H fun us H1 => ∃ j : Int, us = [V.int j] ∧ -(2 ^ 62) ≤ j ∧ j < 2 ^ 62 ∧ Lcs (Itr 0 j.toNat) g tt te vs σ H1 Q) : tLc (iRng1 ta) g tt te vs σ H Q := h
/-- a comprehension whose elements leave what stands: by the list of its values -/
theorem lcp_list {K : PySem.W.Frag} {te : TE} {j : Nat} {σ : L2.St} {H1 : Hp} {Q : VK} {a : Addr} {xs ys : List V} (hs : SqL K H1 a xs) (hl : ys.length = xs.length) (hz : xs.length ≤ 100000)
    (he : ∀ (i : Nat) (x y : V) (H' : Hp) (R : VK), xs[i]? = some x → ys[i]? = some y → Same H1 H' → (∀ H'', Same H' H'' → R y H'') → te ((wipe σ [j]).set j (some x)) H' R)
    (k : ∀ (D : Addr) (H' : Hp), H1 D = none → Same H1 H' → H' D = some (.lst ys) → Q (.ref D) H') : ∃ a', V.ref a = V.ref a' ∧ (∃ xs, SqL K H1 a' xs) ∧ Lcs (Itl K a') (gName j) tYes te [j] σ H1 Q := by
  refine ⟨a, rfl, ⟨xs, hs⟩, fun D hD => ?_⟩
  refine lc_list (K := K) (a := a) (xs := xs) (fun i H' => Same H1 H' ∧ H' D = some (.lst (ys.take i))) ⟨same_upd hD, upd_same⟩ (fun i H' _ p => p.1.seq hs) ?_ ?_
  · rintro i x H' hi ⟨s, e⟩
    have hi2 : i < ys.length := by rw [hl]; exact (List.getElem?_eq_some_iff.mp hi).1
    have ey : ys[i]? = some ys[i] := List.getElem?_eq_getElem hi2
    refine ⟨wipe1, r_yes (r_itT ?_)⟩
    refine he i x _ H' _ hi ey s fun H'' s2 => ⟨_, s2 _ _ e, ?_, ?_, ?_⟩
    · refine sz5l ?_
      rw [List.length_take]
      omega
    · exact fun b o q => by
        rw [upd_ne (ne_of_none q hD)]
        exact s2 _ _ (s _ _ q)
    · rw [upd_same, take_snoc ey]
  · rintro H' ⟨s, e⟩
    refine k D H' hD s ?_
    rw [e, List.take_of_length_le (by omega)]
/-- .. whose elements are told by a relation that leans on tuples alone -/
theorem lcp_rel {K : PySem.W.Frag} {te : TE} {j : Nat} {σ : L2.St} {H1 : Hp} {Q : VK} {a : Addr} {xs : List V} {α : Type} {R : Hp → V → α → Prop} {zs : List α} (hs : SqL K H1 a xs) (hl : zs.length = xs.length) (hz : xs.length ≤ 100000)
    (stab : ∀ H H' v z, R H v z → (∀ b ys, H b = some (.tup ys) → H' b = some (.tup ys)) → R H' v z)
    (he : ∀ (i : Nat) (x : V) (z : α) (H' : Hp) (W : VK), xs[i]? = some x → zs[i]? = some z → Same H1 H' → (∀ y H'', Same H' H'' → R H'' y z → W y H'') → te ((wipe σ [j]).set j (some x)) H' W)
    (k : ∀ (D : Addr) (H' : Hp) (acc : List V), H1 D = none → Same H1 H' → H' D = some (.lst acc) → Paired (R H') acc zs → Q (.ref D) H') : ∃ a', V.ref a = V.ref a' ∧ (∃ xs, SqL K H1 a' xs) ∧ Lcs (Itl K a') (gName j) tYes te [j] σ H1 Q := by
  refine ⟨a, rfl, ⟨xs, hs⟩, fun D hD => ?_⟩
  refine lc_list (K := K) (a := a) (xs := xs) (fun i H' => Same H1 H' ∧ ∃ acc, H' D = some (.lst acc) ∧ Paired (R H') acc (zs.take i)) ⟨same_upd hD, [], upd_same, .nil⟩ (fun i H' _ p => p.1.seq hs) ?_ ?_
  · rintro i x H' hi ⟨s, acc, e, pr⟩
    have hi1 : i < xs.length := (List.getElem?_eq_some_iff.mp hi).1
    have hi2 : i < zs.length := by rw [hl]; exact hi1
    have ez : zs[i]? = some zs[i] := List.getElem?_eq_getElem hi2
    refine ⟨wipe1, r_yes (r_itT ?_)⟩
    refine he i x _ H' _ hi ez s fun y H'' s2 r => ⟨acc, s2 _ _ e, ?_, ?_, acc ++ [y], upd_same, ?_⟩
    · have := pr.length
      rw [List.length_take] at this
      refine sz5l ?_
      omega
    · exact fun b o q => by
        rw [upd_ne (ne_of_none q hD)]
        exact s2 _ _ (s _ _ q)
    · have up : ∀ b ys, H'' b = some (.tup ys) → L2.upd H'' D (.lst (acc ++ [y])) b = some (.tup ys) := fun b ys q => by
        rw [upd_ne (ne_of q (s2 _ _ e) (by intro z; cases z))]
        exact q
      rw [take_snoc ez]
      exact Paired.snoc (Paired.mapP pr fun _ _ q => stab _ _ _ _ q fun b ys w => up b ys (s2 _ _ w)) (stab _ _ _ _ r up)
  · rintro H' ⟨s, acc, e, pr⟩
    rw [List.take_of_length_le (by omega)] at pr
    exact k D H' acc hD s e pr
/-- .. over a range -/
theorem lcp_range {te : TE} {j : Nat} {σ : L2.St} {H1 : Hp} {Q : VK} {n : Int} {ys : List V} (hl : ys.length = n.toNat) (hz : n ≤ 100000) (hn : -100000 ≤ n)
    (he : ∀ (i : Nat) (y : V) (H' : Hp) (R : VK), ys[i]? = some y → Same H1 H' → (∀ H'', Same H' H'' → R y H'') → te ((wipe σ [j]).set j (some (.int (i : Int)))) H' R)
    (k : ∀ (D : Addr) (H' : Hp), H1 D = none → Same H1 H' → H' D = some (.lst ys) → Q (.ref D) H') : ∃ m : Int, [V.int n] = [V.int m] ∧ -(2 ^ 62) ≤ m ∧ m < 2 ^ 62 ∧ Lcs (Itr 0 m.toNat) (gName j) tYes te [j] σ H1 Q := by
  refine ⟨n, rfl, by omega, by omega, fun D hD => ?_⟩
  refine lc_range (lo := 0) (n := n.toNat) (fun i H' => Same H1 H' ∧ H' D = some (.lst (ys.take i))) ⟨same_upd hD, upd_same⟩ ?_ ?_
  · rintro i H' hi ⟨s, e⟩
    have hi2 : i < ys.length := by rw [hl]; exact hi
    have ey : ys[i]? = some ys[i] := List.getElem?_eq_getElem hi2
    refine ⟨wipe1, r_yes (r_itT ?_)⟩
    rw [Int.zero_add]
    refine he i _ H' _ ey s fun H'' s2 => ⟨_, s2 _ _ e, ?_, ?_, ?_⟩
    · refine sz5l ?_
      rw [List.length_take]
      omega
    · exact fun b o q => by
        rw [upd_ne (ne_of_none q hD)]
        exact s2 _ _ (s _ _ q)
    · rw [upd_same, take_snoc ey]
  · rintro H' ⟨s, e⟩
    refine k D H' hD s ?_
    rw [e, List.take_of_length_le (by omega)]
/-! ### what a for's walk asks -/
def Fors (J : It) (g : TG) (tb : TS) (D : Ends) (σ : L2.St) (H1 : Hp) : Prop := ∃ W : Nat → Nat → L2.St → Hp → Prop, (∃ m, W 0 m σ H1) ∧ ∀ i m σ H, W i m σ H →
  (J.stop i H ∧ D.nx σ H) ∨ (J.go i H ∧ ∃ N : L2.St → Hp → Prop, (∀ σ' H', N σ' H' → ∃ m', m' < m ∧ W (i + 1) m' σ' H') ∧ ∀ x H', J.yld i H x H' → g x σ H' fun σ2 H2 => tb { D with nx := N, ct := N, bk := D.nx } σ2 H2)
theorem r_forl {K : PySem.W.Frag} {tl : TE} {g : TG} {tb : TS} {D : Ends} {σ : L2.St} {H : Hp} (h : tl σ H fun x H1 => ∃ a, x = V.ref a ∧ (∃ xs, SqL K H1 a xs) ∧ Fors (Itl K a) g tb D σ H1) : tFor (iList K tl) g tb D σ H := h
theorem r_fort {K : PySem.W.Frag} {tl : TE} {g : TG} {tb : TS} {D : Ends} {σ : L2.St} {H : Hp} (h : tl σ H fun x H1 => ∃ a, x = V.ref a ∧ (∃ xs, SqT K H1 a xs) ∧ Fors (Itt K a) g tb D σ H1) : tFor (iTup K tl) g tb D σ H := h
theorem r_fors {te : TE} {g : TG} {tb : TS} {D : Ends} {σ : L2.St} {H : Hp} (h : te σ H fun v H1 => ∃ x, v = V.str x ∧ Fors (Its x) g tb D σ H1) : tFor (iStr te) g tb D σ H := h
theorem r_forr {ta : TA} {g : TG} {tb : TS} {D : Ends} {σ : L2.St} {H : Hp} (h : ta σ H fun us H1 => ∃ j : Int, us = [V.int j] ∧ -(2 ^ 62) ≤ j ∧ j < 2 ^ 62 ∧ Fors (Itr 0 j.toNat) g tb D σ H1) : tFor (iRng1 ta) g tb D σ H := h
theorem r_forr2 {ta : TA} {g : TG} {tb : TS} {D : Ends} {σ : L2.St} {H : Hp} (h : ta σ H fun us H1 => ∃ i j : Int, us = [V.int i, V.int j] ∧ (-(2 ^ 62) ≤ i ∧ i < 2 ^ 62 ∧ -(2 ^ 62) ≤ j ∧ j < 2 ^ 62) ∧ Fors (Itr i (j - i).toNat) g tb D σ H1) : tFor (iRng2 ta) g tb D σ H := h
theorem pf_m {a b : Str} {v u : V} {r s : List (Str × V)} (h : ¬ b = a) (e : putF a v r = s) : putF a v ((b, u) :: r) = (b, u) :: s := by
  rw [pf_miss h, e]
theorem lk_m {a b : Str} {v u : V} {r : List (Str × V)} (h : ¬ a = b) (e : List.lookup a r = some u) : List.lookup a ((b, v) :: r) = some u := (lk_miss h).trans e
theorem lk_n {a b : Str} {v : V} {r : List (Str × V)} (h : ¬ a = b) (e : List.lookup a r = none) : List.lookup a ((b, v) :: r) = none := (lk_miss h).trans e
/-! ### the data of the program -/
structure Ln where
  item : Str
  ordered : Int
  cents : Int
  pack : Int
  sent : Int
  home : Int
  again : Int
  credited : Int
def lnF (l : Ln) : List (Str × V) := [("item", .str l.item), ("ordered", .int l.ordered), ("cents", .int l.cents), ("pack", .int l.pack), ("sent", .int l.sent), ("home", .int l.home), ("again", .int l.again), ("credited", .int l.credited)]
def odF (ll : Addr) (m : Int) (lm : Addr) : List (Str × V) := [("lines", .ref ll), ("money", .int m), ("marks", .ref lm)]
def bkF (e t : Addr) : List (Str × V) := [("each", .ref e), ("trail", .ref t)]
/-! ### a method that may raise, called in a try -/
def tMX (C : Addr) (m : Str) (sp : Sp) (E : L2.St → XK) (ta : TE) (t : TA) : TE := fun σ H Q => ta σ H fun x H1 => ∃ a dx fs, x = V.ref a ∧ H1 a = some (.ins C dx fs) ∧ fs.lookup m = none ∧ t σ H1 fun vs H2 => sp (x :: vs) H2 Q (E σ)
theorem pe_mX {X : Cx} {CX : CXT} {k : Nat} {f C : Addr} {fd : FuncData} {ps : List Str} {sp : Sp} {E : L2.St → XK} {m : Str} {pos apos : Pos} {e o : Expr} {es : List Expr} {ta : TE} {t : TA} {pl : Sem Bool}
    (ho : PE X o ta) (hc : Cls X.K C) (hm : Meth X.K C m f) (G : FnOk X.prog X.w X.K X.mg X.base CX k f fd ps sp) (room : Room k X.A) (bd : Binds X.K fd ps []) (pass : ∀ σ, PassesAt CX X σ (E σ)) (hargs : PA X (e :: es) t)
    (hstar : starEach (e :: es) X.env = (false, eval e X.env) :: starEach es X.env := by rfl) (hplain : (backTo pos (starEach es X.env)).any (·.1) = false := by rfl)
    (hform : eval (.Call (.Attribute o m apos) (e :: es) [] pos) X.env = (do let ov ← eval o X.env; standAt apos.atName; let (f, first) ← holding [ov] (getMethod ov m pl); callWith pos f first (backTo pos (starEach (e :: es) X.env)) (backToKw pos (keywordEach [] X.env))) := by rfl) :
    PE X (.Call (.Attribute o m apos) (e :: es) [] pos) (tMX C m sp E ta t) := by
  refine ⟨fun pins st σ H Q inv hq => ?_⟩
  refine PySem.W.methodCall_KW (pl := pl) (thn (ho.run pins st σ H _ inv hq) fun u st1 hu => ?_) hform
  obtain ⟨x, H1, inv1, rx, a, dx, fs, ex, ea, hl, q⟩ := hu
  subst ex
  obtain rfl : u = Value.ref a := rx
  refine getmeth_ok inv1 ea hc hm hl ?_
  refine PySem.W.callWith_K (first := [.ref a]) (h₀ := X.base) inv1.ok.mod.kin hm.kp (thn (hargs.run pos pins st1 σ H1 _ inv1 q) fun us st2 hv => ?_) hstar hplain
  obtain ⟨vs, H2, inv2, rv, q2⟩ := hv
  exact ⟨inv2.kIn, run_fnS (us := .ref a :: us) (vs := .ref a :: vs) G room bd (pass σ) inv2 (.cons rfl rv) q2⟩
theorem pe_mX0 {X : Cx} {CX : CXT} {k : Nat} {f C : Addr} {fd : FuncData} {ps : List Str} {sp : Sp} {E : L2.St → XK} {m : Str} {pos apos : Pos} {o : Expr} {ta : TE} {pl : Sem Bool}
    (ho : PE X o ta) (hc : Cls X.K C) (hm : Meth X.K C m f) (G : FnOk X.prog X.w X.K X.mg X.base CX k f fd ps sp) (room : Room k X.A) (bd : Binds X.K fd ps []) (pass : ∀ σ, PassesAt CX X σ (E σ))
    (hform : eval (.Call (.Attribute o m apos) [] [] pos) X.env = (do let ov ← eval o X.env; standAt apos.atName; let (f, first) ← holding [ov] (getMethod ov m pl); callWith pos f first (backTo pos (starEach [] X.env)) (backToKw pos (keywordEach [] X.env))) := by rfl) :
    PE X (.Call (.Attribute o m apos) [] [] pos) (tMX C m sp E ta tNil) := by
  refine ⟨fun pins st σ H Q inv hq => ?_⟩
  refine PySem.W.methodCall_KW (pl := pl) (thn (ho.run pins st σ H _ inv hq) fun u st1 hu => ?_) hform
  obtain ⟨x, H1, inv1, rx, a, dx, fs, ex, ea, hl, q⟩ := hu
  subst ex
  obtain rfl : u = Value.ref a := rx
  refine getmeth_ok inv1 ea hc hm hl ?_
  exact PySem.W.callWith_K0 (first := [.ref a]) inv1.kIn hm.kp (run_fnS (us := [.ref a]) (vs := [.ref a]) G room bd (pass σ) inv1 (.cons rfl .nil) q)
section
variable {σ : L2.St} {H : Hp} {Q : VK} {QB : Bool → Hp → Prop} {D : Ends} {K : PySem.W.Frag}
theorem r_mx {C : Addr} {m : Str} {sp : Sp} {E : L2.St → XK} {ta : TE} {t : TA} (h : ta σ H fun x H1 => ∃ a dx fs, x = V.ref a ∧ H1 a = some (.ins C dx fs) ∧ fs.lookup m = none ∧ t σ H1 fun vs H2 => sp (x :: vs) H2 Q (E σ)) : tMX C m sp E ta t σ H Q := h
/-! ### slices, stores, kinds -/
theorem r_sl {r : V → Option Int → Option Int → Hp → VK → Prop} {te : TE} {tl th : TO} (h : te σ H fun x H1 => tl σ H1 fun l H2 => th σ H2 fun u H3 => r x l u H3 Q) : tSl r te tl th σ H Q := h
theorem r_part {te : TE} {QO : Option Int → Hp → Prop} (h : te σ H fun x H1 => ∃ i, x = V.int i ∧ QO (some i) H1) : tPart te σ H QO := h
theorem r_nopart {QO : Option Int → Hp → Prop} (h : QO none H) : tNoPart σ H QO := h
theorem r_exi {i : Int} {P : Int → Prop} (h : P i) : ∃ j, V.int i = V.int j ∧ P j := ⟨i, rfl, h⟩
theorem r_sll {a : Addr} {xs : List V} {lo hi : Option Int} (hs : SqL K H a xs) (k : ∀ p, H p = none → Q (.ref p) (upd H p (.lst (cutV xs lo hi)))) : rSlL K (.ref a) lo hi H Q := ⟨a, xs, rfl, hs, k⟩
theorem r_asgS {te to ti : TE} (h : te σ H fun x H1 => to σ H1 fun o H2 => ti σ H2 fun i H3 => rSetL o i x H3 fun H4 => D.nx σ H4) : tAsg te (gSub to ti rSetL) D σ H := h
theorem r_setL {p : Addr} {xs : List V} {i : Int} {j : Nat} {v : V} {R : Hp → Prop} (h : H p = some (.lst xs)) (e : i = (j : Int)) (hj : j < xs.length) (q : R (upd H p (.lst (xs.set j v)))) : rSetL (.ref p) (.int i) v H R :=
  ⟨p, xs, i, j, rfl, rfl, h, by unfold ixN; rw [e, if_pos (by omega), if_pos (by omega)]; simp, q⟩
theorem r_isi {x : V} {t : Value} {n : String} {b : Bool} (ty : TyOf K H x t) (hk : PySem.W.kitOne K t (.type n) = some b) (q : Q (.bl b) H) : rIsi K [x, .ty n] H Q := ⟨x, .ty n, t, .type n, b, rfl, .ty n, .base ty, hk, q⟩
theorem r_is_int_int {i : Int} (q : Q (.bl true) H) : rIsi K [.int i, .ty "int"] H Q := r_isi (.int i) (kit_ty (by decide +kernel)) q
theorem r_is_int_bool {i : Int} (q : Q (.bl false) H) : rIsi K [.int i, .ty "bool"] H Q := r_isi (.int i) (kit_ty (by decide +kernel)) q
theorem r_is_int_str {i : Int} (q : Q (.bl false) H) : rIsi K [.int i, .ty "str"] H Q := r_isi (.int i) (kit_ty (by decide +kernel)) q
theorem r_is_str_str {i : Str} (q : Q (.bl true) H) : rIsi K [.str i, .ty "str"] H Q := r_isi (.str i) (kit_ty (by decide +kernel)) q
theorem r_is_str_int {i : Str} (q : Q (.bl false) H) : rIsi K [.str i, .ty "int"] H Q := r_isi (.str i) (kit_ty (by decide +kernel)) q
theorem r_is_str_list {i : Str} (q : Q (.bl false) H) : rIsi K [.str i, .ty "list"] H Q := r_isi (.str i) (kit_ty (by decide +kernel)) q
theorem r_is_lst_list {a : Addr} {xs : List V} (h : H a = some (.lst xs)) (q : Q (.bl true) H) : rIsi K [.ref a, .ty "list"] H Q := r_isi (.lst h) (kit_ty (by decide +kernel)) q
theorem r_is_lst_str {a : Addr} {xs : List V} (h : H a = some (.lst xs)) (q : Q (.bl false) H) : rIsi K [.ref a, .ty "str"] H Q := r_isi (.lst h) (kit_ty (by decide +kernel)) q
theorem r_is_tup_tuple {a : Addr} {xs : List V} (h : H a = some (.tup xs)) (q : Q (.bl true) H) : rIsi K [.ref a, .ty "tuple"] H Q := r_isi (.tup h) (kit_ty (by decide +kernel)) q
end
theorem cut_from {xs : List V} {k : Nat} : cutV xs (some (k : Int)) none = xs.drop k := by
  unfold cutV
  rw [HT.sIx_nat, HT.sIx_none]
  by_cases h : k ≤ xs.length
  · rw [Nat.min_eq_left h, List.take_of_length_le (by simp)]
  · rw [Nat.min_eq_right (by omega), List.drop_of_length_le (Nat.le_refl _), List.drop_of_length_le (by omega)]
    simp

/-! ### readings with the kernel's own name (in a comprehension's block) -/
section
variable {X : Cx} {K : PySem.W.Frag}
theorem ix_listK (e : X.K = K) : IxR X (rIxL K) := by subst e; exact ix_list
theorem ix_tupK (e : X.K = K) : IxR X (rIxT K) := by subst e; exact ix_tup
theorem op_eqDK (e : X.K = K) (hu : X.A.units + 64 < cLine) : OpR X (compareOp .Eq) (rEqD K) := by subst e; exact op_eqD hu
theorem op_neDK (e : X.K = K) (hu : X.A.units + 64 < cLine) : OpR X (compareOp .NotEq) (rNeD K) := by subst e; exact op_neD hu
theorem call_lenK (e : X.K = K) : CallR X (.builtin "len") (fun xs H Q => ∃ p ys, xs = [.ref p] ∧ (SqL K H p ys ∨ SqT K H p ys) ∧ Q (.int ys.length) H) := by subst e; exact call_len_seq
theorem call_listK (e : X.K = K) : CallR X (.type "list") (fun xs H Q => ∃ p ys, xs = [.ref p] ∧ (SqL K H p ys ∨ SqT K H p ys) ∧ ∀ l, H l = none → Q (.ref l) (upd H l (.lst ys))) := by subst e; exact call_list_of
theorem fldK {E : Expr} {ta : TE} {f : Str} (e : X.K = K) (h : PE X E (tFld X.K ta f)) : PE X E (tFld K ta f) := by subst e; exact h
theorem bmK {E : Expr} {T : String} {r : V → List V → Hp → VK → Prop} {to : TE} {t : TA} (e : X.K = K) (h : PE X E (tBM X.K T r to t)) : PE X E (tBM K T r to t) := by subst e; exact h
end
/-! ### data that is compared -/
def dOf : V → PyData
  | .non => .none
  | .bl b => .bool b
  | .int i => .int i
  | .str z => .str z
  | _ => .none
/-- an int, or a text -/
def Sc (v : V) : Prop := (∃ i, v = .int i) ∨ ∃ z, v = .str z ∧ PyData.strOk z = true
theorem Sc.int {i : Int} : Sc (.int i) := .inl ⟨i, rfl⟩
theorem Sc.dp {K : PySem.W.Frag} {H : Hp} {v : V} (h : Sc v) : Dp K H v (dOf v) := by
  rcases h with ⟨i, rfl⟩ | ⟨z, rfl, _⟩
  · exact .int i
  · exact .str z
theorem Sc.lay {v : V} (h : Sc v) : PyData.canLay0 (dOf v) = true ∧ PyData.depth (dOf v) = 0 := by
  rcases h with ⟨i, rfl⟩ | ⟨z, rfl, hz⟩
  · exact ⟨by simp only [dOf, PyData.canLay0], by simp only [dOf, PyData.depth]⟩
  · exact ⟨by simp only [dOf, PyData.canLay0]; exact hz, by simp only [dOf, PyData.depth]⟩
theorem Sc.eqv {v u : V} (h : Sc v) (g : Sc u) : PyData.eqv (dOf v) (dOf u) = decide (v = u) := by
  rcases h with ⟨i, rfl⟩ | ⟨z, rfl, _⟩ <;> rcases g with ⟨j, rfl⟩ | ⟨y, rfl, _⟩
  · simp [dOf, PyData.eqv, Bool.beq_eq_decide_eq]
  · simp [dOf, PyData.eqv]
  · simp [dOf, PyData.eqv]
  · simp [dOf, PyData.eqv, Bool.beq_eq_decide_eq]
def Scs (vs : List V) : Prop := ∀ v, v ∈ vs → Sc v
theorem Scs.nil : Scs [] := fun _ h => by cases h
theorem Scs.cons {v : V} {vs : List V} (h : Sc v) (g : Scs vs) : Scs (v :: vs) := fun u hu => by
  rcases List.mem_cons.mp hu with e | e
  · rw [e]; exact h
  · exact g u e
theorem Scs.dp {K : PySem.W.Frag} {H : Hp} : ∀ {vs : List V}, Scs vs → DpAll K H vs (vs.map dOf)
  | [], _ => .nil
  | v :: vs, h => .cons (h v List.mem_cons_self).dp (Scs.dp fun u hu => h u (List.mem_cons_of_mem _ hu))
theorem Scs.lay : ∀ {vs : List V}, Scs vs → PyData.canLayAll0 (vs.map dOf) = true ∧ PyData.depthAll (vs.map dOf) = 0
  | [], _ => ⟨by simp only [List.map_nil, PyData.canLayAll0], by simp only [List.map_nil, PyData.depthAll]⟩
  | v :: vs, h => by
    obtain ⟨a, b⟩ := (h v List.mem_cons_self).lay
    obtain ⟨c, d⟩ := Scs.lay (vs := vs) fun u hu => h u (List.mem_cons_of_mem _ hu)
    refine ⟨?_, ?_⟩
    · simp only [List.map_cons, PyData.canLayAll0, a, c, Bool.and_self]
    · simp only [List.map_cons, PyData.depthAll, b, d]; rfl
theorem Scs.eqv : ∀ {vs us : List V}, Scs vs → Scs us → PyData.eqvAll (vs.map dOf) (us.map dOf) = decide (vs = us)
  | [], [], _, _ => by simp [PyData.eqvAll]
  | [], u :: us, _, _ => by simp [PyData.eqvAll]
  | v :: vs, [], _, _ => by simp [PyData.eqvAll]
  | v :: vs, u :: us, h, g => by
    have ih := Scs.eqv (vs := vs) (us := us) (fun u hu => h u (List.mem_cons_of_mem _ hu)) fun u hu => g u (List.mem_cons_of_mem _ hu)
    simp only [List.map_cons, PyData.eqvAll, ih, (h v List.mem_cons_self).eqv (g u List.mem_cons_self)]
    simp
/-- a tuple of such -/
def dTup (r : List V) : PyData := .tuple (r.map dOf)
theorem dTup_dp {K : PySem.W.Frag} {H : Hp} {a : Addr} {r : List V} (h : SqT K H a r) (s : Scs r) : Dp K H (.ref a) (dTup r) := .tup h s.dp
theorem dTup_lay {r : List V} (s : Scs r) : PyData.canLay0 (dTup r) = true ∧ PyData.depth (dTup r) = 1 := by
  obtain ⟨a, b⟩ := s.lay
  exact ⟨by simp only [dTup, PyData.canLay0]; exact a, by simp only [dTup, PyData.depth, b]⟩
theorem dTup_shaped {r : List V} (s : Scs r) : SeqAt.shaped (dTup r) = true := by
  obtain ⟨a, b⟩ := dTup_lay s
  unfold SeqAt.shaped
  rw [a, b]
  rfl
theorem dTup_eqv {r q : List V} (s : Scs r) (t : Scs q) : PyData.eqv (dTup r) (dTup q) = decide (r = q) := by
  show PyData.eqv (.tuple _) (.tuple _) = _
  simp only [PyData.eqv]
  exact s.eqv t
/-- a list of such tuples -/
def dRows (rs : List (List V)) : PyData := .list (rs.map dTup)
def TupAt (H : Hp) (v : V) (r : List V) : Prop := ∃ t, v = .ref t ∧ H t = some (.tup r)
def Rws (rs : List (List V)) : Prop := ∀ r, r ∈ rs → Scs r
theorem dRows_all {K : PySem.W.Frag} {H : Hp} : ∀ {xs : List V} {rs : List (List V)}, Paired (TupAt H) xs rs → Rws rs → DpAll K H xs (rs.map dTup)
  | _, _, .nil, _ => .nil
  | _, _, .cons ⟨t, e, h⟩ r, s => by
    subst e
    exact .cons (dTup_dp (SqT.of h) (s _ List.mem_cons_self)) (dRows_all r fun q hq => s q (List.mem_cons_of_mem _ hq))
theorem dRows_dp {K : PySem.W.Frag} {H : Hp} {a : Addr} {xs : List V} {rs : List (List V)} (h : SqL K H a xs) (p : Paired (TupAt H) xs rs) (s : Rws rs) : Dp K H (.ref a) (dRows rs) := .lst h (dRows_all p s)
theorem dRows_lay0 : ∀ {rs : List (List V)}, Rws rs → PyData.canLayAll0 (rs.map dTup) = true ∧ PyData.depthAll (rs.map dTup) ≤ 1
  | [], _ => ⟨by simp only [List.map_nil, PyData.canLayAll0], by simp only [List.map_nil, PyData.depthAll]; omega⟩
  | r :: rs, h => by
    obtain ⟨a, b⟩ := dTup_lay (h r List.mem_cons_self)
    obtain ⟨c, d⟩ := dRows_lay0 (rs := rs) fun u hu => h u (List.mem_cons_of_mem _ hu)
    refine ⟨?_, ?_⟩
    · simp only [List.map_cons, PyData.canLayAll0, a, c, Bool.and_self]
    · simp only [List.map_cons, PyData.depthAll, b]; omega
theorem dRows_lay {rs : List (List V)} (s : Rws rs) : PyData.canLay0 (dRows rs) = true ∧ PyData.depth (dRows rs) ≤ 2 := by
  obtain ⟨a, b⟩ := dRows_lay0 s
  exact ⟨by simp only [dRows, PyData.canLay0]; exact a, by simp only [dRows, PyData.depth]; omega⟩
theorem dRows_shaped {rs : List (List V)} (s : Rws rs) : SeqAt.shaped (dRows rs) = true := by
  obtain ⟨a, b⟩ := dRows_lay s
  unfold SeqAt.shaped
  rw [a, decide_eq_true (by omega)]
  rfl
theorem dRows_eqv0 : ∀ {rs qs : List (List V)}, Rws rs → Rws qs → PyData.eqvAll (rs.map dTup) (qs.map dTup) = decide (rs = qs)
  | [], [], _, _ => by simp [PyData.eqvAll]
  | [], u :: us, _, _ => by simp [PyData.eqvAll]
  | v :: vs, [], _, _ => by simp [PyData.eqvAll]
  | v :: vs, u :: us, h, g => by
    have ih := dRows_eqv0 (rs := vs) (qs := us) (fun u hu => h u (List.mem_cons_of_mem _ hu)) fun u hu => g u (List.mem_cons_of_mem _ hu)
    simp only [List.map_cons, PyData.eqvAll, ih, dTup_eqv (h v List.mem_cons_self) (g u List.mem_cons_self)]
    simp
theorem dRows_eqv {rs qs : List (List V)} (s : Rws rs) (t : Rws qs) : PyData.eqv (dRows rs) (dRows qs) = decide (rs = qs) := by
  show PyData.eqv (.list _) (.list _) = _
  simp only [PyData.eqv]
  exact dRows_eqv0 s t
section
variable {H : Hp} {Q : VK} {K : PySem.W.Frag}
theorem r_neTT {a b : Addr} {r q : List V} (h : SqT K H a r) (g : SqT K H b q) (s : Scs r) (t : Scs q) (k : Q (.bl (!decide (r = q))) H) : rNeD K (.ref a) (.ref b) H Q :=
  ⟨_, _, dTup_dp h s, dTup_dp g t, dTup_shaped s, dTup_shaped t, by rw [dTup_eqv s t]; exact k⟩
theorem r_eqTT {a b : Addr} {r q : List V} (h : SqT K H a r) (g : SqT K H b q) (s : Scs r) (t : Scs q) (k : Q (.bl (decide (r = q))) H) : rEqD K (.ref a) (.ref b) H Q :=
  ⟨_, _, dTup_dp h s, dTup_dp g t, dTup_shaped s, dTup_shaped t, by rw [dTup_eqv s t]; exact k⟩
theorem r_neRR {a b : Addr} {xs ys : List V} {r q : List (List V)} (h : SqL K H a xs) (g : SqL K H b ys) (ph : Paired (TupAt H) xs r) (pg : Paired (TupAt H) ys q) (s : Rws r) (t : Rws q) (k : Q (.bl (!decide (r = q))) H) : rNeD K (.ref a) (.ref b) H Q :=
  ⟨_, _, dRows_dp h ph s, dRows_dp g pg t, dRows_shaped s, dRows_shaped t, by rw [dRows_eqv s t]; exact k⟩
theorem r_eqRR {a b : Addr} {xs ys : List V} {r q : List (List V)} (h : SqL K H a xs) (g : SqL K H b ys) (ph : Paired (TupAt H) xs r) (pg : Paired (TupAt H) ys q) (s : Rws r) (t : Rws q) (k : Q (.bl (decide (r = q))) H) : rEqD K (.ref a) (.ref b) H Q :=
  ⟨_, _, dRows_dp h ph s, dRows_dp g pg t, dRows_shaped s, dRows_shaped t, by rw [dRows_eqv s t]; exact k⟩
theorem sc_shaped {v : V} (s : Sc v) : SeqAt.shaped (dOf v) = true := by
  obtain ⟨a, b⟩ := s.lay
  unfold SeqAt.shaped
  rw [a, b]
  rfl
theorem r_neSS {x y : V} (s : Sc x) (t : Sc y) (k : Q (.bl (!decide (x = y))) H) : rNeD K x y H Q := ⟨_, _, s.dp, t.dp, sc_shaped s, sc_shaped t, by rw [s.eqv t]; exact k⟩
theorem r_eqSS {x y : V} (s : Sc x) (t : Sc y) (k : Q (.bl (decide (x = y))) H) : rEqD K x y H Q := ⟨_, _, s.dp, t.dp, sc_shaped s, sc_shaped t, by rw [s.eqv t]; exact k⟩
theorem r_neRS {a : Addr} {xs : List V} {r : List (List V)} {y : V} (h : SqL K H a xs) (ph : Paired (TupAt H) xs r) (s : Rws r) (t : Sc y) (k : Q (.bl true) H) : rNeD K (.ref a) y H Q :=
  ⟨_, _, dRows_dp h ph s, t.dp, dRows_shaped s, sc_shaped t, by
    have e : PyData.eqv (dRows r) (dOf y) = false := by
      rcases t with ⟨i, rfl⟩ | ⟨z, rfl, _⟩ <;> simp [dRows, dOf, PyData.eqv]
    rw [e]; exact k⟩
end
theorem lk_Line_item (l : Ln) : List.lookup ("item" : Str) (lnF l) = some (.str l.item) := by
  unfold lnF
  exact lk_hit
theorem lk_Line_ordered (l : Ln) : List.lookup ("ordered" : Str) (lnF l) = some (.int l.ordered) := by
  unfold lnF
  exact lk_m (by decide +kernel) (lk_hit)
theorem pt_Line_ordered (l : Ln) (z : Int) : putF "ordered" (.int z) (lnF l) = lnF { l with ordered := z } := by
  unfold lnF
  exact pf_m (by decide +kernel) (pf_hit)
theorem lk_Line_cents (l : Ln) : List.lookup ("cents" : Str) (lnF l) = some (.int l.cents) := by
  unfold lnF
  exact lk_m (by decide +kernel) (lk_m (by decide +kernel) (lk_hit))
theorem pt_Line_cents (l : Ln) (z : Int) : putF "cents" (.int z) (lnF l) = lnF { l with cents := z } := by
  unfold lnF
  exact pf_m (by decide +kernel) (pf_m (by decide +kernel) (pf_hit))
theorem lk_Line_pack (l : Ln) : List.lookup ("pack" : Str) (lnF l) = some (.int l.pack) := by
  unfold lnF
  exact lk_m (by decide +kernel) (lk_m (by decide +kernel) (lk_m (by decide +kernel) (lk_hit)))
theorem pt_Line_pack (l : Ln) (z : Int) : putF "pack" (.int z) (lnF l) = lnF { l with pack := z } := by
  unfold lnF
  exact pf_m (by decide +kernel) (pf_m (by decide +kernel) (pf_m (by decide +kernel) (pf_hit)))
theorem lk_Line_sent (l : Ln) : List.lookup ("sent" : Str) (lnF l) = some (.int l.sent) := by
  unfold lnF
  exact lk_m (by decide +kernel) (lk_m (by decide +kernel) (lk_m (by decide +kernel) (lk_m (by decide +kernel) (lk_hit))))
theorem pt_Line_sent (l : Ln) (z : Int) : putF "sent" (.int z) (lnF l) = lnF { l with sent := z } := by
  unfold lnF
  exact pf_m (by decide +kernel) (pf_m (by decide +kernel) (pf_m (by decide +kernel) (pf_m (by decide +kernel) (pf_hit))))
theorem lk_Line_home (l : Ln) : List.lookup ("home" : Str) (lnF l) = some (.int l.home) := by
  unfold lnF
  exact lk_m (by decide +kernel) (lk_m (by decide +kernel) (lk_m (by decide +kernel) (lk_m (by decide +kernel) (lk_m (by decide +kernel) (lk_hit)))))
theorem pt_Line_home (l : Ln) (z : Int) : putF "home" (.int z) (lnF l) = lnF { l with home := z } := by
  unfold lnF
  exact pf_m (by decide +kernel) (pf_m (by decide +kernel) (pf_m (by decide +kernel) (pf_m (by decide +kernel) (pf_m (by decide +kernel) (pf_hit)))))
theorem lk_Line_again (l : Ln) : List.lookup ("again" : Str) (lnF l) = some (.int l.again) := by
  unfold lnF
  exact lk_m (by decide +kernel) (lk_m (by decide +kernel) (lk_m (by decide +kernel) (lk_m (by decide +kernel) (lk_m (by decide +kernel) (lk_m (by decide +kernel) (lk_hit))))))
theorem pt_Line_again (l : Ln) (z : Int) : putF "again" (.int z) (lnF l) = lnF { l with again := z } := by
  unfold lnF
  exact pf_m (by decide +kernel) (pf_m (by decide +kernel) (pf_m (by decide +kernel) (pf_m (by decide +kernel) (pf_m (by decide +kernel) (pf_m (by decide +kernel) (pf_hit))))))
theorem lk_Line_credited (l : Ln) : List.lookup ("credited" : Str) (lnF l) = some (.int l.credited) := by
  unfold lnF
  exact lk_m (by decide +kernel) (lk_m (by decide +kernel) (lk_m (by decide +kernel) (lk_m (by decide +kernel) (lk_m (by decide +kernel) (lk_m (by decide +kernel) (lk_m (by decide +kernel) (lk_hit)))))))
theorem pt_Line_credited (l : Ln) (z : Int) : putF "credited" (.int z) (lnF l) = lnF { l with credited := z } := by
  unfold lnF
  exact pf_m (by decide +kernel) (pf_m (by decide +kernel) (pf_m (by decide +kernel) (pf_m (by decide +kernel) (pf_m (by decide +kernel) (pf_m (by decide +kernel) (pf_m (by decide +kernel) (pf_hit)))))))
theorem no_Line_kept (l : Ln) : List.lookup ("kept" : Str) (lnF l) = none := by
  unfold lnF
  exact lk_n (by decide +kernel) (lk_n (by decide +kernel) (lk_n (by decide +kernel) (lk_n (by decide +kernel) (lk_n (by decide +kernel) (lk_n (by decide +kernel) (lk_n (by decide +kernel) (lk_n (by decide +kernel) (rfl))))))))
theorem no_Line_to_come (l : Ln) : List.lookup ("to_come" : Str) (lnF l) = none := by
  unfold lnF
  exact lk_n (by decide +kernel) (lk_n (by decide +kernel) (lk_n (by decide +kernel) (lk_n (by decide +kernel) (lk_n (by decide +kernel) (lk_n (by decide +kernel) (lk_n (by decide +kernel) (lk_n (by decide +kernel) (rfl))))))))
theorem no_Line_kept_worth (l : Ln) : List.lookup ("kept_worth" : Str) (lnF l) = none := by
  unfold lnF
  exact lk_n (by decide +kernel) (lk_n (by decide +kernel) (lk_n (by decide +kernel) (lk_n (by decide +kernel) (lk_n (by decide +kernel) (lk_n (by decide +kernel) (lk_n (by decide +kernel) (lk_n (by decide +kernel) (rfl))))))))
theorem no_Line_charge (l : Ln) : List.lookup ("charge" : Str) (lnF l) = none := by
  unfold lnF
  exact lk_n (by decide +kernel) (lk_n (by decide +kernel) (lk_n (by decide +kernel) (lk_n (by decide +kernel) (lk_n (by decide +kernel) (lk_n (by decide +kernel) (lk_n (by decide +kernel) (lk_n (by decide +kernel) (rfl))))))))
theorem no_Line_deliver (l : Ln) : List.lookup ("deliver" : Str) (lnF l) = none := by
  unfold lnF
  exact lk_n (by decide +kernel) (lk_n (by decide +kernel) (lk_n (by decide +kernel) (lk_n (by decide +kernel) (lk_n (by decide +kernel) (lk_n (by decide +kernel) (lk_n (by decide +kernel) (lk_n (by decide +kernel) (rfl))))))))
theorem no_Line_bring (l : Ln) : List.lookup ("bring" : Str) (lnF l) = none := by
  unfold lnF
  exact lk_n (by decide +kernel) (lk_n (by decide +kernel) (lk_n (by decide +kernel) (lk_n (by decide +kernel) (lk_n (by decide +kernel) (lk_n (by decide +kernel) (lk_n (by decide +kernel) (lk_n (by decide +kernel) (rfl))))))))
theorem no_Line_reduce (l : Ln) : List.lookup ("reduce" : Str) (lnF l) = none := by
  unfold lnF
  exact lk_n (by decide +kernel) (lk_n (by decide +kernel) (lk_n (by decide +kernel) (lk_n (by decide +kernel) (lk_n (by decide +kernel) (lk_n (by decide +kernel) (lk_n (by decide +kernel) (lk_n (by decide +kernel) (rfl))))))))
theorem no_Line_numbers (l : Ln) : List.lookup ("numbers" : Str) (lnF l) = none := by
  unfold lnF
  exact lk_n (by decide +kernel) (lk_n (by decide +kernel) (lk_n (by decide +kernel) (lk_n (by decide +kernel) (lk_n (by decide +kernel) (lk_n (by decide +kernel) (lk_n (by decide +kernel) (lk_n (by decide +kernel) (rfl))))))))
theorem lk_Order_lines (ll : Addr) (m : Int) (lm : Addr) : List.lookup ("lines" : Str) (odF ll m lm) = some (.ref ll) := by
  unfold odF
  exact lk_hit
theorem pt_Order_lines (ll : Addr) (m : Int) (lm : Addr) (z : Addr) : putF "lines" (.ref z) (odF ll m lm) = odF z m lm := by
  unfold odF
  exact pf_hit
theorem lk_Order_money (ll : Addr) (m : Int) (lm : Addr) : List.lookup ("money" : Str) (odF ll m lm) = some (.int m) := by
  unfold odF
  exact lk_m (by decide +kernel) (lk_hit)
theorem pt_Order_money (ll : Addr) (m : Int) (lm : Addr) (z : Int) : putF "money" (.int z) (odF ll m lm) = odF ll z lm := by
  unfold odF
  exact pf_m (by decide +kernel) (pf_hit)
theorem lk_Order_marks (ll : Addr) (m : Int) (lm : Addr) : List.lookup ("marks" : Str) (odF ll m lm) = some (.ref lm) := by
  unfold odF
  exact lk_m (by decide +kernel) (lk_m (by decide +kernel) (lk_hit))
theorem pt_Order_marks (ll : Addr) (m : Int) (lm : Addr) (z : Addr) : putF "marks" (.ref z) (odF ll m lm) = odF ll m z := by
  unfold odF
  exact pf_m (by decide +kernel) (pf_m (by decide +kernel) (pf_hit))
theorem no_Order_owing (ll : Addr) (m : Int) (lm : Addr) : List.lookup ("owing" : Str) (odF ll m lm) = none := by
  unfold odF
  exact lk_n (by decide +kernel) (lk_n (by decide +kernel) (lk_n (by decide +kernel) (rfl)))
theorem no_Order_line_of (ll : Addr) (m : Int) (lm : Addr) : List.lookup ("line_of" : Str) (odF ll m lm) = none := by
  unfold odF
  exact lk_n (by decide +kernel) (lk_n (by decide +kernel) (lk_n (by decide +kernel) (rfl)))
theorem no_Order_need_over (ll : Addr) (m : Int) (lm : Addr) : List.lookup ("need_over" : Str) (odF ll m lm) = none := by
  unfold odF
  exact lk_n (by decide +kernel) (lk_n (by decide +kernel) (lk_n (by decide +kernel) (rfl)))
theorem no_Order_turn_line (ll : Addr) (m : Int) (lm : Addr) : List.lookup ("turn_line" : Str) (odF ll m lm) = none := by
  unfold odF
  exact lk_n (by decide +kernel) (lk_n (by decide +kernel) (lk_n (by decide +kernel) (rfl)))
theorem no_Order_take (ll : Addr) (m : Int) (lm : Addr) : List.lookup ("take" : Str) (odF ll m lm) = none := by
  unfold odF
  exact lk_n (by decide +kernel) (lk_n (by decide +kernel) (lk_n (by decide +kernel) (rfl)))
theorem no_Order_mark (ll : Addr) (m : Int) (lm : Addr) : List.lookup ("mark" : Str) (odF ll m lm) = none := by
  unfold odF
  exact lk_n (by decide +kernel) (lk_n (by decide +kernel) (lk_n (by decide +kernel) (rfl)))
theorem lk_Book_each (e t : Addr) : List.lookup ("each" : Str) (bkF e t) = some (.ref e) := by
  unfold bkF
  exact lk_hit
theorem pt_Book_each (e t : Addr) (z : Addr) : putF "each" (.ref z) (bkF e t) = bkF z t := by
  unfold bkF
  exact pf_hit
theorem lk_Book_trail (e t : Addr) : List.lookup ("trail" : Str) (bkF e t) = some (.ref t) := by
  unfold bkF
  exact lk_m (by decide +kernel) (lk_hit)
theorem pt_Book_trail (e t : Addr) (z : Addr) : putF "trail" (.ref z) (bkF e t) = bkF e z := by
  unfold bkF
  exact pf_m (by decide +kernel) (pf_hit)
theorem no_Book_order_of (e t : Addr) : List.lookup ("order_of" : Str) (bkF e t) = none := by
  unfold bkF
  exact lk_n (by decide +kernel) (lk_n (by decide +kernel) (rfl))
theorem no_Book_do (e t : Addr) : List.lookup ("do" : Str) (bkF e t) = none := by
  unfold bkF
  exact lk_n (by decide +kernel) (lk_n (by decide +kernel) (rfl))
theorem no_Book_begin (e t : Addr) : List.lookup ("begin" : Str) (bkF e t) = none := by
  unfold bkF
  exact lk_n (by decide +kernel) (lk_n (by decide +kernel) (rfl))
theorem no_Book_shift (e t : Addr) : List.lookup ("shift" : Str) (bkF e t) = none := by
  unfold bkF
  exact lk_n (by decide +kernel) (lk_n (by decide +kernel) (rfl))
theorem no_Book_one (e t : Addr) : List.lookup ("one" : Str) (bkF e t) = none := by
  unfold bkF
  exact lk_n (by decide +kernel) (lk_n (by decide +kernel) (rfl))
theorem no_Book_need_number (e t : Addr) : List.lookup ("need_number" : Str) (bkF e t) = none := by
  unfold bkF
  exact lk_n (by decide +kernel) (lk_n (by decide +kernel) (rfl))
theorem no_Book_undo (e t : Addr) : List.lookup ("undo" : Str) (bkF e t) = none := by
  unfold bkF
  exact lk_n (by decide +kernel) (lk_n (by decide +kernel) (rfl))
theorem no_Book_orders (e t : Addr) : List.lookup ("orders" : Str) (bkF e t) = none := by
  unfold bkF
  exact lk_n (by decide +kernel) (lk_n (by decide +kernel) (rfl))
theorem no_Book_told (e t : Addr) : List.lookup ("told" : Str) (bkF e t) = none := by
  unfold bkF
  exact lk_n (by decide +kernel) (lk_n (by decide +kernel) (rfl))
theorem no_Book_paid (e t : Addr) : List.lookup ("paid" : Str) (bkF e t) = none := by
  unfold bkF
  exact lk_n (by decide +kernel) (lk_n (by decide +kernel) (rfl))
theorem no_Book_owed (e t : Addr) : List.lookup ("owed" : Str) (bkF e t) = none := by
  unfold bkF
  exact lk_n (by decide +kernel) (lk_n (by decide +kernel) (rfl))
theorem no_Book_rows (e t : Addr) : List.lookup ("rows" : Str) (bkF e t) = none := by
  unfold bkF
  exact lk_n (by decide +kernel) (lk_n (by decide +kernel) (rfl))
theorem no_Book_settled (e t : Addr) : List.lookup ("settled" : Str) (bkF e t) = none := by
  unfold bkF
  exact lk_n (by decide +kernel) (lk_n (by decide +kernel) (rfl))
theorem no_Book_net (e t : Addr) : List.lookup ("net" : Str) (bkF e t) = none := by
  unfold bkF
  exact lk_n (by decide +kernel) (lk_n (by decide +kernel) (rfl))
abbrev N_Worth : List Str := ["pieces", "cents", "pack"]
abbrev P_Worth : List Str := ["pieces", "cents", "pack"]
theorem sc_Worth : FnScope N_Worth P_Worth (defScope sWorth) := ⟨rfl, rfl, rfl, by decide +kernel, rfl, by decide +kernel, by decide +kernel⟩
abbrev N_IsItem : List Str := ["item", "letter"]
abbrev P_IsItem : List Str := ["item"]
theorem sc_IsItem : FnScope N_IsItem P_IsItem (defScope sIsItem) := ⟨rfl, rfl, rfl, by decide +kernel, rfl, by decide +kernel, by decide +kernel⟩
abbrev N_CheckLine : List Str := ["told"]
abbrev P_CheckLine : List Str := ["told"]
theorem sc_CheckLine : FnScope N_CheckLine P_CheckLine (defScope sCheckLine) := ⟨rfl, rfl, rfl, by decide +kernel, rfl, by decide +kernel, by decide +kernel⟩
abbrev N_LineInit : List Str := ["self", "told"]
abbrev P_LineInit : List Str := ["self", "told"]
theorem sc_LineInit : FnScope N_LineInit P_LineInit (defScope sLineInit) := ⟨rfl, rfl, rfl, by decide +kernel, rfl, by decide +kernel, by decide +kernel⟩
abbrev N_LineKept : List Str := ["self"]
abbrev P_LineKept : List Str := ["self"]
theorem sc_LineKept : FnScope N_LineKept P_LineKept (defScope sLineKept) := ⟨rfl, rfl, rfl, by decide +kernel, rfl, by decide +kernel, by decide +kernel⟩
abbrev N_LineToCome : List Str := ["self"]
abbrev P_LineToCome : List Str := ["self"]
theorem sc_LineToCome : FnScope N_LineToCome P_LineToCome (defScope sLineToCome) := ⟨rfl, rfl, rfl, by decide +kernel, rfl, by decide +kernel, by decide +kernel⟩
abbrev N_LineKeptWorth : List Str := ["self"]
abbrev P_LineKeptWorth : List Str := ["self"]
theorem sc_LineKeptWorth : FnScope N_LineKeptWorth P_LineKeptWorth (defScope sLineKeptWorth) := ⟨rfl, rfl, rfl, by decide +kernel, rfl, by decide +kernel, by decide +kernel⟩
abbrev N_LineCharge : List Str := ["self"]
abbrev P_LineCharge : List Str := ["self"]
theorem sc_LineCharge : FnScope N_LineCharge P_LineCharge (defScope sLineCharge) := ⟨rfl, rfl, rfl, by decide +kernel, rfl, by decide +kernel, by decide +kernel⟩
abbrev N_LineDeliver : List Str := ["self", "pieces"]
abbrev P_LineDeliver : List Str := ["self", "pieces"]
theorem sc_LineDeliver : FnScope N_LineDeliver P_LineDeliver (defScope sLineDeliver) := ⟨rfl, rfl, rfl, by decide +kernel, rfl, by decide +kernel, by decide +kernel⟩
abbrev N_LineBring : List Str := ["self", "pieces", "anew"]
abbrev P_LineBring : List Str := ["self", "pieces", "anew"]
theorem sc_LineBring : FnScope N_LineBring P_LineBring (defScope sLineBring) := ⟨rfl, rfl, rfl, by decide +kernel, rfl, by decide +kernel, by decide +kernel⟩
abbrev N_LineReduce : List Str := ["self", "cents"]
abbrev P_LineReduce : List Str := ["self", "cents"]
theorem sc_LineReduce : FnScope N_LineReduce P_LineReduce (defScope sLineReduce) := ⟨rfl, rfl, rfl, by decide +kernel, rfl, by decide +kernel, by decide +kernel⟩
abbrev N_LineNumbers : List Str := ["self"]
abbrev P_LineNumbers : List Str := ["self"]
theorem sc_LineNumbers : FnScope N_LineNumbers P_LineNumbers (defScope sLineNumbers) := ⟨rfl, rfl, rfl, by decide +kernel, rfl, by decide +kernel, by decide +kernel⟩
abbrev N_Matched : List Str := ["changes", "k", "debts", "covers", "found", "i", "j", "got", "used", "lacking", "left", "part"]
abbrev P_Matched : List Str := ["changes"]
theorem sc_Matched : FnScope N_Matched P_Matched (defScope sMatched) := ⟨rfl, rfl, rfl, by decide +kernel, rfl, by decide +kernel, by decide +kernel⟩
abbrev N_OrderInit : List Str := ["self", "lines", "told"]
abbrev P_OrderInit : List Str := ["self", "lines"]
theorem sc_OrderInit : FnScope N_OrderInit P_OrderInit (defScope sOrderInit) := ⟨rfl, rfl, rfl, by decide +kernel, rfl, by decide +kernel, by decide +kernel⟩
abbrev N_OrderOwing : List Str := ["self", "line"]
abbrev P_OrderOwing : List Str := ["self"]
theorem sc_OrderOwing : FnScope N_OrderOwing P_OrderOwing (defScope sOrderOwing) := ⟨rfl, rfl, rfl, by decide +kernel, rfl, by decide +kernel, by decide +kernel⟩
abbrev N_OrderLineOf : List Str := ["self", "place"]
abbrev P_OrderLineOf : List Str := ["self", "place"]
theorem sc_OrderLineOf : FnScope N_OrderLineOf P_OrderLineOf (defScope sOrderLineOf) := ⟨rfl, rfl, rfl, by decide +kernel, rfl, by decide +kernel, by decide +kernel⟩
abbrev N_OrderNeedOver : List Str := ["self", "cents"]
abbrev P_OrderNeedOver : List Str := ["self", "cents"]
theorem sc_OrderNeedOver : FnScope N_OrderNeedOver P_OrderNeedOver (defScope sOrderNeedOver) := ⟨rfl, rfl, rfl, by decide +kernel, rfl, by decide +kernel, by decide +kernel⟩
abbrev N_OrderTurnLine : List Str := ["self", "word", "place", "number", "line"]
abbrev P_OrderTurnLine : List Str := ["self", "word", "place", "number"]
theorem sc_OrderTurnLine : FnScope N_OrderTurnLine P_OrderTurnLine (defScope sOrderTurnLine) := ⟨rfl, rfl, rfl, by decide +kernel, rfl, by decide +kernel, by decide +kernel⟩
abbrev N_OrderTake : List Str := ["self", "cents"]
abbrev P_OrderTake : List Str := ["self", "cents"]
theorem sc_OrderTake : FnScope N_OrderTake P_OrderTake (defScope sOrderTake) := ⟨rfl, rfl, rfl, by decide +kernel, rfl, by decide +kernel, by decide +kernel⟩
abbrev N_OrderMark : List Str := ["self", "word", "ahead", "change"]
abbrev P_OrderMark : List Str := ["self", "word", "ahead"]
theorem sc_OrderMark : FnScope N_OrderMark P_OrderMark (defScope sOrderMark) := ⟨rfl, rfl, rfl, by decide +kernel, rfl, by decide +kernel, by decide +kernel⟩
abbrev N_Own : List Str := ["deed", "line"]
abbrev P_Own : List Str := ["deed"]
theorem sc_Own : FnScope N_Own P_Own (defScope sOwn) := ⟨rfl, rfl, rfl, by decide +kernel, rfl, by decide +kernel, by decide +kernel⟩
abbrev N_BookInit : List Str := ["self"]
abbrev P_BookInit : List Str := ["self"]
theorem sc_BookInit : FnScope N_BookInit P_BookInit (defScope sBookInit) := ⟨rfl, rfl, rfl, by decide +kernel, rfl, by decide +kernel, by decide +kernel⟩
abbrev N_BookOrderOf : List Str := ["self", "number"]
abbrev P_BookOrderOf : List Str := ["self", "number"]
theorem sc_BookOrderOf : FnScope N_BookOrderOf P_BookOrderOf (defScope sBookOrderOf) := ⟨rfl, rfl, rfl, by decide +kernel, rfl, by decide +kernel, by decide +kernel⟩
abbrev N_BookDo : List Str := ["self", "deed", "changes"]
abbrev P_BookDo : List Str := ["self", "deed"]
theorem sc_BookDo : FnScope N_BookDo P_BookDo (defScope sBookDo) := ⟨rfl, rfl, rfl, by decide +kernel, rfl, by decide +kernel, by decide +kernel⟩
abbrev N_BookBegin : List Str := ["self", "lines", "told"]
abbrev P_BookBegin : List Str := ["self", "lines"]
theorem sc_BookBegin : FnScope N_BookBegin P_BookBegin (defScope sBookBegin) := ⟨rfl, rfl, rfl, by decide +kernel, rfl, by decide +kernel, by decide +kernel⟩
abbrev N_BookShift : List Str := ["self", "deed", "first", "other", "ahead"]
abbrev P_BookShift : List Str := ["self", "deed"]
theorem sc_BookShift : FnScope N_BookShift P_BookShift (defScope sBookShift) := ⟨rfl, rfl, rfl, by decide +kernel, rfl, by decide +kernel, by decide +kernel⟩
abbrev N_BookOne : List Str := ["self", "deed", "order", "number", "ahead"]
abbrev P_BookOne : List Str := ["self", "deed"]
theorem sc_BookOne : FnScope N_BookOne P_BookOne (defScope sBookOne) := ⟨rfl, rfl, rfl, by decide +kernel, rfl, by decide +kernel, by decide +kernel⟩
abbrev N_BookNeedNumber : List Str := ["self", "number"]
abbrev P_BookNeedNumber : List Str := ["self", "number"]
theorem sc_BookNeedNumber : FnScope N_BookNeedNumber P_BookNeedNumber (defScope sBookNeedNumber) := ⟨rfl, rfl, rfl, by decide +kernel, rfl, by decide +kernel, by decide +kernel⟩
abbrev N_BookUndo : List Str := ["self", "deeds", "deed"]
abbrev P_BookUndo : List Str := ["self"]
theorem sc_BookUndo : FnScope N_BookUndo P_BookUndo (defScope sBookUndo) := ⟨rfl, rfl, rfl, by decide +kernel, rfl, by decide +kernel, by decide +kernel⟩
abbrev N_BookOrders : List Str := ["self"]
abbrev P_BookOrders : List Str := ["self"]
theorem sc_BookOrders : FnScope N_BookOrders P_BookOrders (defScope sBookOrders) := ⟨rfl, rfl, rfl, by decide +kernel, rfl, by decide +kernel, by decide +kernel⟩
abbrev N_BookTold : List Str := ["self", "order", "line"]
abbrev P_BookTold : List Str := ["self", "order"]
theorem sc_BookTold : FnScope N_BookTold P_BookTold (defScope sBookTold) := ⟨rfl, rfl, rfl, by decide +kernel, rfl, by decide +kernel, by decide +kernel⟩
abbrev N_BookPaid : List Str := ["self", "order"]
abbrev P_BookPaid : List Str := ["self", "order"]
theorem sc_BookPaid : FnScope N_BookPaid P_BookPaid (defScope sBookPaid) := ⟨rfl, rfl, rfl, by decide +kernel, rfl, by decide +kernel, by decide +kernel⟩
abbrev N_BookOwed : List Str := ["self", "order"]
abbrev P_BookOwed : List Str := ["self", "order"]
theorem sc_BookOwed : FnScope N_BookOwed P_BookOwed (defScope sBookOwed) := ⟨rfl, rfl, rfl, by decide +kernel, rfl, by decide +kernel, by decide +kernel⟩
abbrev N_BookRows : List Str := ["self", "order"]
abbrev P_BookRows : List Str := ["self", "order"]
theorem sc_BookRows : FnScope N_BookRows P_BookRows (defScope sBookRows) := ⟨rfl, rfl, rfl, by decide +kernel, rfl, by decide +kernel, by decide +kernel⟩
abbrev N_BookNet : List Str := ["self", "moves", "order", "debt", "cover", "cents"]
abbrev P_BookNet : List Str := ["self"]
theorem sc_BookNet : FnScope N_BookNet P_BookNet (defScope sBookNet) := ⟨rfl, rfl, rfl, by decide +kernel, rfl, by decide +kernel, by decide +kernel⟩
abbrev N_LCellAt : List Str := ["_law_script", "_law_k"]
abbrev P_LCellAt : List Str := ["_law_script", "_law_k"]
theorem sc_LCellAt : FnScope N_LCellAt P_LCellAt (defScope sLCellAt) := ⟨rfl, rfl, rfl, by decide +kernel, rfl, by decide +kernel, by decide +kernel⟩
abbrev N_LTried : List Str := ["_law_book", "_law_deed"]
abbrev P_LTried : List Str := ["_law_book", "_law_deed"]
theorem sc_LTried : FnScope N_LTried P_LTried (defScope sLTried) := ⟨rfl, rfl, rfl, by decide +kernel, rfl, by decide +kernel, by decide +kernel⟩
abbrev N_LFarBy : List Str := ["_law_cell"]
abbrev P_LFarBy : List Str := ["_law_cell"]
theorem sc_LFarBy : FnScope N_LFarBy P_LFarBy (defScope sLFarBy) := ⟨rfl, rfl, rfl, by decide +kernel, rfl, by decide +kernel, by decide +kernel⟩
abbrev N_LWordBy : List Str := ["_law_cell", "_law_some", "_law_k", "_law_word"]
abbrev P_LWordBy : List Str := ["_law_cell"]
theorem sc_LWordBy : FnScope N_LWordBy P_LWordBy (defScope sLWordBy) := ⟨rfl, rfl, rfl, by decide +kernel, rfl, by decide +kernel, by decide +kernel⟩
abbrev N_LDeedBy : List Str := ["_law_script", "_law_base", "_law_words", "_law_word", "_law_size", "_law_way", "_law_k", "_law_numbers", "_law_last"]
abbrev P_LDeedBy : List Str := ["_law_script", "_law_base"]
theorem sc_LDeedBy : FnScope N_LDeedBy P_LDeedBy (defScope sLDeedBy) := ⟨rfl, rfl, rfl, by decide +kernel, rfl, by decide +kernel, by decide +kernel⟩
abbrev N_LBegun : List Str := ["_law_script", "_law_base", "_law_book", "_law_sent", "_law_k", "_law_sums", "_law_at"]
abbrev P_LBegun : List Str := ["_law_script", "_law_base"]
theorem sc_LBegun : FnScope N_LBegun P_LBegun (defScope sLBegun) := ⟨rfl, rfl, rfl, by decide +kernel, rfl, by decide +kernel, by decide +kernel⟩
abbrev N_LMost : List Str := ["_law_deed", "_law_sent", "_law_sums", "_law_over", "_law_k"]
abbrev P_LMost : List Str := ["_law_deed", "_law_sent", "_law_sums"]
theorem sc_LMost : FnScope N_LMost P_LMost (defScope sLMost) := ⟨rfl, rfl, rfl, by decide +kernel, rfl, by decide +kernel, by decide +kernel⟩
abbrev N_LDue : List Str := ["_law_deed", "_law_sent", "_law_sums", "_law_words", "_law_number"]
abbrev P_LDue : List Str := ["_law_deed", "_law_sent", "_law_sums"]
theorem sc_LDue : FnScope N_LDue P_LDue (defScope sLDue) := ⟨rfl, rfl, rfl, by decide +kernel, rfl, by decide +kernel, by decide +kernel⟩
abbrev N_LOfOneClass : List Str := ["_law_e", "_law_found"]
abbrev P_LOfOneClass : List Str := ["_law_e"]
theorem sc_LOfOneClass : FnScope N_LOfOneClass P_LOfOneClass (defScope sLOfOneClass) := ⟨rfl, rfl, rfl, by decide +kernel, rfl, by decide +kernel, by decide +kernel⟩
abbrev N_LRefusedByAny : List Str := ["_law_book", "_law_deed", "_law_e"]
abbrev P_LRefusedByAny : List Str := ["_law_book", "_law_deed"]
theorem sc_LRefusedByAny : FnScope N_LRefusedByAny P_LRefusedByAny (defScope sLRefusedByAny) := ⟨rfl, rfl, rfl, by decide +kernel, rfl, by decide +kernel, by decide +kernel⟩
abbrev N_LSeen : List Str := ["_law_book", "_law_kept", "_law_found", "_law_at", "_law_lines", "_law_rows"]
abbrev P_LSeen : List Str := ["_law_book", "_law_kept"]
theorem sc_LSeen : FnScope N_LSeen P_LSeen (defScope sLSeen) := ⟨rfl, rfl, rfl, by decide +kernel, rfl, by decide +kernel, by decide +kernel⟩
abbrev N_LKeptWell : List Str := ["_law_kept", "_law_pair"]
abbrev P_LKeptWell : List Str := ["_law_kept"]
theorem sc_LKeptWell : FnScope N_LKeptWell P_LKeptWell (defScope sLKeptWell) := ⟨rfl, rfl, rfl, by decide +kernel, rfl, by decide +kernel, by decide +kernel⟩
abbrev N_LMadeGood : List Str := ["_law_book", "_law_deed", "_law_one", "_law_to_come", "_law_lack"]
abbrev P_LMadeGood : List Str := ["_law_book", "_law_deed"]
theorem sc_LMadeGood : FnScope N_LMadeGood P_LMadeGood (defScope sLMadeGood) := ⟨rfl, rfl, rfl, by decide +kernel, rfl, by decide +kernel, by decide +kernel⟩
abbrev N_LGoodLater : List Str := ["_law_book", "_law_deed", "_law_due_here"]
abbrev P_LGoodLater : List Str := ["_law_book", "_law_deed", "_law_due_here"]
theorem sc_LGoodLater : FnScope N_LGoodLater P_LGoodLater (defScope sLGoodLater) := ⟨rfl, rfl, rfl, by decide +kernel, rfl, by decide +kernel, by decide +kernel⟩
abbrev N_LDeedAsked : List Str := ["_law_script", "_law_base", "_law_begun_here", "_law_book", "_law_deed", "_law_kept", "_law_ahead", "_law_found", "_law_due_here"]
abbrev P_LDeedAsked : List Str := ["_law_script", "_law_base"]
theorem sc_LDeedAsked : FnScope N_LDeedAsked P_LDeedAsked (defScope sLDeedAsked) := ⟨rfl, rfl, rfl, by decide +kernel, rfl, by decide +kernel, by decide +kernel⟩
abbrev N_Law : List Str := ["_law_script", "_law_group"]
abbrev P_Law : List Str := ["_law_script"]
theorem sc_Law : FnScope N_Law P_Law (defScope sLaw) := ⟨rfl, rfl, rfl, by decide +kernel, rfl, by decide +kernel, by decide +kernel⟩
theorem Tx.b_Worth {w : World} {K : PySem.W.Frag} {mg : Str → Option Value} (T : Tx w K mg) : Binds K (fdO K dWorth.at_) P_Worth [] := T.f_Worth.bindsN fun _ _ _ _ _ _ us hl => match us, hl with | [_, _, _], _ => rfl
theorem Tx.b_IsItem {w : World} {K : PySem.W.Frag} {mg : Str → Option Value} (T : Tx w K mg) : Binds K (fdO K dIsItem.at_) P_IsItem [] := T.f_IsItem.bindsN fun _ _ _ _ _ _ us hl => match us, hl with | [_], _ => rfl
theorem Tx.b_CheckLine {w : World} {K : PySem.W.Frag} {mg : Str → Option Value} (T : Tx w K mg) : Binds K (fdO K dCheckLine.at_) P_CheckLine [] := T.f_CheckLine.bindsN fun _ _ _ _ _ _ us hl => match us, hl with | [_], _ => rfl
theorem Tx.b_LineInit {w : World} {K : PySem.W.Frag} {mg : Str → Option Value} (T : Tx w K mg) : Binds K (fdO K dLineInit.at_) P_LineInit [] := T.f_LineInit.bindsN fun _ _ _ _ _ _ us hl => match us, hl with | [_, _], _ => rfl
theorem Tx.b_LineKept {w : World} {K : PySem.W.Frag} {mg : Str → Option Value} (T : Tx w K mg) : Binds K (fdO K dLineKept.at_) P_LineKept [] := T.f_LineKept.bindsN fun _ _ _ _ _ _ us hl => match us, hl with | [_], _ => rfl
theorem Tx.b_LineToCome {w : World} {K : PySem.W.Frag} {mg : Str → Option Value} (T : Tx w K mg) : Binds K (fdO K dLineToCome.at_) P_LineToCome [] := T.f_LineToCome.bindsN fun _ _ _ _ _ _ us hl => match us, hl with | [_], _ => rfl
theorem Tx.b_LineKeptWorth {w : World} {K : PySem.W.Frag} {mg : Str → Option Value} (T : Tx w K mg) : Binds K (fdO K dLineKeptWorth.at_) P_LineKeptWorth [] := T.f_LineKeptWorth.bindsN fun _ _ _ _ _ _ us hl => match us, hl with | [_], _ => rfl
theorem Tx.b_LineCharge {w : World} {K : PySem.W.Frag} {mg : Str → Option Value} (T : Tx w K mg) : Binds K (fdO K dLineCharge.at_) P_LineCharge [] := T.f_LineCharge.bindsN fun _ _ _ _ _ _ us hl => match us, hl with | [_], _ => rfl
theorem Tx.b_LineDeliver {w : World} {K : PySem.W.Frag} {mg : Str → Option Value} (T : Tx w K mg) : Binds K (fdO K dLineDeliver.at_) P_LineDeliver [] := T.f_LineDeliver.bindsN fun _ _ _ _ _ _ us hl => match us, hl with | [_, _], _ => rfl
theorem Tx.b_LineBring {w : World} {K : PySem.W.Frag} {mg : Str → Option Value} (T : Tx w K mg) : Binds K (fdO K dLineBring.at_) P_LineBring [] := T.f_LineBring.bindsN fun _ _ _ _ _ _ us hl => match us, hl with | [_, _, _], _ => rfl
theorem Tx.b_LineReduce {w : World} {K : PySem.W.Frag} {mg : Str → Option Value} (T : Tx w K mg) : Binds K (fdO K dLineReduce.at_) P_LineReduce [] := T.f_LineReduce.bindsN fun _ _ _ _ _ _ us hl => match us, hl with | [_, _], _ => rfl
theorem Tx.b_LineNumbers {w : World} {K : PySem.W.Frag} {mg : Str → Option Value} (T : Tx w K mg) : Binds K (fdO K dLineNumbers.at_) P_LineNumbers [] := T.f_LineNumbers.bindsN fun _ _ _ _ _ _ us hl => match us, hl with | [_], _ => rfl
theorem Tx.b_Matched {w : World} {K : PySem.W.Frag} {mg : Str → Option Value} (T : Tx w K mg) : Binds K (fdO K dMatched.at_) P_Matched [] := T.f_Matched.bindsN fun _ _ _ _ _ _ us hl => match us, hl with | [_], _ => rfl
theorem Tx.b_OrderInit {w : World} {K : PySem.W.Frag} {mg : Str → Option Value} (T : Tx w K mg) : Binds K (fdO K dOrderInit.at_) P_OrderInit [] := T.f_OrderInit.bindsN fun _ _ _ _ _ _ us hl => match us, hl with | [_, _], _ => rfl
theorem Tx.b_OrderOwing {w : World} {K : PySem.W.Frag} {mg : Str → Option Value} (T : Tx w K mg) : Binds K (fdO K dOrderOwing.at_) P_OrderOwing [] := T.f_OrderOwing.bindsN fun _ _ _ _ _ _ us hl => match us, hl with | [_], _ => rfl
theorem Tx.b_OrderLineOf {w : World} {K : PySem.W.Frag} {mg : Str → Option Value} (T : Tx w K mg) : Binds K (fdO K dOrderLineOf.at_) P_OrderLineOf [] := T.f_OrderLineOf.bindsN fun _ _ _ _ _ _ us hl => match us, hl with | [_, _], _ => rfl
theorem Tx.b_OrderNeedOver {w : World} {K : PySem.W.Frag} {mg : Str → Option Value} (T : Tx w K mg) : Binds K (fdO K dOrderNeedOver.at_) P_OrderNeedOver [] := T.f_OrderNeedOver.bindsN fun _ _ _ _ _ _ us hl => match us, hl with | [_, _], _ => rfl
theorem Tx.b_OrderTurnLine {w : World} {K : PySem.W.Frag} {mg : Str → Option Value} (T : Tx w K mg) : Binds K (fdO K dOrderTurnLine.at_) P_OrderTurnLine [] := T.f_OrderTurnLine.bindsN fun _ _ _ _ _ _ us hl => match us, hl with | [_, _, _, _], _ => rfl
theorem Tx.b_OrderTake {w : World} {K : PySem.W.Frag} {mg : Str → Option Value} (T : Tx w K mg) : Binds K (fdO K dOrderTake.at_) P_OrderTake [] := T.f_OrderTake.bindsN fun _ _ _ _ _ _ us hl => match us, hl with | [_, _], _ => rfl
theorem Tx.b_OrderMark {w : World} {K : PySem.W.Frag} {mg : Str → Option Value} (T : Tx w K mg) : Binds K (fdO K dOrderMark.at_) P_OrderMark [] := T.f_OrderMark.bindsN fun _ _ _ _ _ _ us hl => match us, hl with | [_, _, _], _ => rfl
theorem Tx.b_Own {w : World} {K : PySem.W.Frag} {mg : Str → Option Value} (T : Tx w K mg) : Binds K (fdO K dOwn.at_) P_Own [] := T.f_Own.bindsN fun _ _ _ _ _ _ us hl => match us, hl with | [_], _ => rfl
theorem Tx.b_BookInit {w : World} {K : PySem.W.Frag} {mg : Str → Option Value} (T : Tx w K mg) : Binds K (fdO K dBookInit.at_) P_BookInit [] := T.f_BookInit.bindsN fun _ _ _ _ _ _ us hl => match us, hl with | [_], _ => rfl
theorem Tx.b_BookOrderOf {w : World} {K : PySem.W.Frag} {mg : Str → Option Value} (T : Tx w K mg) : Binds K (fdO K dBookOrderOf.at_) P_BookOrderOf [] := T.f_BookOrderOf.bindsN fun _ _ _ _ _ _ us hl => match us, hl with | [_, _], _ => rfl
theorem Tx.b_BookDo {w : World} {K : PySem.W.Frag} {mg : Str → Option Value} (T : Tx w K mg) : Binds K (fdO K dBookDo.at_) P_BookDo [] := T.f_BookDo.bindsN fun _ _ _ _ _ _ us hl => match us, hl with | [_, _], _ => rfl
theorem Tx.b_BookBegin {w : World} {K : PySem.W.Frag} {mg : Str → Option Value} (T : Tx w K mg) : Binds K (fdO K dBookBegin.at_) P_BookBegin [] := T.f_BookBegin.bindsN fun _ _ _ _ _ _ us hl => match us, hl with | [_, _], _ => rfl
theorem Tx.b_BookShift {w : World} {K : PySem.W.Frag} {mg : Str → Option Value} (T : Tx w K mg) : Binds K (fdO K dBookShift.at_) P_BookShift [] := T.f_BookShift.bindsN fun _ _ _ _ _ _ us hl => match us, hl with | [_, _], _ => rfl
theorem Tx.b_BookOne {w : World} {K : PySem.W.Frag} {mg : Str → Option Value} (T : Tx w K mg) : Binds K (fdO K dBookOne.at_) P_BookOne [] := T.f_BookOne.bindsN fun _ _ _ _ _ _ us hl => match us, hl with | [_, _], _ => rfl
theorem Tx.b_BookNeedNumber {w : World} {K : PySem.W.Frag} {mg : Str → Option Value} (T : Tx w K mg) : Binds K (fdO K dBookNeedNumber.at_) P_BookNeedNumber [] := T.f_BookNeedNumber.bindsN fun _ _ _ _ _ _ us hl => match us, hl with | [_, _], _ => rfl
theorem Tx.b_BookUndo {w : World} {K : PySem.W.Frag} {mg : Str → Option Value} (T : Tx w K mg) : Binds K (fdO K dBookUndo.at_) P_BookUndo [] := T.f_BookUndo.bindsN fun _ _ _ _ _ _ us hl => match us, hl with | [_], _ => rfl
theorem Tx.b_BookOrders {w : World} {K : PySem.W.Frag} {mg : Str → Option Value} (T : Tx w K mg) : Binds K (fdO K dBookOrders.at_) P_BookOrders [] := T.f_BookOrders.bindsN fun _ _ _ _ _ _ us hl => match us, hl with | [_], _ => rfl
theorem Tx.b_BookTold {w : World} {K : PySem.W.Frag} {mg : Str → Option Value} (T : Tx w K mg) : Binds K (fdO K dBookTold.at_) P_BookTold [] := T.f_BookTold.bindsN fun _ _ _ _ _ _ us hl => match us, hl with | [_, _], _ => rfl
theorem Tx.b_BookPaid {w : World} {K : PySem.W.Frag} {mg : Str → Option Value} (T : Tx w K mg) : Binds K (fdO K dBookPaid.at_) P_BookPaid [] := T.f_BookPaid.bindsN fun _ _ _ _ _ _ us hl => match us, hl with | [_, _], _ => rfl
theorem Tx.b_BookOwed {w : World} {K : PySem.W.Frag} {mg : Str → Option Value} (T : Tx w K mg) : Binds K (fdO K dBookOwed.at_) P_BookOwed [] := T.f_BookOwed.bindsN fun _ _ _ _ _ _ us hl => match us, hl with | [_, _], _ => rfl
theorem Tx.b_BookRows {w : World} {K : PySem.W.Frag} {mg : Str → Option Value} (T : Tx w K mg) : Binds K (fdO K dBookRows.at_) P_BookRows [] := T.f_BookRows.bindsN fun _ _ _ _ _ _ us hl => match us, hl with | [_, _], _ => rfl
theorem Tx.b_BookNet {w : World} {K : PySem.W.Frag} {mg : Str → Option Value} (T : Tx w K mg) : Binds K (fdO K dBookNet.at_) P_BookNet [] := T.f_BookNet.bindsN fun _ _ _ _ _ _ us hl => match us, hl with | [_], _ => rfl
theorem Tx.b_LCellAt {w : World} {K : PySem.W.Frag} {mg : Str → Option Value} (T : Tx w K mg) : Binds K (fdO K dLCellAt.at_) P_LCellAt [] := T.f_LCellAt.bindsN fun _ _ _ _ _ _ us hl => match us, hl with | [_, _], _ => rfl
theorem Tx.b_LTried {w : World} {K : PySem.W.Frag} {mg : Str → Option Value} (T : Tx w K mg) : Binds K (fdO K dLTried.at_) P_LTried [] := T.f_LTried.bindsN fun _ _ _ _ _ _ us hl => match us, hl with | [_, _], _ => rfl
theorem Tx.b_LFarBy {w : World} {K : PySem.W.Frag} {mg : Str → Option Value} (T : Tx w K mg) : Binds K (fdO K dLFarBy.at_) P_LFarBy [] := T.f_LFarBy.bindsN fun _ _ _ _ _ _ us hl => match us, hl with | [_], _ => rfl
theorem Tx.b_LWordBy {w : World} {K : PySem.W.Frag} {mg : Str → Option Value} (T : Tx w K mg) : Binds K (fdO K dLWordBy.at_) P_LWordBy [] := T.f_LWordBy.bindsN fun _ _ _ _ _ _ us hl => match us, hl with | [_], _ => rfl
theorem Tx.b_LDeedBy {w : World} {K : PySem.W.Frag} {mg : Str → Option Value} (T : Tx w K mg) : Binds K (fdO K dLDeedBy.at_) P_LDeedBy [] := T.f_LDeedBy.bindsN fun _ _ _ _ _ _ us hl => match us, hl with | [_, _], _ => rfl
theorem Tx.b_LBegun {w : World} {K : PySem.W.Frag} {mg : Str → Option Value} (T : Tx w K mg) : Binds K (fdO K dLBegun.at_) P_LBegun [] := T.f_LBegun.bindsN fun _ _ _ _ _ _ us hl => match us, hl with | [_, _], _ => rfl
theorem Tx.b_LMost {w : World} {K : PySem.W.Frag} {mg : Str → Option Value} (T : Tx w K mg) : Binds K (fdO K dLMost.at_) P_LMost [] := T.f_LMost.bindsN fun _ _ _ _ _ _ us hl => match us, hl with | [_, _, _], _ => rfl
theorem Tx.b_LDue {w : World} {K : PySem.W.Frag} {mg : Str → Option Value} (T : Tx w K mg) : Binds K (fdO K dLDue.at_) P_LDue [] := T.f_LDue.bindsN fun _ _ _ _ _ _ us hl => match us, hl with | [_, _, _], _ => rfl
theorem Tx.b_LOfOneClass {w : World} {K : PySem.W.Frag} {mg : Str → Option Value} (T : Tx w K mg) : Binds K (fdO K dLOfOneClass.at_) P_LOfOneClass [] := T.f_LOfOneClass.bindsN fun _ _ _ _ _ _ us hl => match us, hl with | [_], _ => rfl
theorem Tx.b_LRefusedByAny {w : World} {K : PySem.W.Frag} {mg : Str → Option Value} (T : Tx w K mg) : Binds K (fdO K dLRefusedByAny.at_) P_LRefusedByAny [] := T.f_LRefusedByAny.bindsN fun _ _ _ _ _ _ us hl => match us, hl with | [_, _], _ => rfl
theorem Tx.b_LSeen {w : World} {K : PySem.W.Frag} {mg : Str → Option Value} (T : Tx w K mg) : Binds K (fdO K dLSeen.at_) P_LSeen [] := T.f_LSeen.bindsN fun _ _ _ _ _ _ us hl => match us, hl with | [_, _], _ => rfl
theorem Tx.b_LKeptWell {w : World} {K : PySem.W.Frag} {mg : Str → Option Value} (T : Tx w K mg) : Binds K (fdO K dLKeptWell.at_) P_LKeptWell [] := T.f_LKeptWell.bindsN fun _ _ _ _ _ _ us hl => match us, hl with | [_], _ => rfl
theorem Tx.b_LMadeGood {w : World} {K : PySem.W.Frag} {mg : Str → Option Value} (T : Tx w K mg) : Binds K (fdO K dLMadeGood.at_) P_LMadeGood [] := T.f_LMadeGood.bindsN fun _ _ _ _ _ _ us hl => match us, hl with | [_, _], _ => rfl
theorem Tx.b_LGoodLater {w : World} {K : PySem.W.Frag} {mg : Str → Option Value} (T : Tx w K mg) : Binds K (fdO K dLGoodLater.at_) P_LGoodLater [] := T.f_LGoodLater.bindsN fun _ _ _ _ _ _ us hl => match us, hl with | [_, _, _], _ => rfl
theorem Tx.b_LDeedAsked {w : World} {K : PySem.W.Frag} {mg : Str → Option Value} (T : Tx w K mg) : Binds K (fdO K dLDeedAsked.at_) P_LDeedAsked [] := T.f_LDeedAsked.bindsN fun _ _ _ _ _ _ us hl => match us, hl with | [_, _], _ => rfl
theorem Tx.b_Law {w : World} {K : PySem.W.Frag} {mg : Str → Option Value} (T : Tx w K mg) : Binds K (fdO K dLaw.at_) P_Law [] := T.f_Law.bindsN fun _ _ _ _ _ _ us hl => match us, hl with | [_], _ => rfl
theorem runF (w : World) : HandSHeadRun.RunEq R qv hk ob 20000 names (w.withFollow "special-get-raises" false) := by
  intro os
  kernel_rfl
theorem runT (w : World) : HandSHeadRun.RunEq R qv hk ob 20000 names (w.withFollow "special-get-raises" true) := by
  intro os
  kernel_rfl
theorem run (w : World) : HandSHeadRun.RunEq R qv hk ob 20000 names w := PySem.W.byRow2 "special-get-raises" (P := fun w => HandSHeadRun.RunEq R qv hk ob 20000 names w) runF runT w
local macro_rules | `(tactic| walk_at "rd1") => `(tactic| with_reducible first
  | refine r_gn ?_ | refine r_seq ?_ | refine r_asg ?_ | refine r_ret ?_ | refine r_retN ?_ | refine r_drop ?_ | refine r_ifs ?_ | refine r_next ?_ | refine r_var rfl ?_ | refine r_c ?_ | refine r_op ?_ | refine r_un ?_
  | refine r_U ?_ | refine r_I0 ?_ | refine r_eqI ?_ | refine r_neI ?_ | refine r_eqS ?_ | refine r_neS ?_ | refine r_test ?_ | refine r_tB ?_ | refine r_exb ?_ | refine r_and ?_ | refine r_or ?_ | refine r_not ?_
  | refine r_andV ?_ | refine r_orV ?_ | refine r_notV ?_ | refine r_ifE ?_ | refine r_nil ?_ | refine r_cons ?_ | refine r_cb ?_ | refine r_tup ?_ | refine r_lst ?_ | refine r_call ?_ | refine r_callS ?_ | refine r_meth ?_ | refine r_fld ?_ | refine r_sfld ?_
  | refine r_lcl ?_ | refine r_lct ?_ | refine r_lcr ?_ | refine r_forl ?_ | refine r_fort ?_ | refine r_fors ?_ | refine r_forr ?_ | refine r_forr2 ?_
  | refine r_mx ?_ | refine r_sl ?_ | refine r_part ?_ | refine r_nopart ?_ | refine r_exi ?_ | refine r_asgS ?_ | refine r_is_int_int ?_ | refine r_is_int_bool ?_ | refine r_is_int_str ?_ | refine r_is_str_str ?_ | refine r_is_str_int ?_ | refine r_is_str_list ?_
  | refine r_make ?_ | refine r_bm ?_ | refine r_chain ?_ | refine r_itT ?_ | refine r_itF ?_ | refine r_itnT ?_ | refine r_itnF ?_)
local macro_rules | `(tactic| walk_at "rs1") => `(tactic| with_reducible first
  | refine r_gn ?_ | refine r_asg ?_ | refine r_ret ?_ | refine r_retN ?_ | refine r_drop ?_ | refine r_ifs ?_ | refine r_next ?_ | refine r_var rfl ?_ | refine r_c ?_ | refine r_op ?_ | refine r_un ?_
  | refine r_U ?_ | refine r_I0 ?_ | refine r_eqI ?_ | refine r_neI ?_ | refine r_eqS ?_ | refine r_neS ?_ | refine r_test ?_ | refine r_tB ?_ | refine r_exb ?_ | refine r_and ?_ | refine r_or ?_ | refine r_not ?_
  | refine r_andV ?_ | refine r_orV ?_ | refine r_notV ?_ | refine r_ifE ?_ | refine r_nil ?_ | refine r_cons ?_ | refine r_cb ?_ | refine r_tup ?_ | refine r_lst ?_ | refine r_call ?_ | refine r_callS ?_ | refine r_meth ?_ | refine r_fld ?_ | refine r_sfld ?_
  | refine r_lcl ?_ | refine r_lct ?_ | refine r_lcr ?_ | refine r_forl ?_ | refine r_fort ?_ | refine r_fors ?_ | refine r_forr ?_ | refine r_forr2 ?_
  | refine r_mx ?_ | refine r_sl ?_ | refine r_part ?_ | refine r_nopart ?_ | refine r_exi ?_ | refine r_asgS ?_ | refine r_is_int_int ?_ | refine r_is_int_bool ?_ | refine r_is_int_str ?_ | refine r_is_str_str ?_ | refine r_is_str_int ?_ | refine r_is_str_list ?_
  | refine r_make ?_ | refine r_bm ?_ | refine r_chain ?_ | refine r_itT ?_ | refine r_itF ?_ | refine r_itnT ?_ | refine r_itnF ?_)
local macro_rules | `(tactic| walk_at "rs") => `(tactic| repeat walk_at "rs1")
local macro_rules | `(tactic| walk_at "rd") => `(tactic| repeat walk_at "rd1")
local macro_rules | `(tactic| walk_at "pf") => `(tactic| repeat first | exact pf_nil | exact pf_hit | (apply pf_m; decide +kernel))
local macro_rules | `(tactic| walk_at "pos") => `(tactic| (first | (show (0 : Int) < _; decide) | exact ⟨by decide, by decide⟩ | omega))
local macro_rules | `(tactic| walk_at "md") => `(tactic| refine r_I (by walk_at "pos") ?_)
local macro_rules | `(tactic| walk_at "cell") => `(tactic| refine ⟨_, _, rfl, by assumption, by decide, fun _ => ?_⟩)
local macro_rules | `(tactic| walk_at "ml") => `(tactic| first | refine r_I (.inr ⟨by decide, by decide⟩) ?_ | refine r_I (.inl ⟨by decide, by decide⟩) ?_)
/-! ### prices and items -/
def spWorth (_ : PySem.W.Frag) : Sp := fun vs H Q _ => ∃ n c p : Int, vs = [.int n, .int c, .int p] ∧ (-(2 ^ 64) < c ∧ c < 2 ^ 64) ∧ (0 < p ∧ p < 1073741824) ∧ Q (.int (n * c / p)) H
theorem len_Worth {K : PySem.W.Frag} {vs : List V} {H : Hp} {Q : VK} {E : XK} (h : spWorth K vs H Q E) : vs.length = 3 := by
  obtain ⟨_, _, _, rfl, _⟩ := h; rfl
theorem ok_Worth {P : Program} {w : World} {K : PySem.W.Frag} {mg : Str → Option Value} {base : Heap} (T : Tx w K mg) : FnOk P w K mg base CX0 1 (He.fAd K dWorth.at_) (fdO K dWorth.at_) P_Worth (spWorth K) := by
  refine T.f_Worth.ok sc_Worth (fun vs H Q E h => len_Worth h) (fun cdv A outer s H vs Q E hr h => ⟨_, PSs.nox ((pss_one (ps_ret (pe_op op_fdiv (pe_op op_mul (pv 0) (pv 1)) (pv 2))))), ?_⟩)
  obtain ⟨n, c, p, rfl, hc, hp, q⟩ := h
  walk_at "rd"
  refine r_I (.inr hc) ?_
  walk_at "rd"
  exact r_I hp q
/-! ### a line -/
def LnAt (K : PySem.W.Frag) (H : Hp) (a : Addr) (l : Ln) : Prop := ∃ dx, H a = some (.ins (He.ga K "Line") dx (lnF l))
/-- the prices of a line are within their bounds -/
def Ln.ok (l : Ln) : Prop := (0 ≤ l.cents ∧ l.cents ≤ 1000000000) ∧ (1 ≤ l.pack ∧ l.pack ≤ 1000)
def Ln.kept (l : Ln) : Int := l.sent - l.home
def Ln.toCome (l : Ln) : Int := l.ordered - l.sent + l.again
def Ln.worth (l : Ln) : Int := l.kept * l.cents / l.pack
def Ln.charge (l : Ln) : Int := l.worth - l.credited
def spLn (K : PySem.W.Frag) (g : Ln → Int) : Sp := fun vs H Q _ => ∃ (a : Addr) (l : Ln), vs = [.ref a] ∧ LnAt K H a l ∧ l.ok ∧ Q (.int (g l)) H
theorem len_ln {K : PySem.W.Frag} {g : Ln → Int} {vs : List V} {H : Hp} {Q : VK} {E : XK} (h : spLn K g vs H Q E) : vs.length = 1 := by
  obtain ⟨_, _, rfl, _⟩ := h; rfl
abbrev spLineKept (K : PySem.W.Frag) := spLn K Ln.kept
abbrev spLineToCome (K : PySem.W.Frag) := spLn K Ln.toCome
abbrev spLineKeptWorth (K : PySem.W.Frag) := spLn K Ln.worth
abbrev spLineCharge (K : PySem.W.Frag) := spLn K Ln.charge
abbrev len_LineKept {K : PySem.W.Frag} {vs : List V} {H : Hp} {Q : VK} {E : XK} (h : spLineKept K vs H Q E) := len_ln h
abbrev len_LineToCome {K : PySem.W.Frag} {vs : List V} {H : Hp} {Q : VK} {E : XK} (h : spLineToCome K vs H Q E) := len_ln h
abbrev len_LineKeptWorth {K : PySem.W.Frag} {vs : List V} {H : Hp} {Q : VK} {E : XK} (h : spLineKeptWorth K vs H Q E) := len_ln h
abbrev len_LineCharge {K : PySem.W.Frag} {vs : List V} {H : Hp} {Q : VK} {E : XK} (h : spLineCharge K vs H Q E) := len_ln h
theorem ok_LineKept {P : Program} {w : World} {K : PySem.W.Frag} {mg : Str → Option Value} {base : Heap} (T : Tx w K mg) : FnOk P w K mg base CX0 1 (He.fAd K dLineKept.at_) (fdO K dLineKept.at_) P_LineKept (spLineKept K) := by
  refine T.f_LineKept.ok sc_LineKept (fun vs H Q E h => len_LineKept h) (fun cdv A outer s H vs Q E hr h => ⟨_, PSs.nox ((pss_one (ps_ret (pe_op op_sub (pe_fld (pv 0) rfl) (pe_fld (pv 0) rfl))))), ?_⟩)
  obtain ⟨a, l, rfl, ⟨dx, ha⟩, ho, q⟩ := h
  walk_at "rd"
  refine r_f ha T.cl_Line T.n_Line_sent (lk_Line_sent l) ?_
  walk_at "rd"
  refine r_f ha T.cl_Line T.n_Line_home (lk_Line_home l) ?_
  walk_at "rd"
  exact q
theorem ok_LineToCome {P : Program} {w : World} {K : PySem.W.Frag} {mg : Str → Option Value} {base : Heap} (T : Tx w K mg) : FnOk P w K mg base CX0 1 (He.fAd K dLineToCome.at_) (fdO K dLineToCome.at_) P_LineToCome (spLineToCome K) := by
  refine T.f_LineToCome.ok sc_LineToCome (fun vs H Q E h => len_LineToCome h) (fun cdv A outer s H vs Q E hr h => ⟨_, PSs.nox ((pss_one (ps_ret (pe_op op_add (pe_op op_sub (pe_fld (pv 0) rfl) (pe_fld (pv 0) rfl)) (pe_fld (pv 0) rfl))))), ?_⟩)
  obtain ⟨a, l, rfl, ⟨dx, ha⟩, ho, q⟩ := h
  walk_at "rd"
  refine r_f ha T.cl_Line T.n_Line_ordered (lk_Line_ordered l) ?_
  walk_at "rd"
  refine r_f ha T.cl_Line T.n_Line_sent (lk_Line_sent l) ?_
  walk_at "rd"
  refine r_f ha T.cl_Line T.n_Line_again (lk_Line_again l) ?_
  walk_at "rd"
  exact q
theorem ok_LineKeptWorth {P : Program} {w : World} {K : PySem.W.Frag} {mg : Str → Option Value} {base : Heap} (T : Tx w K mg) : FnOk P w K mg base CX0 2 (He.fAd K dLineKeptWorth.at_) (fdO K dLineKeptWorth.at_) P_LineKeptWorth (spLineKeptWorth K) := by
  refine T.f_LineKeptWorth.ok sc_LineKeptWorth (fun vs H Q E h => len_LineKeptWorth h) (fun cdv A outer s H vs Q E hr h => ⟨_, PSs.nox ((pss_one (ps_ret (pe_call (ok_Worth T) (hr.mono (by decide)) rfl T.g_Worth T.f_Worth.kp T.b_Worth .nil pass0 (pa_cons (pe_meth0 (pv 0) T.cl_Line T.m_Line_kept (ok_LineKept T) (hr.mono (by decide)) T.b_LineKept .nil pass0) (pa_cons (pe_fld (pv 0) rfl) (pa_cons (pe_fld (pv 0) rfl) pa_nil))))))), ?_⟩)
  obtain ⟨a, l, rfl, ⟨dx, ha⟩, ho, q⟩ := h
  walk_at "rd"
  refine r_m ha (no_Line_kept l) ?_
  walk_at "rd"
  refine ⟨a, l, rfl, ⟨dx, ha⟩, ho, ?_⟩
  walk_at "rd"
  refine r_f ha T.cl_Line T.n_Line_cents (lk_Line_cents l) ?_
  walk_at "rd"
  refine r_f ha T.cl_Line T.n_Line_pack (lk_Line_pack l) ?_
  walk_at "rd"
  obtain ⟨h1, h2⟩ := ho
  exact ⟨_, _, _, rfl, by omega, by omega, q⟩
theorem ok_LineCharge {P : Program} {w : World} {K : PySem.W.Frag} {mg : Str → Option Value} {base : Heap} (T : Tx w K mg) : FnOk P w K mg base CX0 3 (He.fAd K dLineCharge.at_) (fdO K dLineCharge.at_) P_LineCharge (spLineCharge K) := by
  refine T.f_LineCharge.ok sc_LineCharge (fun vs H Q E h => len_LineCharge h) (fun cdv A outer s H vs Q E hr h => ⟨_, PSs.nox ((pss_one (ps_ret (pe_op op_sub (pe_meth0 (pv 0) T.cl_Line T.m_Line_kept_worth (ok_LineKeptWorth T) (hr.mono (by decide)) T.b_LineKeptWorth .nil pass0) (pe_fld (pv 0) rfl))))), ?_⟩)
  obtain ⟨a, l, rfl, ⟨dx, ha⟩, ho, q⟩ := h
  walk_at "rd"
  refine r_m ha (no_Line_kept_worth l) ?_
  walk_at "rd"
  refine ⟨a, l, rfl, ⟨dx, ha⟩, ho, ?_⟩
  walk_at "rd"
  refine r_f ha T.cl_Line T.n_Line_credited (lk_Line_credited l) ?_
  walk_at "rd"
  exact q

/-! ### items, lines as they are told -/
abbrev letters : Str := "abcdefghijklmnopqrstuvwxyz"
def isItem (z : Str) : Bool := decide (∀ c ∈ z.cps.toList, c ∈ letters.cps.toList) && decide (1 ≤ z.length ∧ z.length ≤ 12)
def spIsItem (_ : PySem.W.Frag) : Sp := fun vs H Q _ => ∃ z : Str, vs = [.str z] ∧ z.length ≤ 100000 ∧ Q (.bl (isItem z)) H
theorem len_IsItem {K : PySem.W.Frag} {vs : List V} {H : Hp} {Q : VK} {E : XK} (h : spIsItem K vs H Q E) : vs.length = 1 := by
  obtain ⟨_, rfl, _⟩ := h; rfl
theorem isItem_no {z : Str} {i : Nat} {c : Nat} (h : z.cps[i]? = some c) (n : ¬ c ∈ letters.cps.toList) : isItem z = false := by
  have hm : c ∈ z.cps.toList := by
    have h2 : z.cps.toList[i]? = some c := by simpa using h
    exact List.mem_of_getElem? h2
  unfold isItem
  rw [decide_eq_false (fun q => n (q c hm))]
  rfl
theorem isItem_yes {z : Str} (h : ∀ j c, j < z.cps.size → z.cps[j]? = some c → c ∈ letters.cps.toList) : isItem z = decide (1 ≤ z.length ∧ z.length ≤ 12) := by
  unfold isItem
  rw [decide_eq_true (fun c hc => ?_)]
  · rfl
  · obtain ⟨j, hj⟩ := List.getElem?_of_mem hc
    have h2 : z.cps[j]? = some c := by simpa using hj
    exact h j c (Array.getElem?_eq_some_iff.mp h2).1 h2
theorem ok_IsItem {P : Program} {w : World} {K : PySem.W.Frag} {mg : Str → Option Value} {base : Heap} (T : Tx w K mg) : FnOk P w K mg base CX0 1 (He.fAd K dIsItem.at_) (fdO K dIsItem.at_) P_IsItem (spIsItem K) := by
  refine T.f_IsItem.ok sc_IsItem (fun vs H Q E h => len_IsItem h) (fun cdv A outer s H vs Q E hr h => ⟨_, PSs.nox ((pss_cons (ps_for PassesOwn.never rfl (pi_str (pv 0)) (pg_name (i := 1) sc_IsItem.nd rfl (Or.inl rfl)) (pss_one (ps_if (pt_cmpR op_notIn_sign (pv 1) (pe_gc rfl T.c_LETTERS) (by rfl)) (pss_one (ps_ret pe_bl)) pss_nil)))
      (pss_one (ps_ret (pe_chain op_le op_le pe_int (pe_callB call_len_str (by rfl) T.b_len (by decide +kernel) (pa_cons (pv 0) pa_nil)) (pe_gc rfl T.c_MOST_LETTERS)))))), ?_⟩)
  obtain ⟨z, rfl, hz, q⟩ := h
  walk_at "rd"
  refine ⟨z, rfl, for_it walk_str (fun i σ H' => ∃ v, σ = [some (.str z), v] ∧ H' = H ∧ ∀ j c, j < i → z.cps[j]? = some c → c ∈ letters.cps.toList) ⟨none, rfl, rfl, fun j c hj => absurd hj (Nat.not_lt_zero _)⟩ (fun _ _ _ _ _ => trivial) ?_ ?_⟩
  · rintro i x σ H1 H2 hi ⟨v, rfl, rfl, hp⟩ ⟨rfl, c, hc, rfl⟩
    walk_at "rd"
    refine ⟨c, _, rfl, rfl, ?_⟩
    walk_at "rd"
    refine r_itn (fun hn => ?_) (fun hy => ?_)
    · walk_at "rd"
      rw [isItem_no hc hn] at q
      exact q
    · walk_at "rd"
      refine ⟨_, rfl, rfl, fun j c' hj e => ?_⟩
      by_cases h : j = i
      · subst h
        rw [hc] at e
        rw [← Option.some.inj e]
        exact hy
      · exact hp j c' (by omega) e
  · rintro σ H1 ⟨v, rfl, rfl, hp⟩
    walk_at "rd"
    refine ⟨z, rfl, sz5 hz, ?_⟩
    rw [isItem_yes hp] at q
    walk_at "rd"
    refine r_itd (fun h1 => ?_) (fun h1 => ?_)
    · walk_at "rd"
      have e : decide (1 ≤ z.length ∧ z.length ≤ 12) = decide ((z.length : Int) ≤ 12) := by
        by_cases h2 : z.length ≤ 12
        · rw [decide_eq_true (by omega), decide_eq_true (by omega)]
        · rw [decide_eq_false (by omega), decide_eq_false (by omega)]
      rw [e] at q
      exact q
    · rw [decide_eq_false (by omega)] at q
      exact q
/-- a line as it is handed in -/
structure Lt where
  item : Str
  pieces : Int
  cents : Int
  pack : Int
def LtAt (H : Hp) (v : V) (t : Lt) : Prop := ∃ a, v = .ref a ∧ H a = some (.tup [.str t.item, .int t.pieces, .int t.cents, .int t.pack])
inductive Er where
  | noDeed | noLines | noItem | noNumber | fullBook | noOrder | sameOrder | noLine | tooMuch | nothingDone
  deriving DecidableEq
def Er.name : Er → Str
  | .noDeed => "NoDeed" | .noLines => "NoLines" | .noItem => "NoItem" | .noNumber => "NoNumber" | .fullBook => "FullBook"
  | .noOrder => "NoOrder" | .sameOrder => "SameOrder" | .noLine => "NoLine" | .tooMuch => "TooMuch" | .nothingDone => "NothingDone"
def numOk (t : Lt) : Prop := (1 ≤ t.pieces ∧ t.pieces ≤ 1000000) ∧ (0 ≤ t.cents ∧ t.cents ≤ 1000000000) ∧ (1 ≤ t.pack ∧ t.pack ≤ 1000)
instance (t : Lt) : Decidable (numOk t) := by unfold numOk; infer_instance
def ltCheck (t : Lt) : Option Er := if isItem t.item then (if numOk t then none else some .noNumber) else some .noItem
/-- what leaves: by the verdict -/
def Out (K : PySem.W.Frag) (r : Option Er) (ok : Prop) (E : Value → Prop) : Prop := match r with
  | none => ok
  | some e => E (.ref (He.ga K e.name))
def spCheckLine (K : PySem.W.Frag) : Sp := fun vs H Q E => ∃ (v : V) (t : Lt), vs = [v] ∧ LtAt H v t ∧ t.item.length ≤ 100000 ∧ Out K (ltCheck t) (Q .non H) fun c => E c none H
theorem len_CheckLine {K : PySem.W.Frag} {vs : List V} {H : Hp} {Q : VK} {E : XK} (h : spCheckLine K vs H Q E) : vs.length = 1 := by
  obtain ⟨_, _, rfl, _⟩ := h; rfl
theorem ok_CheckLine {P : Program} {w : World} {K : PySem.W.Frag} {mg : Str → Option Value} {base : Heap} (T : Tx w K mg) : FnOk P w K mg base (L2.CX P w) 2 (He.fAd K dCheckLine.at_) (fdO K dCheckLine.at_) P_CheckLine (spCheckLine K) := by
  refine T.f_CheckLine.ok sc_CheckLine (fun vs H Q E h => len_CheckLine h) (fun cdv A outer s H vs Q E hr h => ⟨_, ((pss_cons (ps_if (pt_not (pt_val (pe_call (ok_IsItem T) (hr.mono (by decide)) rfl T.g_IsItem T.f_IsItem.kp T.b_IsItem .nil pass0 (pa_cons (pe_ix ix_tup (pv 0) pe_int (fun _ _ => rfl)) pa_nil)))) (pss_one (ps_raise rfl (takes_of rfl rfl rfl rfl) (pmk_own PySem.F.excBase_ValueError T.x_NoItem.1 T.g_NoItem T.x_NoItem.2.1 (raises_own T.x_NoItem.2.2.1 T.x_NoItem.2.2.2) rfl))) pss_nil)
      (pss_cons (ps_if (pt_not (pt_chain op_le op_le pe_int (pe_ix ix_tup (pv 0) pe_int (fun _ _ => rfl)) (pe_gc rfl T.c_MOST_PIECES))) (pss_one (ps_raise rfl (takes_of rfl rfl rfl rfl) (pmk_own PySem.F.excBase_ValueError T.x_NoNumber.1 T.g_NoNumber T.x_NoNumber.2.1 (raises_own T.x_NoNumber.2.2.1 T.x_NoNumber.2.2.2) rfl))) pss_nil)
      (pss_one (ps_if (PW.pt (pw_or (pt_not (pt_chain op_le op_le pe_int (pe_ix ix_tup (pv 0) pe_int (fun _ _ => rfl)) (pe_gc rfl T.c_MOST_CENTS))) (pw_or1 (pt_not (pt_chain op_le op_le pe_int (pe_ix ix_tup (pv 0) pe_int (fun _ _ => rfl)) (pe_gc rfl T.c_MOST_PACK)))))) (pss_one (ps_raise rfl (takes_of rfl rfl rfl rfl) (pmk_own PySem.F.excBase_ValueError T.x_NoNumber.1 T.g_NoNumber T.x_NoNumber.2.1 (raises_own T.x_NoNumber.2.2.1 T.x_NoNumber.2.2.2) rfl))) pss_nil))))), ?_⟩)
  obtain ⟨v, t, rfl, ⟨a, rfl, ha⟩, hz, o⟩ := h
  walk_at "rd"
  refine r_ixT (SqT.of ha) (atI_get (j := 0) rfl rfl) ?_
  walk_at "rd"
  refine ⟨t.item, rfl, hz, ?_⟩
  walk_at "rd"
  unfold ltCheck at o
  cases hi : isItem t.item with
  | false =>
    rw [hi] at o
    walk_at "rd"
    exact o
  | true =>
    rw [hi, if_pos rfl] at o
    walk_at "rd"
    refine r_ixT (SqT.of ha) (atI_get (j := 1) rfl rfl) ?_
    walk_at "rd"
    have bad : ¬ numOk t → E (.ref (He.ga K "NoNumber")) none H := fun n => by
      rw [if_neg n] at o
      exact o
    refine r_itd (fun h1 => ?_) (fun h1 => ?_)
    · walk_at "rd"
      refine r_itn (fun h2 => ?_) (fun h2 => ?_)
      · exact bad fun z => h2 z.1.2
      walk_at "rd"
      refine r_ixT (SqT.of ha) (atI_get (j := 2) rfl rfl) ?_
      walk_at "rd"
      refine r_itd (fun h3 => ?_) (fun h3 => ?_)
      · walk_at "rd"
        refine r_itn (fun h4 => ?_) (fun h4 => ?_)
        · exact bad fun z => h4 z.2.1.2
        walk_at "rd"
        refine r_ixT (SqT.of ha) (atI_get (j := 3) rfl rfl) ?_
        walk_at "rd"
        refine r_itd (fun h5 => ?_) (fun h5 => ?_)
        · walk_at "rd"
          refine r_itn (fun h6 => ?_) (fun h6 => ?_)
          · exact bad fun z => h6 z.2.2.2
          walk_at "rd"
          rw [if_pos (show numOk t from ⟨⟨h1, h2⟩, ⟨h3, h4⟩, h5, h6⟩)] at o
          exact o
        · walk_at "rd"
          exact bad fun z => h5 z.2.2.1
      · walk_at "rd"
        exact bad fun z => h3 z.2.1.1
    · walk_at "rd"
      exact bad fun z => h1 z.1.1
/-! ### a line's deeds -/
def Lt.ln (t : Lt) : Ln := ⟨t.item, t.pieces, t.cents, t.pack, 0, 0, 0, 0⟩
def spLineInit (K : PySem.W.Frag) : Sp := fun vs H Q _ => ∃ (a dx : Addr) (v : V) (t : Lt), vs = [.ref a, v] ∧ H a = some (.ins (He.ga K "Line") dx []) ∧ LtAt H v t ∧ ∀ H', LnAt K H' a t.ln → But (· = a) H H' → Q .non H'
theorem len_LineInit {K : PySem.W.Frag} {vs : List V} {H : Hp} {Q : VK} {E : XK} (h : spLineInit K vs H Q E) : vs.length = 2 := by
  obtain ⟨_, _, _, _, rfl, _⟩ := h; rfl
theorem ok_LineInit {P : Program} {w : World} {K : PySem.W.Frag} {mg : Str → Option Value} {base : Heap} (T : Tx w K mg) : FnOk P w K mg base CX0 1 (He.fAd K dLineInit.at_) (fdO K dLineInit.at_) P_LineInit (spLineInit K) := by
  refine T.f_LineInit.ok sc_LineInit (fun vs H Q E h => len_LineInit h) (fun cdv A outer s H vs Q E hr h => ⟨_, PSs.nox ((pss_cons (ps_fld (pv 0) (pe_ix ix_tup (pv 1) pe_int (fun _ _ => rfl)) rfl)
      (pss_cons (ps_fld (pv 0) (pe_ix ix_tup (pv 1) pe_int (fun _ _ => rfl)) rfl)
      (pss_cons (ps_fld (pv 0) (pe_ix ix_tup (pv 1) pe_int (fun _ _ => rfl)) rfl)
      (pss_cons (ps_fld (pv 0) (pe_ix ix_tup (pv 1) pe_int (fun _ _ => rfl)) rfl)
      (pss_cons (ps_fld (pv 0) pe_int rfl)
      (pss_cons (ps_fld (pv 0) pe_int rfl)
      (pss_cons (ps_fld (pv 0) pe_int rfl)
      (pss_one (ps_fld (pv 0) pe_int rfl)))))))))), ?_⟩)
  obtain ⟨a, dx, v, t, rfl, ha, ⟨b, rfl, hb⟩, k⟩ := h
  have ab : b ≠ a := ne_of hb ha (by intro q; cases q)
  walk_at "rd"
  refine r_ixT (SqT.of hb) (atI_get (j := 0) rfl rfl) ?_
  walk_at "rd"
  refine r_sf ha T.cl_Line T.n_Line_item (by walk_at "pf") (by simp) ?_
  walk_at "rd"
  refine r_ixT (SqT.of (by rw [upd_ne ab]; exact hb)) (atI_get (j := 1) rfl rfl) ?_
  walk_at "rd"
  refine r_sf upd_same T.cl_Line T.n_Line_ordered (by walk_at "pf") (by simp) ?_
  rw [upd_upd]
  walk_at "rd"
  refine r_ixT (SqT.of (by rw [upd_ne ab]; exact hb)) (atI_get (j := 2) rfl rfl) ?_
  walk_at "rd"
  refine r_sf upd_same T.cl_Line T.n_Line_cents (by walk_at "pf") (by simp) ?_
  rw [upd_upd]
  walk_at "rd"
  refine r_ixT (SqT.of (by rw [upd_ne ab]; exact hb)) (atI_get (j := 3) rfl rfl) ?_
  walk_at "rd"
  refine r_sf upd_same T.cl_Line T.n_Line_pack (by walk_at "pf") (by simp) ?_
  rw [upd_upd]
  walk_at "rd"
  refine r_sf upd_same T.cl_Line T.n_Line_sent (by walk_at "pf") (by simp) ?_
  rw [upd_upd]
  walk_at "rd"
  refine r_sf upd_same T.cl_Line T.n_Line_home (by walk_at "pf") (by simp) ?_
  rw [upd_upd]
  walk_at "rd"
  refine r_sf upd_same T.cl_Line T.n_Line_again (by walk_at "pf") (by simp) ?_
  rw [upd_upd]
  walk_at "rd"
  refine r_sf upd_same T.cl_Line T.n_Line_credited (by walk_at "pf") (by simp) ?_
  rw [upd_upd]
  walk_at "rd"
  exact k _ ⟨dx, upd_same⟩ (But.ins ha rfl)
/-- a line's deed: refused, or the line behind it -/
def spLd (K : PySem.W.Frag) (g : Ln → Int → Option Ln) : Sp := fun vs H Q E => ∃ (a : Addr) (l : Ln) (n : Int), vs = [.ref a, .int n] ∧ LnAt K H a l ∧ l.ok ∧
  (g l n = none → E (.ref (He.ga K "TooMuch")) none H) ∧ ∀ l', g l n = some l' → ∀ H', LnAt K H' a l' → But (· = a) H H' → Q .non H'
theorem len_ld {K : PySem.W.Frag} {g : Ln → Int → Option Ln} {vs : List V} {H : Hp} {Q : VK} {E : XK} (h : spLd K g vs H Q E) : vs.length = 2 := by
  obtain ⟨_, _, _, rfl, _⟩ := h; rfl
def Ln.deliver (l : Ln) (n : Int) : Option Ln := if n > l.toCome then none else some { l with sent := l.sent + n }
def Ln.reduce (l : Ln) (n : Int) : Option Ln := if n > l.charge then none else some { l with credited := l.credited + n }
def Ln.cut (l : Ln) : Ln := { l with credited := if l.worth < l.credited then l.worth else l.credited }
def Ln.bring (anew : Bool) (l : Ln) (n : Int) : Option Ln := if n > l.kept then none else some (Ln.cut (if anew then { l with home := l.home + n, again := l.again + n } else { l with home := l.home + n }))
abbrev spLineDeliver (K : PySem.W.Frag) := spLd K Ln.deliver
abbrev spLineReduce (K : PySem.W.Frag) := spLd K Ln.reduce
abbrev len_LineDeliver {K : PySem.W.Frag} {vs : List V} {H : Hp} {Q : VK} {E : XK} (h : spLineDeliver K vs H Q E) := len_ld h
abbrev len_LineReduce {K : PySem.W.Frag} {vs : List V} {H : Hp} {Q : VK} {E : XK} (h : spLineReduce K vs H Q E) := len_ld h
theorem ok_LineDeliver {P : Program} {w : World} {K : PySem.W.Frag} {mg : Str → Option Value} {base : Heap} (T : Tx w K mg) : FnOk P w K mg base (L2.CX P w) 2 (He.fAd K dLineDeliver.at_) (fdO K dLineDeliver.at_) P_LineDeliver (spLineDeliver K) := by
  refine T.f_LineDeliver.ok sc_LineDeliver (fun vs H Q E h => len_LineDeliver h) (fun cdv A outer s H vs Q E hr h => ⟨_, ((pss_cons (ps_if (pt_cmpR op_gt (pv 1) (pe_meth0 (pv 0) T.cl_Line T.m_Line_to_come (ok_LineToCome T) (hr.mono (by decide)) T.b_LineToCome .nil pass0) (nomark _)) (pss_one (ps_raise rfl (takes_of rfl rfl rfl rfl) (pmk_own PySem.F.excBase_ValueError T.x_TooMuch.1 T.g_TooMuch T.x_TooMuch.2.1 (raises_own T.x_TooMuch.2.2.1 T.x_TooMuch.2.2.2) rfl))) pss_nil)
      (pss_one (ps_fld (pv 0) (pe_op op_add (pe_fld (pv 0) rfl) (pv 1)) rfl)))), ?_⟩)
  obtain ⟨a, l, n, rfl, ⟨dx, ha⟩, ho, no, k⟩ := h
  walk_at "rd"
  refine r_m ha (no_Line_to_come l) ?_
  walk_at "rd"
  refine ⟨a, l, rfl, ⟨dx, ha⟩, ho, ?_⟩
  walk_at "rd"
  unfold Ln.deliver at no k
  refine r_itd (fun c => ?_) (fun c => ?_)
  · rw [if_pos c] at no
    exact no rfl
  · rw [if_neg c] at k
    walk_at "rd"
    refine r_f ha T.cl_Line T.n_Line_sent (lk_Line_sent l) ?_
    walk_at "rd"
    refine r_sf ha T.cl_Line T.n_Line_sent (pt_Line_sent l _) (by show 8 ≤ 20; decide) ?_
    exact k _ rfl _ ⟨dx, upd_same⟩ (But.ins ha rfl)
theorem ok_LineReduce {P : Program} {w : World} {K : PySem.W.Frag} {mg : Str → Option Value} {base : Heap} (T : Tx w K mg) : FnOk P w K mg base (L2.CX P w) 4 (He.fAd K dLineReduce.at_) (fdO K dLineReduce.at_) P_LineReduce (spLineReduce K) := by
  refine T.f_LineReduce.ok sc_LineReduce (fun vs H Q E h => len_LineReduce h) (fun cdv A outer s H vs Q E hr h => ⟨_, ((pss_cons (ps_if (pt_cmpR op_gt (pv 1) (pe_meth0 (pv 0) T.cl_Line T.m_Line_charge (ok_LineCharge T) (hr.mono (by decide)) T.b_LineCharge .nil pass0) (nomark _)) (pss_one (ps_raise rfl (takes_of rfl rfl rfl rfl) (pmk_own PySem.F.excBase_ValueError T.x_TooMuch.1 T.g_TooMuch T.x_TooMuch.2.1 (raises_own T.x_TooMuch.2.2.1 T.x_TooMuch.2.2.2) rfl))) pss_nil)
      (pss_one (ps_fld (pv 0) (pe_op op_add (pe_fld (pv 0) rfl) (pv 1)) rfl)))), ?_⟩)
  obtain ⟨a, l, n, rfl, ⟨dx, ha⟩, ho, no, k⟩ := h
  walk_at "rd"
  refine r_m ha (no_Line_charge l) ?_
  walk_at "rd"
  refine ⟨a, l, rfl, ⟨dx, ha⟩, ho, ?_⟩
  walk_at "rd"
  unfold Ln.reduce at no k
  refine r_itd (fun c => ?_) (fun c => ?_)
  · rw [if_pos c] at no
    exact no rfl
  · rw [if_neg c] at k
    walk_at "rd"
    refine r_f ha T.cl_Line T.n_Line_credited (lk_Line_credited l) ?_
    walk_at "rd"
    refine r_sf ha T.cl_Line T.n_Line_credited (pt_Line_credited l _) (by show 8 ≤ 20; decide) ?_
    exact k _ rfl _ ⟨dx, upd_same⟩ (But.ins ha rfl)
def spLineBring (K : PySem.W.Frag) : Sp := fun vs H Q E => ∃ (b : Bool) (v : V) (n : V), vs = [v, n, .bl b] ∧ spLd K (Ln.bring b) [v, n] H Q E
theorem len_LineBring {K : PySem.W.Frag} {vs : List V} {H : Hp} {Q : VK} {E : XK} (h : spLineBring K vs H Q E) : vs.length = 3 := by
  obtain ⟨_, _, _, rfl, _⟩ := h; rfl
theorem ok_LineBring {P : Program} {w : World} {K : PySem.W.Frag} {mg : Str → Option Value} {base : Heap} (T : Tx w K mg) : FnOk P w K mg base (L2.CX P w) 3 (He.fAd K dLineBring.at_) (fdO K dLineBring.at_) P_LineBring (spLineBring K) := by
  refine T.f_LineBring.ok sc_LineBring (fun vs H Q E h => len_LineBring h) (fun cdv A outer s H vs Q E hr h => ⟨_, ((pss_cons (ps_if (pt_cmpR op_gt (pv 1) (pe_meth0 (pv 0) T.cl_Line T.m_Line_kept (ok_LineKept T) (hr.mono (by decide)) T.b_LineKept .nil pass0) (nomark _)) (pss_one (ps_raise rfl (takes_of rfl rfl rfl rfl) (pmk_own PySem.F.excBase_ValueError T.x_TooMuch.1 T.g_TooMuch T.x_TooMuch.2.1 (raises_own T.x_TooMuch.2.2.1 T.x_TooMuch.2.2.2) rfl))) pss_nil)
      (pss_cons (ps_fld (pv 0) (pe_op op_add (pe_fld (pv 0) rfl) (pv 1)) rfl)
      (pss_cons (ps_if (pt_val (pv 2)) (pss_one (ps_fld (pv 0) (pe_op op_add (pe_fld (pv 0) rfl) (pv 1)) rfl)) pss_nil)
      (pss_one (ps_fld (pv 0) (pe_callB (call_min2 rfl) (by rfl) T.b_min (by decide +kernel) (pa_cons (pe_fld (pv 0) rfl) (pa_cons (pe_meth0 (pv 0) T.cl_Line T.m_Line_kept_worth (ok_LineKeptWorth T) (hr.mono (by decide)) T.b_LineKeptWorth .nil pass0) pa_nil))) rfl)))))), ?_⟩)
  obtain ⟨anew, v, n, rfl, a, l, m, e, ⟨dx, ha⟩, ho, no, k⟩ := h
  cases e
  walk_at "rd"
  refine r_m ha (no_Line_kept l) ?_
  walk_at "rd"
  refine ⟨a, l, rfl, ⟨dx, ha⟩, ho, ?_⟩
  walk_at "rd"
  unfold Ln.bring at no k
  refine r_itd (fun c => ?_) (fun c => ?_)
  · rw [if_pos c] at no
    exact no rfl
  · rw [if_neg c] at k
    walk_at "rd"
    refine r_f ha T.cl_Line T.n_Line_home (lk_Line_home l) ?_
    walk_at "rd"
    refine r_sf ha T.cl_Line T.n_Line_home (pt_Line_home l _) (by show 8 ≤ 20; decide) ?_
    walk_at "rd"
    have fin : ∀ (l2 : Ln) (H2 : Hp), l2.ok → H2 a = some (.ins (He.ga K "Line") dx (lnF l2)) → But (· = a) H H2 → (∀ H', LnAt K H' a l2.cut → But (· = a) H H' → Q .non H') → sFld K (tVar 0)
        (tCB (fun xs H Q => ∃ i j, xs = [V.int i, V.int j] ∧ Q (V.int (if j < i then j else i)) H) (tCons (tFld K (tVar 0) "credited") (tCons (tMeth (He.ga K "Line") "kept_worth" (spLineKeptWorth K) [] E0 (tVar 0) tNil) tNil)))
        "credited" { nx := fun _ H' => Q .non H', rt := Q } (start N_LineBring [V.ref a, V.int m, V.bl anew]) H2 := by
      intro l2 H2 ok2 h2 b2 k2
      walk_at "rd"
      refine r_f h2 T.cl_Line T.n_Line_credited (lk_Line_credited l2) ?_
      walk_at "rd"
      refine r_m h2 (no_Line_kept_worth l2) ?_
      walk_at "rd"
      refine ⟨a, l2, rfl, ⟨dx, h2⟩, ok2, ?_⟩
      walk_at "rd"
      refine ⟨_, _, rfl, ?_⟩
      walk_at "rd"
      refine r_sf h2 T.cl_Line T.n_Line_credited (pt_Line_credited l2 _) (by show 8 ≤ 20; decide) ?_
      exact k2 _ ⟨dx, upd_same⟩ (b2.trans (But.ins h2 rfl))
    cases anew with
    | true =>
      walk_at "rd"
      refine r_f upd_same T.cl_Line T.n_Line_again (lk_Line_again _) ?_
      walk_at "rd"
      refine r_sf upd_same T.cl_Line T.n_Line_again (pt_Line_again _ _) (by show 8 ≤ 20; decide) ?_
      rw [upd_upd]
      exact fin { l with home := l.home + m, again := l.again + m } _ ho upd_same (But.ins ha rfl) (fun H' h1 h2 => k _ rfl H' h1 h2)
    | false =>
      refine r_itF (r_next ?_)
      exact fin { l with home := l.home + m } _ ho upd_same (But.ins ha rfl) (fun H' h1 h2 => k _ rfl H' h1 h2)
def lnTold (l : Ln) : List V := [.str l.item, .int l.ordered, .int l.sent, .int l.home, .int l.again, .int l.credited]
def spLineNumbers (K : PySem.W.Frag) : Sp := fun vs H Q _ => ∃ (a : Addr) (l : Ln), vs = [.ref a] ∧ LnAt K H a l ∧ ∀ p, H p = none → Q (.ref p) (upd H p (.tup (lnTold l)))
theorem len_LineNumbers {K : PySem.W.Frag} {vs : List V} {H : Hp} {Q : VK} {E : XK} (h : spLineNumbers K vs H Q E) : vs.length = 1 := by
  obtain ⟨_, _, rfl, _⟩ := h; rfl
theorem ok_LineNumbers {P : Program} {w : World} {K : PySem.W.Frag} {mg : Str → Option Value} {base : Heap} (T : Tx w K mg) : FnOk P w K mg base CX0 1 (He.fAd K dLineNumbers.at_) (fdO K dLineNumbers.at_) P_LineNumbers (spLineNumbers K) := by
  refine T.f_LineNumbers.ok sc_LineNumbers (fun vs H Q E h => len_LineNumbers h) (fun cdv A outer s H vs Q E hr h => ⟨_, PSs.nox ((pss_one (ps_ret (pe_tup (pa_cons (pe_fld (pv 0) rfl) (pa_cons (pe_fld (pv 0) rfl) (pa_cons (pe_fld (pv 0) rfl) (pa_cons (pe_fld (pv 0) rfl) (pa_cons (pe_fld (pv 0) rfl) (pa_cons (pe_fld (pv 0) rfl) pa_nil)))))))))), ?_⟩)
  obtain ⟨a, l, rfl, ⟨dx, ha⟩, k⟩ := h
  walk_at "rd"
  refine r_f ha T.cl_Line T.n_Line_item (lk_Line_item l) ?_
  walk_at "rd"
  refine r_f ha T.cl_Line T.n_Line_ordered (lk_Line_ordered l) ?_
  walk_at "rd"
  refine r_f ha T.cl_Line T.n_Line_sent (lk_Line_sent l) ?_
  walk_at "rd"
  refine r_f ha T.cl_Line T.n_Line_home (lk_Line_home l) ?_
  walk_at "rd"
  refine r_f ha T.cl_Line T.n_Line_again (lk_Line_again l) ?_
  walk_at "rd"
  refine r_f ha T.cl_Line T.n_Line_credited (lk_Line_credited l) ?_
  walk_at "rd"
  exact r_mk (by simp) k

/-! ### an order -/
structure Od where
  lines : List Ln
  money : Int
  marks : List (Str × Int)
/-- where an order lies -/
structure OL where
  o : Addr
  ll : Addr
  lm : Addr
  las : List Addr
def OL.foot (p : OL) (a : Addr) : Prop := a = p.o ∨ a = p.ll ∨ a = p.lm ∨ a ∈ p.las
def MkAt (H : Hp) (v : V) (m : Str × Int) : Prop := ∃ b, v = .ref b ∧ H b = some (.tup [.str m.1, .int m.2])
structure OdAt (K : PySem.W.Frag) (H : Hp) (p : OL) (o : Od) : Prop where
  ob : ∃ dx, H p.o = some (.ins (He.ga K "Order") dx (odF p.ll o.money p.lm))
  ll : H p.ll = some (.lst (p.las.map V.ref))
  len : p.las.length = o.lines.length
  ln : ∀ (i : Nat) a l, p.las[i]? = some a → o.lines[i]? = some l → LnAt K H a l
  nd : p.las.Nodup
  dif : p.ll ≠ p.lm
  lm : ∃ ts, H p.lm = some (.lst ts) ∧ Paired (MkAt H) ts o.marks
structure Od.ok (o : Od) : Prop where
  ln : ∀ l, l ∈ o.lines → l.ok
  few : o.lines.length ≤ 20
def Od.owing (o : Od) : Int := (o.lines.map Ln.charge).sum - o.money
theorem But.lnAt {K : PySem.W.Frag} {S : Addr → Prop} {H H' : Hp} {a : Addr} {l : Ln} (b : But S H H') (h : LnAt K H a l) (n : ¬ S a) : LnAt K H' a l := by
  obtain ⟨dx, e⟩ := h
  exact ⟨dx, b.keep _ _ e n⟩
theorem But.mks {S : Addr → Prop} {H H' : Hp} (b : But S H H') {ts : List V} {ms : List (Str × Int)} (h : Paired (MkAt H) ts ms) : Paired (MkAt H') ts ms :=
  Paired.mapP h fun _ _ ⟨c, e, q⟩ => ⟨c, e, b.tup _ _ q⟩
/-- an order that is left alone -/
theorem OdAt.keep {K : PySem.W.Frag} {S : Addr → Prop} {H H' : Hp} {p : OL} {o : Od} (h : OdAt K H p o) (b : But S H H') (n : ∀ a, p.foot a → ¬ S a) : OdAt K H' p o where
  ob := by
    obtain ⟨dx, e⟩ := h.ob
    exact ⟨dx, b.keep _ _ e (n _ (.inl rfl))⟩
  ll := b.keep _ _ h.ll (n _ (.inr (.inl rfl)))
  len := h.len
  ln := fun i a l e1 e2 => b.lnAt (h.ln i a l e1 e2) (n _ (.inr (.inr (.inr (List.mem_of_getElem? e1)))))
  nd := h.nd
  dif := h.dif
  lm := by
    obtain ⟨ts, e, q⟩ := h.lm
    exact ⟨ts, b.keep _ _ e (n _ (.inr (.inr (.inl rfl)))), b.mks q⟩
theorem OdAt.same {K : PySem.W.Frag} {H H' : Hp} {p : OL} {o : Od} (h : OdAt K H p o) (s : Same H H') : OdAt K H' p o := h.keep (But.of (S := fun _ => False) s) fun _ _ => id
theorem ref_at {as : List Addr} {i : Nat} {x : V} (h : (as.map V.ref)[i]? = some x) : ∃ a, as[i]? = some a ∧ x = V.ref a := by
  rw [List.getElem?_map] at h
  cases e : as[i]? with
  | none => rw [e] at h; cases h
  | some a =>
    rw [e] at h
    exact ⟨a, rfl, (Option.some.inj h).symm⟩
def spOrderOwing (K : PySem.W.Frag) : Sp := fun vs H Q _ => ∃ (p : OL) (o : Od), vs = [.ref p.o] ∧ OdAt K H p o ∧ o.ok ∧ ∀ H', Same H H' → Q (.int o.owing) H'
theorem len_OrderOwing {K : PySem.W.Frag} {vs : List V} {H : Hp} {Q : VK} {E : XK} (h : spOrderOwing K vs H Q E) : vs.length = 1 := by
  obtain ⟨_, _, rfl, _⟩ := h; rfl
theorem ok_OrderOwing {P : Program} {w : World} {K : PySem.W.Frag} {mg : Str → Option Value} {base : Heap} (T : Tx w K mg) : FnOk P w K mg base CX0 4 (He.fAd K dOrderOwing.at_) (fdO K dOrderOwing.at_) P_OrderOwing (spOrderOwing K) := by
  refine T.f_OrderOwing.ok sc_OrderOwing (fun vs H Q E h => len_OrderOwing h) (fun cdv A outer s H vs Q E hr h => ⟨_, PSs.nox ((pss_one (ps_ret (pe_op op_sub (pe_callB (cr_sum rfl) (by rfl) T.b_sum (by decide +kernel) (pa_cons (pe_lc (own := [("line", 1)]) (g := gName 1) (tt := tYes) rfl sc_OrderOwing.nd (pi_list (pe_fld (pv 0) rfl)) (blkOk_by (N := N_OrderOwing) (sc := defScope sOrderOwing) (by decide +kernel)) (fun _ _ _ _ _ => pg_name (i := 1) sc_OrderOwing.nd rfl (Or.inl rfl)) (fun _ _ _ _ _ => pts_nil) (fun _ _ _ _ _ => (pe_meth0 (pv 1) T.cl_Line T.m_Line_charge (ok_LineCharge T) (hr.mono (by decide)) T.b_LineCharge .nil pass0))) pa_nil)) (pe_fld (pv 0) rfl))))), ?_⟩)
  obtain ⟨p, o, rfl, O, ok, k⟩ := h
  obtain ⟨dx, ho⟩ := O.ob
  walk_at "rd"
  refine r_f ho T.cl_Order T.n_Order_lines (lk_Order_lines _ _ _) ?_
  refine lcp_list (ys := o.lines.map fun l => V.int l.charge) (SqL.of O.ll) (by simp [O.len]) (by have := ok.few; simp [O.len]; omega) ?_ ?_
  · intro i x y H' R ex ey s q
    obtain ⟨a, ea, rfl⟩ := ref_at ex
    rw [List.getElem?_map] at ey
    cases el : o.lines[i]? with
    | none => rw [el] at ey; cases ey
    | some l =>
      rw [el] at ey
      have e2 : V.int l.charge = y := Option.some.inj ey
      subst e2
      obtain ⟨dl, hl⟩ := O.ln i a l ea el
      walk_at "rd"
      refine r_m (s _ _ hl) (no_Line_charge l) ?_
      walk_at "rd"
      exact ⟨a, l, rfl, ⟨dl, s _ _ hl⟩, ok.ln l (List.mem_of_getElem? el), q _ (Same.refl _)⟩
  · intro D H' hD s e
    walk_at "rd"
    refine ⟨D, o.lines.map Ln.charge, rfl, SqL.of (by rw [e, List.map_map]; rfl), ?_⟩
    walk_at "rd"
    refine r_f (s _ _ ho) T.cl_Order T.n_Order_money (lk_Order_money _ _ _) ?_
    walk_at "rd"
    exact k _ s
def spOrderNeedOver (K : PySem.W.Frag) : Sp := fun vs H Q E => ∃ (p : OL) (o : Od) (n : Int), vs = [.ref p.o, .int n] ∧ OdAt K H p o ∧ o.ok ∧
  (n > -o.owing → ∀ H', Same H H' → E (.ref (He.ga K "TooMuch")) none H') ∧ (¬ n > -o.owing → ∀ H', Same H H' → Q .non H')
theorem len_OrderNeedOver {K : PySem.W.Frag} {vs : List V} {H : Hp} {Q : VK} {E : XK} (h : spOrderNeedOver K vs H Q E) : vs.length = 2 := by
  obtain ⟨_, _, _, rfl, _⟩ := h; rfl
theorem ok_OrderNeedOver {P : Program} {w : World} {K : PySem.W.Frag} {mg : Str → Option Value} {base : Heap} (T : Tx w K mg) : FnOk P w K mg base (L2.CX P w) 5 (He.fAd K dOrderNeedOver.at_) (fdO K dOrderNeedOver.at_) P_OrderNeedOver (spOrderNeedOver K) := by
  refine T.f_OrderNeedOver.ok sc_OrderNeedOver (fun vs H Q E h => len_OrderNeedOver h) (fun cdv A outer s H vs Q E hr h => ⟨_, ((pss_one (ps_if (pt_cmpR op_gt (pv 1) (pe_un un_neg (pe_meth0 (pv 0) T.cl_Order T.m_Order_owing (ok_OrderOwing T) (hr.mono (by decide)) T.b_OrderOwing .nil pass0)) (nomark _)) (pss_one (ps_raise rfl (takes_of rfl rfl rfl rfl) (pmk_own PySem.F.excBase_ValueError T.x_TooMuch.1 T.g_TooMuch T.x_TooMuch.2.1 (raises_own T.x_TooMuch.2.2.1 T.x_TooMuch.2.2.2) rfl))) pss_nil))), ?_⟩)
  obtain ⟨p, o, n, rfl, O, ok, k1, k2⟩ := h
  obtain ⟨dx, ho⟩ := O.ob
  walk_at "rd"
  refine r_m ho (no_Order_owing _ _ _) ?_
  walk_at "rd"
  refine ⟨p, o, rfl, O, ok, fun H' s => ?_⟩
  walk_at "rd"
  refine r_itd (fun c => k1 c _ s) (fun c => ?_)
  walk_at "rd"
  exact k2 c _ s
def spOrderLineOf (K : PySem.W.Frag) : Sp := fun vs H Q E => ∃ (p : OL) (o : Od) (n : Int), vs = [.ref p.o, .int n] ∧ OdAt K H p o ∧
  (¬ (0 ≤ n ∧ n < o.lines.length) → E (.ref (He.ga K "NoLine")) none H) ∧ (∀ (i : Nat) a, n = (i : Int) → p.las[i]? = some a → Q (.ref a) H)
theorem len_OrderLineOf {K : PySem.W.Frag} {vs : List V} {H : Hp} {Q : VK} {E : XK} (h : spOrderLineOf K vs H Q E) : vs.length = 2 := by
  obtain ⟨_, _, _, rfl, _⟩ := h; rfl
theorem ok_OrderLineOf {P : Program} {w : World} {K : PySem.W.Frag} {mg : Str → Option Value} {base : Heap} (T : Tx w K mg) : FnOk P w K mg base (L2.CX P w) 1 (He.fAd K dOrderLineOf.at_) (fdO K dOrderLineOf.at_) P_OrderLineOf (spOrderLineOf K) := by
  refine T.f_OrderLineOf.ok sc_OrderLineOf (fun vs H Q E h => len_OrderLineOf h) (fun cdv A outer s H vs Q E hr h => ⟨_, ((pss_cons (ps_if (pt_not (pt_chain op_le op_lt pe_int (pv 1) (pe_callB call_len_seq (by rfl) T.b_len (by decide +kernel) (pa_cons (pe_fld (pv 0) rfl) pa_nil)))) (pss_one (ps_raise rfl (takes_of rfl rfl rfl rfl) (pmk_own PySem.F.excBase_ValueError T.x_NoLine.1 T.g_NoLine T.x_NoLine.2.1 (raises_own T.x_NoLine.2.2.1 T.x_NoLine.2.2.2) rfl))) pss_nil)
      (pss_one (ps_ret (pe_ix ix_list (pe_fld (pv 0) rfl) (pv 1) (fun _ _ => rfl)))))), ?_⟩)
  obtain ⟨p, o, n, rfl, O, k1, k2⟩ := h
  obtain ⟨dx, ho⟩ := O.ob
  walk_at "rd"
  refine r_itd (fun c => ?_) (fun c => ?_)
  · walk_at "rd"
    refine r_f ho T.cl_Order T.n_Order_lines (lk_Order_lines _ _ _) ?_
    walk_at "rd"
    refine ⟨_, _, rfl, .inl (SqL.of O.ll), ?_⟩
    walk_at "rd"
    rw [List.length_map, O.len]
    refine r_itn (fun c2 => k1 fun z => c2 z.2) (fun c2 => ?_)
    walk_at "rd"
    refine r_f ho T.cl_Order T.n_Order_lines (lk_Order_lines _ _ _) ?_
    walk_at "rd"
    obtain ⟨i, rfl⟩ : ∃ i : Nat, n = (i : Int) := ⟨n.toNat, by omega⟩
    have hi : i < p.las.length := by rw [O.len]; omega
    refine r_ixL (SqL.of O.ll) (atI_get (j := i) rfl (by rw [List.getElem?_map, List.getElem?_eq_getElem hi]; rfl)) ?_
    exact k2 i _ rfl (List.getElem?_eq_getElem hi)
  · walk_at "rd"
    exact k1 fun z => c z.1
def spOrderTake (K : PySem.W.Frag) : Sp := fun vs H Q _ => ∃ (p : OL) (o : Od) (n : Int), vs = [.ref p.o, .int n] ∧ OdAt K H p o ∧
  ∀ H', OdAt K H' p { o with money := o.money + n } → But (· = p.o) H H' → Q .non H'
theorem len_OrderTake {K : PySem.W.Frag} {vs : List V} {H : Hp} {Q : VK} {E : XK} (h : spOrderTake K vs H Q E) : vs.length = 2 := by
  obtain ⟨_, _, _, rfl, _⟩ := h; rfl
theorem ln_ne {K : PySem.W.Frag} {H : Hp} {a b C dx : Addr} {l : Ln} {x y : Addr} {m : Int} (h : LnAt K H a l) (q : H b = some (.ins C dx (odF x m y))) : a ≠ b := by
  obtain ⟨d, e⟩ := h
  refine ne_of e q fun z => ?_
  injection z with _ _ z
  have z2 := congrArg List.length z
  revert z2
  show 8 = 3 → False
  decide
theorem ok_OrderTake {P : Program} {w : World} {K : PySem.W.Frag} {mg : Str → Option Value} {base : Heap} (T : Tx w K mg) : FnOk P w K mg base CX0 1 (He.fAd K dOrderTake.at_) (fdO K dOrderTake.at_) P_OrderTake (spOrderTake K) := by
  refine T.f_OrderTake.ok sc_OrderTake (fun vs H Q E h => len_OrderTake h) (fun cdv A outer s H vs Q E hr h => ⟨_, PSs.nox ((pss_one (ps_fld (pv 0) (pe_op op_add (pe_fld (pv 0) rfl) (pv 1)) rfl))), ?_⟩)
  obtain ⟨p, o, n, rfl, O, k⟩ := h
  obtain ⟨dx, ho⟩ := O.ob
  walk_at "rd"
  refine r_f ho T.cl_Order T.n_Order_money (lk_Order_money _ _ _) ?_
  walk_at "rd"
  refine r_sf ho T.cl_Order T.n_Order_money (pt_Order_money _ _ _ _) (by show 3 ≤ 20; decide) ?_
  have b : But (· = p.o) H (upd H p.o (.ins (He.ga K "Order") dx (odF p.ll (o.money + n) p.lm))) := But.ins ho rfl
  obtain ⟨ts, et, pt⟩ := O.lm
  refine k _ ⟨⟨dx, upd_same⟩, ?_, O.len, fun i a l e1 e2 => ?_, O.nd, O.dif, ts, ?_, b.mks pt⟩ b
  · exact b.keep _ _ O.ll (ne_of O.ll ho (by intro q; cases q))
  · exact b.lnAt (O.ln i a l e1 e2) (ln_ne (O.ln i a l e1 e2) ho)
  · exact b.keep _ _ et (ne_of et ho (by intro q; cases q))
def spOrderMark (K : PySem.W.Frag) : Sp := fun vs H Q _ => ∃ (p : OL) (o : Od) (w : Str) (n : Int), vs = [.ref p.o, .str w, .int n] ∧ OdAt K H p o ∧ o.ok ∧ o.marks.length < 100000 ∧
  ∀ H', OdAt K H' p { o with marks := o.marks ++ [(w, o.owing - n)] } → But (· = p.lm) H H' → Q (.int (o.owing - n)) H'
theorem len_OrderMark {K : PySem.W.Frag} {vs : List V} {H : Hp} {Q : VK} {E : XK} (h : spOrderMark K vs H Q E) : vs.length = 3 := by
  obtain ⟨_, _, _, _, rfl, _⟩ := h; rfl
theorem ok_OrderMark {P : Program} {w : World} {K : PySem.W.Frag} {mg : Str → Option Value} {base : Heap} (T : Tx w K mg) : FnOk P w K mg base CX0 5 (He.fAd K dOrderMark.at_) (fdO K dOrderMark.at_) P_OrderMark (spOrderMark K) := by
  refine T.f_OrderMark.ok sc_OrderMark (fun vs H Q E h => len_OrderMark h) (fun cdv A outer s H vs Q E hr h => ⟨_, PSs.nox ((pss_cons (ps_set (i := 3) sc_OrderMark.nd rfl (Or.inl rfl) (pe_op op_sub (pe_meth0 (pv 0) T.cl_Order T.m_Order_owing (ok_OrderOwing T) (hr.mono (by decide)) T.b_OrderOwing .nil pass0) (pv 2)))
      (pss_cons (ps_expr (pe_bm PySem.F.plainAttrs_list PySem.F.slot_list_append PySem.F.type_list_append mt_append (pe_fld (pv 0) rfl) (pa_cons (pe_tup (pa_cons (pv 1) (pa_cons (pv 3) pa_nil))) pa_nil)))
      (pss_one (ps_ret (pv 3)))))), ?_⟩)
  obtain ⟨p, o, w', n, rfl, O, ok, hz, k⟩ := h
  obtain ⟨dx, ho⟩ := O.ob
  walk_at "rd"
  refine r_m ho (no_Order_owing _ _ _) ?_
  walk_at "rd"
  refine ⟨p, o, rfl, O, ok, fun H1 s => ?_⟩
  walk_at "rd"
  refine r_f (s _ _ ho) T.cl_Order T.n_Order_marks (lk_Order_marks _ _ _) ?_
  obtain ⟨ts, et, pt⟩ := O.lm
  refine r_tyL (SqL.of (s _ _ et)) ?_
  walk_at "rd"
  refine r_mk (by simp) fun b hb => ?_
  walk_at "rd"
  have ne1 : p.lm ≠ b := ne_of_none (s _ _ et) hb
  have e1 : upd H1 b (.tup [V.str w', V.int (o.owing - n)]) p.lm = some (.lst ts) := by
    rw [upd_ne ne1]; exact s _ _ et
  refine r_app e1 (by rw [pt.length]; exact sz5l hz) ?_
  walk_at "rd"
  have s2 : Same H (upd H1 b (.tup [V.str w', V.int (o.owing - n)])) := s.trans (same_upd hb)
  have bt : But (· = p.lm) H (upd (upd H1 b (.tup [V.str w', V.int (o.owing - n)])) p.lm (.lst (ts ++ [.ref b]))) := (But.of s2).trans (But.lst e1 rfl)
  refine k _ ⟨⟨dx, ?_⟩, ?_, O.len, fun i a l h1 h2 => ?_, O.nd, O.dif, _, upd_same, ?_⟩ bt
  · exact bt.keep _ _ ho (ne_of ho et (by intro q; cases q))
  · exact bt.keep _ _ O.ll O.dif
  · obtain ⟨dl, hl⟩ := O.ln i a l h1 h2
    exact bt.lnAt ⟨dl, hl⟩ (ne_of hl et (by intro q; cases q))
  · refine Paired.snoc (bt.mks pt) ⟨b, rfl, ?_⟩
    rw [upd_ne (Ne.symm ne1)]
    exact upd_same

/-! ### an order's line is turned -/
theorem OdAt.line {K : PySem.W.Frag} {H H' : Hp} {p : OL} {o : Od} {i : Nat} {a : Addr} {l l' : Ln} (O : OdAt K H p o) (ea : p.las[i]? = some a) (el : o.lines[i]? = some l) (h : LnAt K H' a l') (b : But (· = a) H H') :
    OdAt K H' p { o with lines := o.lines.set i l' } := by
  obtain ⟨dx, ho⟩ := O.ob
  obtain ⟨da, ha⟩ := O.ln i a l ea el
  obtain ⟨ts, et, pt⟩ := O.lm
  refine ⟨⟨dx, b.keep _ _ ho (Ne.symm (ln_ne ⟨da, ha⟩ ho))⟩, b.keep _ _ O.ll (ne_of O.ll ha (by intro q; cases q)), by simp [O.len], fun j c m e1 e2 => ?_, O.nd, O.dif, ts, b.keep _ _ et (ne_of et ha (by intro q; cases q)), b.mks pt⟩
  by_cases hj : i = j
  · subst hj
    have hl : i < o.lines.length := (List.getElem?_eq_some_iff.mp el).1
    rw [ea] at e1
    cases e1
    rw [List.getElem?_set_self hl] at e2
    cases e2
    exact h
  · rw [List.getElem?_set_ne hj] at e2
    refine b.lnAt (O.ln j c m e1 e2) fun z => hj ?_
    subst z
    exact nd_ix O.nd ea e1
def Ln.turn (w : Str) (l : Ln) (n : Int) : Option Ln := if w = "deliver" then l.deliver n else if w = "credit" then l.reduce n else l.bring (decide (w = "swap")) n
def spOrderTurnLine (K : PySem.W.Frag) : Sp := fun vs H Q E => ∃ (p : OL) (o : Od) (w : Str) (i : Nat) (l : Ln) (n : Int), vs = [.ref p.o, .str w, .int (i : Int), .int n] ∧ OdAt K H p o ∧ o.ok ∧ o.lines[i]? = some l ∧
  (l.turn w n = none → E (.ref (He.ga K "TooMuch")) none H) ∧ ∀ l', l.turn w n = some l' → ∀ H', OdAt K H' p { o with lines := o.lines.set i l' } → But (· ∈ p.las) H H' → Q .non H'
theorem len_OrderTurnLine {K : PySem.W.Frag} {vs : List V} {H : Hp} {Q : VK} {E : XK} (h : spOrderTurnLine K vs H Q E) : vs.length = 4 := by
  obtain ⟨_, _, _, _, _, _, rfl, _⟩ := h; rfl
theorem ok_OrderTurnLine {P : Program} {w : World} {K : PySem.W.Frag} {mg : Str → Option Value} {base : Heap} (T : Tx w K mg) : FnOk P w K mg base (L2.CX P w) 5 (He.fAd K dOrderTurnLine.at_) (fdO K dOrderTurnLine.at_) P_OrderTurnLine (spOrderTurnLine K) := by
  refine T.f_OrderTurnLine.ok sc_OrderTurnLine (fun vs H Q E h => len_OrderTurnLine h) (fun cdv A outer s H vs Q E hr h => ⟨_, ((pss_cons (ps_set (i := 4) sc_OrderTurnLine.nd rfl (Or.inl rfl) (pe_meth (pv 0) T.cl_Order T.m_Order_line_of (ok_OrderLineOf T) (hr.mono (by decide)) T.b_OrderLineOf .nil (passes_call (takes_of rfl rfl rfl rfl) (fun _ _ _ _ h => h)) (pa_cons (pv 2) pa_nil)))
      (pss_one (ps_if (pt_cmpR op_eq (pv 1) pe_str (nomark _)) (pss_one (ps_expr (pe_meth (pv 4) T.cl_Line T.m_Line_deliver (ok_LineDeliver T) (hr.mono (by decide)) T.b_LineDeliver .nil (passes_call (takes_of rfl rfl rfl rfl) (fun _ _ _ _ h => h)) (pa_cons (pv 3) pa_nil)))) (pss_one (ps_if (pt_cmpR op_eq (pv 1) pe_str (nomark _)) (pss_one (ps_expr (pe_meth (pv 4) T.cl_Line T.m_Line_reduce (ok_LineReduce T) (hr.mono (by decide)) T.b_LineReduce .nil (passes_call (takes_of rfl rfl rfl rfl) (fun _ _ _ _ h => h)) (pa_cons (pv 3) pa_nil)))) (pss_one (ps_expr (pe_meth (pv 4) T.cl_Line T.m_Line_bring (ok_LineBring T) (hr.mono (by decide)) T.b_LineBring .nil (passes_call (takes_of rfl rfl rfl rfl) (fun _ _ _ _ h => h)) (pa_cons (pv 3) (pa_cons (pe_cmpR op_eq (pv 1) pe_str (nomark _)) pa_nil))))))))))), ?_⟩)
  obtain ⟨p, o, w', i, l, n, rfl, O, ok, el, k1, k2⟩ := h
  obtain ⟨dx, ho⟩ := O.ob
  walk_at "rd"
  refine r_m ho (no_Order_line_of _ _ _) ?_
  walk_at "rd"
  have hi : i < o.lines.length := (List.getElem?_eq_some_iff.mp el).1
  refine ⟨p, o, _, rfl, O, fun c => absurd ⟨by omega, by omega⟩ c, fun j a ej ea => ?_⟩
  have ej2 : i = j := by omega
  subst ej2
  have okl := ok.ln l (List.mem_of_getElem? el)
  obtain ⟨da, ha⟩ := O.ln i a l ea el
  walk_at "rd"
  unfold Ln.turn at k1 k2
  have mem : a ∈ p.las := List.mem_of_getElem? ea
  refine r_itd (fun c => ?_) (fun c => ?_)
  · rw [if_pos c] at k1 k2
    walk_at "rd"
    refine r_m ha (no_Line_deliver l) ?_
    walk_at "rd"
    refine ⟨a, l, n, rfl, ⟨da, ha⟩, okl, k1, fun l' e' H' h' b => ?_⟩
    exact k2 l' e' H' (O.line ea el h' b) (b.mono fun x hx => by rw [hx]; exact mem)
  · rw [if_neg c] at k1 k2
    walk_at "rd"
    refine r_itd (fun c2 => ?_) (fun c2 => ?_)
    · rw [if_pos c2] at k1 k2
      walk_at "rd"
      refine r_m ha (no_Line_reduce l) ?_
      walk_at "rd"
      refine ⟨a, l, n, rfl, ⟨da, ha⟩, okl, k1, fun l' e' H' h' b => ?_⟩
      exact k2 l' e' H' (O.line ea el h' b) (b.mono fun x hx => by rw [hx]; exact mem)
    · rw [if_neg c2] at k1 k2
      walk_at "rd"
      refine r_m ha (no_Line_bring l) ?_
      walk_at "rd"
      refine ⟨_, _, _, rfl, a, l, n, rfl, ⟨da, ha⟩, okl, k1, fun l' e' H' h' b => ?_⟩
      exact k2 l' e' H' (O.line ea el h' b) (b.mono fun x hx => by rw [hx]; exact mem)
/-! ### a new order -/
abbrev LtsAt (H : Hp) : List V → List Lt → Prop := Paired (LtAt H)
theorem Paired.get {α β : Type} {F : α → β → Prop} : ∀ {l₁ : List α} {l₂ : List β} {i : Nat} {a : α} {b : β}, Paired F l₁ l₂ → l₁[i]? = some a → l₂[i]? = some b → F a b
  | _, _, _, _, _, .nil, h, _ => by simp at h
  | _, _, 0, _, _, .cons r _, h, q => by
    cases h
    cases q
    exact r
  | _, _, i + 1, _, _, .cons _ t, h, q => Paired.get (i := i) t h q
theorem But.lt {S : Addr → Prop} {H H' : Hp} (b : But S H H') {v : V} {t : Lt} (h : LtAt H v t) : LtAt H' v t := by
  obtain ⟨a, e, q⟩ := h
  exact ⟨a, e, b.tup _ _ q⟩
theorem But.lts {S : Addr → Prop} {H H' : Hp} (b : But S H H') {vs : List V} {ts : List Lt} (h : LtsAt H vs ts) : LtsAt H' vs ts := Paired.mapP h fun _ _ q => b.lt q
theorem nodup_snoc {as : List Addr} {a : Addr} (h : as.Nodup) (n : ¬ a ∈ as) : (as ++ [a]).Nodup := by
  rw [List.nodup_append]
  refine ⟨h, by simp, fun x hx y hy => ?_⟩
  have e : y = a := by simpa using hy
  subst e
  exact fun z => n (by rw [← z]; exact hx)
def spOrderInit (K : PySem.W.Frag) : Sp := fun vs H Q _ => ∃ (a dx l : Addr) (xs : List V) (ts : List Lt), vs = [.ref a, .ref l] ∧ H a = some (.ins (He.ga K "Order") dx []) ∧ SqL K H l xs ∧ LtsAt H xs ts ∧ xs.length ≤ 100000 ∧
  ∀ (p : OL) (H' : Hp), p.o = a → OdAt K H' p ⟨ts.map Lt.ln, 0, []⟩ → (∀ b, p.foot b → b = a ∨ H b = none) → But (· = a) H H' → Q .non H'
theorem len_OrderInit {K : PySem.W.Frag} {vs : List V} {H : Hp} {Q : VK} {E : XK} (h : spOrderInit K vs H Q E) : vs.length = 2 := by
  obtain ⟨_, _, _, _, _, rfl, _⟩ := h; rfl
theorem ok_OrderInit {P : Program} {w : World} {K : PySem.W.Frag} {mg : Str → Option Value} {base : Heap} (T : Tx w K mg) : FnOk P w K mg base CX0 3 (He.fAd K dOrderInit.at_) (fdO K dOrderInit.at_) P_OrderInit (spOrderInit K) := by
  refine T.f_OrderInit.ok sc_OrderInit (fun vs H Q E h => len_OrderInit h) (fun cdv A outer s H vs Q E hr h => ⟨_, PSs.nox ((pss_cons (ps_fld (pv 0) (pe_lc (own := [("told", 2)]) (g := gName 2) (tt := tYes) rfl sc_OrderInit.nd (pi_list (pv 1)) (blkOk_by (N := N_OrderInit) (sc := defScope sOrderInit) (by decide +kernel)) (fun _ _ _ _ _ => pg_name (i := 2) sc_OrderInit.nd rfl (Or.inl rfl)) (fun _ _ _ _ _ => pts_nil) (fun _ _ _ _ _ => (pe_make T.mk_Line (ok_LineInit T) (hr.mono (by decide)) rfl T.g_Line T.b_LineInit .nil pass0 (pa_cons (pv 2) pa_nil)))) rfl)
      (pss_cons (ps_fld (pv 0) pe_int rfl)
      (pss_one (ps_fld (pv 0) (pe_lst pa_nil) rfl))))), ?_⟩)
  obtain ⟨a, dx, l, xs, ts, rfl, ha, hl, pt, hz, k⟩ := h
  walk_at "rd"
  refine ⟨l, rfl, ⟨xs, hl⟩, fun D hD => ?_⟩
  refine lc_list (K := K) (a := l) (xs := xs) (fun i H' => ∃ as : List Addr, as.length = i ∧ H' D = some (.lst (as.map V.ref)) ∧ as.Nodup ∧ Same H H' ∧ (∀ b, b ∈ as → H b = none ∧ b ≠ D) ∧
    ∀ (j : Nat) b t, as[j]? = some b → ts[j]? = some t → LnAt K H' b t.ln) ⟨[], rfl, upd_same, List.nodup_nil, same_upd hD, fun b hb => (by cases hb), fun j b t h => by simp at h⟩ (fun i H' _ ⟨_, _, _, _, s, _⟩ => s.seq hl) ?_ ?_
  · rintro i x H' hi ⟨as, hlen, hd, nd, s, fr, hln⟩
    have hi2 : i < ts.length := by rw [← pt.length]; exact (List.getElem?_eq_some_iff.mp hi).1
    have ht : LtAt H' x ts[i] := (But.of (S := fun _ => False) s).lt (Paired.get pt hi (List.getElem?_eq_getElem hi2))
    refine ⟨wipe1, r_yes (r_itT ?_)⟩
    walk_at "rd"
    intro y dy ny ndy ne
    have s1 : Same H' (upd (upd H' dy (.own y)) y (.ins (He.ga K "Line") dy [])) := fun b o e => by
      rw [upd_ne (ne_of_none e ny), upd_ne (ne_of_none e ndy)]
      exact e
    refine ⟨y, dy, x, ts[i], rfl, upd_same, (But.of (S := fun _ => False) s1).lt ht, fun H2 h2 b2 => ⟨rfl, ?_⟩⟩
    have s2 : Same H' H2 := fun b o e => b2.keep _ _ (s1 _ _ e) (ne_of_none e ny)
    have nyD : y ≠ D := Ne.symm (ne_of_none hd ny)
    have nya : ¬ y ∈ as := fun hm => by
      obtain ⟨j, hj⟩ := List.getElem?_of_mem hm
      have hj2 : j < as.length := (List.getElem?_eq_some_iff.mp hj).1
      have hjt : j < ts.length := by omega
      obtain ⟨_, q⟩ := hln j y _ hj (List.getElem?_eq_getElem hjt)
      rw [q] at ny
      cases ny
    refine ⟨_, s2 _ _ hd, ?_, as ++ [y], by simp [hlen], ?_, nodup_snoc nd nya, ?_, ?_, ?_⟩
    · refine sz5l ?_
      rw [List.length_map, hlen]
      have := (List.getElem?_eq_some_iff.mp hi).1
      omega
    · rw [upd_same, List.map_append]; rfl
    · exact fun b o e => by
        rw [upd_ne (ne_of_none e hD)]
        exact s2 _ _ (s _ _ e)
    · intro b hb
      rcases List.mem_append.mp hb with h | h
      · exact fr b h
      · have e : b = y := by simpa using h
        subst e
        exact ⟨Same.free s ny, nyD⟩
    · intro j b t e1 e2
      by_cases hj : j < as.length
      · rw [List.getElem?_append_left hj] at e1
        obtain ⟨d, q⟩ := hln j b t e1 e2
        exact ⟨d, by rw [upd_ne (fr b (List.mem_of_getElem? e1)).2]; exact s2 _ _ q⟩
      · have hj2 : j = as.length := by
          have := (List.getElem?_eq_some_iff.mp e1).1
          simp at this
          omega
        subst hj2
        rw [List.getElem?_append_right (Nat.le_refl _), Nat.sub_self] at e1
        cases e1
        rw [hlen, List.getElem?_eq_getElem hi2] at e2
        cases e2
        obtain ⟨d, q⟩ := h2
        exact ⟨d, by rw [upd_ne nyD]; exact q⟩
  · rintro H2 ⟨as, hlen, hd, nd, s, fr, hln⟩
    have Da : a ≠ D := ne_of_none ha hD
    walk_at "rd"
    refine r_sf (s _ _ ha) T.cl_Order T.n_Order_lines (by walk_at "pf") (by simp) ?_
    walk_at "rd"
    refine r_sf upd_same T.cl_Order T.n_Order_money (by walk_at "pf") (by simp) ?_
    rw [upd_upd]
    walk_at "rd"
    refine r_mk (by simp) fun M hM => ?_
    have hM2 : H2 M = none := by
      by_cases z : M = a
      · subst z
        rw [upd_same] at hM
        cases hM
      · rw [upd_ne z] at hM
        exact hM
    have aM : a ≠ M := ne_of_none (s _ _ ha) hM2
    walk_at "rd"
    refine r_sf (by rw [upd_ne aM]; exact upd_same) T.cl_Order T.n_Order_marks (by walk_at "pf") (by simp) ?_
    have DM : D ≠ M := ne_of_none hd hM2
    have b1 : But (· = a) H (upd (upd (upd H2 a (.ins (He.ga K "Order") dx [("lines", .ref D), ("money", .int 0)])) M (.lst [])) a (.ins (He.ga K "Order") dx [("lines", .ref D), ("money", .int 0), ("marks", .ref M)])) := by
      have c1 : But (· = a) H (upd H2 a (.ins (He.ga K "Order") dx [("lines", .ref D), ("money", .int 0)])) := (But.of s).trans (But.ins (s _ _ ha) rfl)
      have c2 : But (· = a) H (upd (upd H2 a (.ins (He.ga K "Order") dx [("lines", .ref D), ("money", .int 0)])) M (.lst [])) := c1.trans (But.of (same_upd hM))
      exact c2.trans (But.ins (C := He.ga K "Order") (dx := dx) (fs := [("lines", .ref D), ("money", .int 0)]) (by rw [upd_ne aM]; exact upd_same) rfl)
    refine k ⟨a, D, M, as⟩ _ rfl ⟨⟨dx, upd_same⟩, ?_, by simp [hlen, pt.length], fun i c m e1 e2 => ?_, nd, DM, [], ?_, .nil⟩ ?_ b1
    · show upd _ _ _ D = _
      rw [upd_ne (Ne.symm Da), upd_ne DM, upd_ne (Ne.symm Da)]
      exact hd
    · have e2' : (ts.map Lt.ln)[i]? = some m := e2
      rw [List.getElem?_map] at e2'
      cases et : ts[i]? with
      | none => rw [et] at e2'; cases e2'
      | some t =>
        rw [et] at e2'
        cases e2'
        obtain ⟨d, q⟩ := hln i c t e1 et
        have ca : c ≠ a := Ne.symm (ne_of_none ha (fr c (List.mem_of_getElem? e1)).1)
        have cM : c ≠ M := ne_of_none q hM2
        exact ⟨d, by rw [upd_ne ca, upd_ne cM, upd_ne ca]; exact q⟩
    · show upd _ _ _ M = _
      rw [upd_ne (Ne.symm aM)]
      exact upd_same
    · intro b hb
      rcases hb with h | h | h | h
      · exact .inl h
      · rw [h]; exact .inr hD
      · rw [h]; exact .inr (Same.free s hM2)
      · exact .inr (fr b h).1

/-! ### a book -/
inductive Dd where
  | ord (ls : List Lt)
  | ln (w : Str) (o l n : Int)
  | mo (w : Str) (o n : Int)
  | mv (o p n : Int)
structure Bk where
  each : List Od
  trail : List Dd
inductive Role where
  | no | book | each | trail | deed | ord (j : Nat)
structure Lay where
  each : Addr
  trail : Addr
  ords : List OL
  own : Addr → Role
def Dd.good : Dd → Prop
  | .ord _ => True
  | .ln w _ _ _ => w = "deliver" ∨ w = "back" ∨ w = "swap" ∨ w = "credit"
  | .mo w _ _ => w = "pay" ∨ w = "refund"
  | .mv _ _ _ => True
/-- a deed as it lies: F holds of the list of an order's lines -/
def DdAt (F : Addr → Prop) (H : Hp) (v : V) : Dd → Prop
  | .ord ls => ∃ t l xs, v = .ref t ∧ H t = some (.tup [.str "order", .ref l]) ∧ H l = some (.lst xs) ∧ F l ∧ LtsAt H xs ls
  | .ln w o l n => ∃ t, v = .ref t ∧ H t = some (.tup [.str w, .int o, .int l, .int n])
  | .mo w o n => ∃ t, v = .ref t ∧ H t = some (.tup [.str w, .int o, .int n])
  | .mv o p n => ∃ t, v = .ref t ∧ H t = some (.tup [.str "move", .int o, .int p, .int n])
theorem DdAt.imp {F F' : Addr → Prop} {H : Hp} {v : V} {d : Dd} (h : DdAt F H v d) (m : ∀ a, F a → (∃ o, H a = some o) → F' a) : DdAt F' H v d := by
  cases d with
  | ord ls => obtain ⟨t, l, xs, e, h1, h2, f, q⟩ := h; exact ⟨t, l, xs, e, h1, h2, m _ f ⟨_, h2⟩, q⟩
  | _ => exact h
theorem DdAt.keep {F S : Addr → Prop} {H H' : Hp} {v : V} {d : Dd} (h : DdAt F H v d) (b : But S H H') (n : ∀ a, F a → ¬ S a) : DdAt F H' v d := by
  cases d with
  | ord ls => obtain ⟨t, l, xs, e, h1, h2, f, q⟩ := h; exact ⟨t, l, xs, e, b.tup _ _ h1, b.keep _ _ h2 (n _ f), f, b.lts q⟩
  | ln w o l n => obtain ⟨t, e, h1⟩ := h; exact ⟨t, e, b.tup _ _ h1⟩
  | mo w o n => obtain ⟨t, e, h1⟩ := h; exact ⟨t, e, b.tup _ _ h1⟩
  | mv o p n => obtain ⟨t, e, h1⟩ := h; exact ⟨t, e, b.tup _ _ h1⟩
structure BookAt (K : PySem.W.Frag) (H : Hp) (b : Addr) (B : Bk) (L : Lay) : Prop where
  ob : ∃ dx, H b = some (.ins (He.ga K "Book") dx (bkF L.each L.trail))
  rb : L.own b = .book
  ev : H L.each = some (.lst (L.ords.map fun p => V.ref p.o))
  re : L.own L.each = .each
  tr : ∃ ts, H L.trail = some (.lst ts) ∧ Paired (DdAt (fun a => L.own a = .deed) H) ts B.trail
  rt : L.own L.trail = .trail
  len : L.ords.length = B.each.length
  od : ∀ (j : Nat) p o, L.ords[j]? = some p → B.each[j]? = some o → OdAt K H p o
  ro : ∀ (j : Nat) p, L.ords[j]? = some p → ∀ a, p.foot a → L.own a = .ord j
  dom : ∀ a, L.own a ≠ .no → ∃ o, H a = some o
structure Bk.ok (B : Bk) : Prop where
  od : ∀ o, o ∈ B.each → o.ok
  few : B.each.length ≤ 40
  mks : ∀ o, o ∈ B.each → o.marks.length ≤ B.trail.length
  good : ∀ d, d ∈ B.trail → d.good
def Lay.foot (L : Lay) (a : Addr) : Prop := L.own a ≠ .no
theorem BookAt.fresh {K : PySem.W.Frag} {H : Hp} {b : Addr} {B : Bk} {L : Lay} (h : BookAt K H b B L) {a : Addr} (e : H a = none) : L.own a = .no := by
  by_cases z : L.own a = .no
  · exact z
  · obtain ⟨o, q⟩ := h.dom a z
    rw [e] at q
    cases q
theorem BookAt.keep {K : PySem.W.Frag} {S : Addr → Prop} {H H' : Hp} {b : Addr} {B : Bk} {L : Lay} (h : BookAt K H b B L) (bt : But S H H') (n : ∀ a, L.own a ≠ .no → ¬ S a) : BookAt K H' b B L where
  ob := by
    obtain ⟨dx, e⟩ := h.ob
    exact ⟨dx, bt.keep _ _ e (n _ (by rw [h.rb]; intro q; cases q))⟩
  rb := h.rb
  ev := bt.keep _ _ h.ev (n _ (by rw [h.re]; intro q; cases q))
  re := h.re
  tr := by
    obtain ⟨ts, e, q⟩ := h.tr
    exact ⟨ts, bt.keep _ _ e (n _ (by rw [h.rt]; intro q; cases q)), Paired.mapP q fun _ _ z => z.keep bt fun a f => n a (by rw [f]; intro q; cases q)⟩
  rt := h.rt
  len := h.len
  od := fun j p o e1 e2 => (h.od j p o e1 e2).keep bt fun a f => n a (by rw [h.ro j p e1 a f]; intro q; cases q)
  ro := h.ro
  dom := fun a z => by
    obtain ⟨o, e⟩ := h.dom a z
    exact ⟨o, bt.keep _ _ e (n a z)⟩
theorem BookAt.same {K : PySem.W.Frag} {H H' : Hp} {b : Addr} {B : Bk} {L : Lay} (h : BookAt K H b B L) (s : Same H H') : BookAt K H' b B L := h.keep (But.of (S := fun _ => False) s) fun _ _ => id
/-- one order is changed -/
theorem BookAt.one {K : PySem.W.Frag} {H H' : Hp} {b : Addr} {B : Bk} {L : Lay} {j : Nat} {p : OL} {o' : Od} (h : BookAt K H b B L) (hp : L.ords[j]? = some p) (O : OdAt K H' p o') (bt : But p.foot H H')
    (dm : ∀ a, p.foot a → ∃ o, H' a = some o) : BookAt K H' b { B with each := B.each.set j o' } L := by
  have n : ∀ a, L.own a ≠ .ord j → ¬ p.foot a := fun a z f => z (h.ro j p hp a f)
  refine ⟨?_, h.rb, bt.keep _ _ h.ev (n _ (by rw [h.re]; intro q; cases q)), h.re, ?_, h.rt, by simp [h.len], fun i q o e1 e2 => ?_, h.ro, fun a z => ?_⟩
  · obtain ⟨dx, e⟩ := h.ob
    exact ⟨dx, bt.keep _ _ e (n _ (by rw [h.rb]; intro q; cases q))⟩
  · obtain ⟨ts, e, q⟩ := h.tr
    exact ⟨ts, bt.keep _ _ e (n _ (by rw [h.rt]; intro q; cases q)), Paired.mapP q fun _ _ z => z.keep bt fun a f => n a (by rw [f]; intro q; cases q)⟩
  · by_cases hj : j = i
    · subst hj
      rw [hp] at e1
      cases e1
      have hl : j < B.each.length := by rw [← h.len]; exact (List.getElem?_eq_some_iff.mp hp).1
      have e2' : (B.each.set j o')[j]? = some o := e2
      rw [List.getElem?_set_self hl] at e2'
      cases e2'
      exact O
    · have e2' : (B.each.set j o')[i]? = some o := e2
      rw [List.getElem?_set_ne hj] at e2'
      refine (h.od i q o e1 e2').keep bt fun a f => n a ?_
      rw [h.ro i q e1 a f]
      intro z
      cases z
      exact hj rfl
  · by_cases f : p.foot a
    · exact dm a f
    · obtain ⟨o, e⟩ := h.dom a z
      exact ⟨o, bt.keep _ _ e f⟩
theorem OdAt.dom {K : PySem.W.Frag} {H : Hp} {p : OL} {o : Od} (O : OdAt K H p o) : ∀ a, p.foot a → ∃ u, H a = some u := by
  intro a f
  rcases f with f | f | f | f
  · obtain ⟨dx, e⟩ := O.ob
    exact ⟨_, by rw [f]; exact e⟩
  · exact ⟨_, by rw [f]; exact O.ll⟩
  · obtain ⟨ts, e, _⟩ := O.lm
    exact ⟨_, by rw [f]; exact e⟩
  · obtain ⟨i, hi⟩ := List.getElem?_of_mem f
    have hl : i < o.lines.length := by rw [← O.len]; exact (List.getElem?_eq_some_iff.mp hi).1
    obtain ⟨dx, e⟩ := O.ln i a _ hi (List.getElem?_eq_getElem hl)
    exact ⟨_, e⟩
/-- how the heap may be behind a book's method -/
structure Mod (L L' : Lay) (H H' : Hp) : Prop where
  but : But L.foot H H'
  grow : ∀ a, L'.own a ≠ .no → L.own a ≠ .no ∨ H a = none
theorem Mod.same {L : Lay} {H H' : Hp} (s : Same H H') : Mod L L H H' := ⟨But.of s, fun _ z => .inl z⟩
theorem Mod.trans {L L1 L2 : Lay} {H H1 H2 : Hp} (a : Mod L L1 H H1) (b : Mod L1 L2 H1 H2) (back : ∀ x, H1 x = none → H x = none) : Mod L L2 H H2 where
  but := a.but.mut b.but fun x z => (a.grow x z).elim .inl .inr
  grow := fun x z => (b.grow x z).elim (fun q => a.grow x q) fun q => .inr (back x q)
/-! ### the small methods -/
def spBookOrderOf (K : PySem.W.Frag) : Sp := fun vs H Q E => ∃ (b : Addr) (B : Bk) (L : Lay) (n : Int), vs = [.ref b, .int n] ∧ BookAt K H b B L ∧
  (¬ (0 ≤ n ∧ n < B.each.length) → E (.ref (He.ga K "NoOrder")) none H) ∧ ∀ (j : Nat) p o, n = (j : Int) → L.ords[j]? = some p → B.each[j]? = some o → Q (.ref p.o) H
theorem len_BookOrderOf {K : PySem.W.Frag} {vs : List V} {H : Hp} {Q : VK} {E : XK} (h : spBookOrderOf K vs H Q E) : vs.length = 2 := by
  obtain ⟨_, _, _, _, rfl, _⟩ := h; rfl
theorem ok_BookOrderOf {P : Program} {w : World} {K : PySem.W.Frag} {mg : Str → Option Value} {base : Heap} (T : Tx w K mg) : FnOk P w K mg base (L2.CX P w) 1 (He.fAd K dBookOrderOf.at_) (fdO K dBookOrderOf.at_) P_BookOrderOf (spBookOrderOf K) := by
  refine T.f_BookOrderOf.ok sc_BookOrderOf (fun vs H Q E h => len_BookOrderOf h) (fun cdv A outer s H vs Q E hr h => ⟨_, ((pss_cons (ps_if (pt_not (pt_chain op_le op_lt pe_int (pv 1) (pe_callB call_len_seq (by rfl) T.b_len (by decide +kernel) (pa_cons (pe_fld (pv 0) rfl) pa_nil)))) (pss_one (ps_raise rfl (takes_of rfl rfl rfl rfl) (pmk_own PySem.F.excBase_ValueError T.x_NoOrder.1 T.g_NoOrder T.x_NoOrder.2.1 (raises_own T.x_NoOrder.2.2.1 T.x_NoOrder.2.2.2) rfl))) pss_nil)
      (pss_one (ps_ret (pe_ix ix_list (pe_fld (pv 0) rfl) (pv 1) (fun _ _ => rfl)))))), ?_⟩)
  obtain ⟨b, B, L, n, rfl, h, k1, k2⟩ := h
  obtain ⟨dx, hb⟩ := h.ob
  walk_at "rd"
  refine r_itd (fun c => ?_) (fun c => ?_)
  · walk_at "rd"
    refine r_f hb T.cl_Book T.n_Book_each (lk_Book_each _ _) ?_
    walk_at "rd"
    refine ⟨_, _, rfl, .inl (SqL.of h.ev), ?_⟩
    walk_at "rd"
    rw [List.length_map, h.len]
    refine r_itn (fun c2 => k1 fun z => c2 z.2) (fun c2 => ?_)
    walk_at "rd"
    refine r_f hb T.cl_Book T.n_Book_each (lk_Book_each _ _) ?_
    walk_at "rd"
    obtain ⟨j, rfl⟩ : ∃ i : Nat, n = (i : Int) := ⟨n.toNat, by omega⟩
    have hj2 : j < B.each.length := by omega
    have hj : j < L.ords.length := by rw [h.len]; exact hj2
    refine r_ixL (SqL.of h.ev) (atI_get (j := j) rfl (by rw [List.getElem?_map, List.getElem?_eq_getElem hj]; rfl)) ?_
    exact k2 j _ _ rfl (List.getElem?_eq_getElem hj) (List.getElem?_eq_getElem hj2)
  · walk_at "rd"
    exact k1 fun z => c z.1
def spBookNeedNumber (K : PySem.W.Frag) : Sp := fun vs H Q E => ∃ (v : V) (n : Int), vs = [v, .int n] ∧ (n < 1 → E (.ref (He.ga K "NoNumber")) none H) ∧ (¬ n < 1 → Q .non H)
theorem len_BookNeedNumber {K : PySem.W.Frag} {vs : List V} {H : Hp} {Q : VK} {E : XK} (h : spBookNeedNumber K vs H Q E) : vs.length = 2 := by
  obtain ⟨_, _, rfl, _⟩ := h; rfl
theorem ok_BookNeedNumber {P : Program} {w : World} {K : PySem.W.Frag} {mg : Str → Option Value} {base : Heap} (T : Tx w K mg) : FnOk P w K mg base (L2.CX P w) 1 (He.fAd K dBookNeedNumber.at_) (fdO K dBookNeedNumber.at_) P_BookNeedNumber (spBookNeedNumber K) := by
  refine T.f_BookNeedNumber.ok sc_BookNeedNumber (fun vs H Q E h => len_BookNeedNumber h) (fun cdv A outer s H vs Q E hr h => ⟨_, ((pss_one (ps_if (pt_cmpR op_lt (pv 1) pe_int (nomark _)) (pss_one (ps_raise rfl (takes_of rfl rfl rfl rfl) (pmk_own PySem.F.excBase_ValueError T.x_NoNumber.1 T.g_NoNumber T.x_NoNumber.2.1 (raises_own T.x_NoNumber.2.2.1 T.x_NoNumber.2.2.2) rfl))) pss_nil))), ?_⟩)
  obtain ⟨v, n, rfl, k1, k2⟩ := h
  walk_at "rd"
  refine r_itd (fun c => k1 c) (fun c => ?_)
  walk_at "rd"
  exact k2 c
def spOwn (_ : PySem.W.Frag) : Sp := fun vs H Q _ => ∃ (v : V) (d : Dd), vs = [v] ∧ DdAt (fun _ => True) H v d ∧ d.good ∧ (∀ ls, d = .ord ls → ls.length ≤ 100000) ∧ ∀ v' H', Same H H' → DdAt (fun a => H a = none) H' v' d → Q v' H'
theorem len_Own {K : PySem.W.Frag} {vs : List V} {H : Hp} {Q : VK} {E : XK} (h : spOwn K vs H Q E) : vs.length = 1 := by
  obtain ⟨_, _, rfl, _⟩ := h; rfl
theorem good_ord {d : Dd} (g : d.good) : (∀ w o l n, d = .ln w o l n → ¬ w = "order") ∧ ∀ w o n, d = .mo w o n → ¬ w = "order" := by
  refine ⟨fun w o l n e => ?_, fun w o n e => ?_⟩
  · subst e
    rcases g with rfl | rfl | rfl | rfl <;> decide +kernel
  · subst e
    rcases g with rfl | rfl <;> decide +kernel
theorem ok_Own {P : Program} {w : World} {K : PySem.W.Frag} {mg : Str → Option Value} {base : Heap} (T : Tx w K mg) : FnOk P w K mg base CX0 1 (He.fAd K dOwn.at_) (fdO K dOwn.at_) P_Own (spOwn K) := by
  refine T.f_Own.ok sc_Own (fun vs H Q E h => len_Own h) (fun cdv A outer s H vs Q E hr h => ⟨_, PSs.nox ((pss_cons (ps_if (pt_cmpR op_eq (pe_ix ix_tup (pv 0) pe_int (fun _ _ => rfl)) pe_str (nomark _)) (pss_one (ps_ret (pe_tup (pa_cons pe_str (pa_cons (pe_lc (own := [("line", 1)]) (g := gName 1) (tt := tYes) rfl sc_Own.nd (pi_list (pe_ix ix_tup (pv 0) pe_int (fun _ _ => rfl))) (blkOk_by (N := N_Own) (sc := defScope sOwn) (by decide +kernel)) (fun _ _ _ _ _ => pg_name (i := 1) sc_Own.nd rfl (Or.inl rfl)) (fun _ _ _ _ _ => pts_nil) (fun _ _ _ _ _ => (pv 1))) pa_nil))))) pss_nil)
      (pss_one (ps_ret (pv 0))))), ?_⟩)
  obtain ⟨v, d, rfl, hd, g, few, k⟩ := h
  cases d with
  | ord ls =>
    obtain ⟨t, l, xs, rfl, ht, hl, _, pt⟩ := hd
    walk_at "rd"
    refine r_ixT (SqT.of ht) (atI_get (j := 0) rfl rfl) ?_
    walk_at "rd"
    refine r_ity rfl ?_
    walk_at "rd"
    refine r_ixT (SqT.of ht) (atI_get (j := 1) rfl rfl) ?_
    refine lcp_list (ys := xs) (SqL.of hl) rfl (by rw [pt.length]; exact few _ rfl) (fun i x y H' R ex ey s q => ?_) (fun D H' hD s e => ?_)
    · rw [ex] at ey
      cases ey
      walk_at "rd"
      exact q _ (Same.refl _)
    · walk_at "rd"
      refine r_mk (by simp) fun t2 ht2 => ?_
      refine k _ _ (s.trans (same_upd ht2)) ⟨t2, D, xs, rfl, upd_same, by rw [upd_ne (ne_of_none e ht2)]; exact e, hD, ?_⟩
      exact (But.of (S := fun _ => False) (s.trans (same_upd ht2))).lts pt
  | ln w o l n =>
    obtain ⟨t, rfl, ht⟩ := hd
    walk_at "rd"
    refine r_ixT (SqT.of ht) (atI_get (j := 0) rfl rfl) ?_
    walk_at "rd"
    refine r_itz ((good_ord g).1 _ _ _ _ rfl) ?_
    walk_at "rd"
    exact k _ _ (Same.refl _) ⟨t, rfl, ht⟩
  | mo w o n =>
    obtain ⟨t, rfl, ht⟩ := hd
    walk_at "rd"
    refine r_ixT (SqT.of ht) (atI_get (j := 0) rfl rfl) ?_
    walk_at "rd"
    refine r_itz ((good_ord g).2 _ _ _ rfl) ?_
    walk_at "rd"
    exact k _ _ (Same.refl _) ⟨t, rfl, ht⟩
  | mv o p n =>
    obtain ⟨t, rfl, ht⟩ := hd
    walk_at "rd"
    refine r_ixT (SqT.of ht) (atI_get (j := 0) rfl rfl) ?_
    walk_at "rd"
    refine r_itz (by decide +kernel) ?_
    walk_at "rd"
    exact k _ _ (Same.refl _) ⟨t, rfl, ht⟩

/-! ### what a deed does -/
def errV (K : PySem.W.Frag) (e : Er) : Value := .ref (He.ga K e.name)
def firstErr (ls : List Lt) : Option Er := ls.findSome? ltCheck
def ordErr (n : Nat) (ls : List Lt) : Option Er := if ¬ (1 ≤ ls.length ∧ ls.length ≤ 20) then some .noLines else match firstErr ls with
  | some e => some e
  | none => if n = 40 then some .fullBook else none
def at_ {α : Type} (xs : List α) (n : Int) : Option (Nat × α) := if 0 ≤ n then (xs[n.toNat]?).map fun x => (n.toNat, x) else none
theorem at_some {α : Type} {xs : List α} {j : Nat} {x : α} (h : xs[j]? = some x) : at_ xs (j : Int) = some (j, x) := by
  unfold at_
  rw [if_pos (by omega)]
  simp [h]
theorem at_0 {α : Type} {x : α} {xs : List α} : at_ (x :: xs) 0 = some (0, x) := by
  simp [at_]
theorem at_none {α : Type} {xs : List α} {n : Int} (h : ¬ (0 ≤ n ∧ n < xs.length)) : at_ xs n = none := by
  unfold at_
  by_cases c : 0 ≤ n
  · rw [if_pos c, List.getElem?_eq_none (by omega)]; rfl
  · rw [if_neg c]
theorem at_of {α : Type} {xs : List α} {n : Int} {j : Nat} {x : α} (h : at_ xs n = some (j, x)) : n = (j : Int) ∧ xs[j]? = some x := by
  unfold at_ at h
  by_cases c : 0 ≤ n
  · rw [if_pos c] at h
    cases e : xs[n.toNat]? with
    | none => rw [e] at h; cases h
    | some y =>
      rw [e] at h
      cases h
      exact ⟨by omega, e⟩
  · rw [if_neg c] at h
    cases h
theorem at_or {α : Type} (xs : List α) (n : Int) : (at_ xs n = none ∧ ¬ (0 ≤ n ∧ n < xs.length)) ∨ ∃ (j : Nat) (x : α), n = (j : Int) ∧ xs[j]? = some x ∧ at_ xs n = some (j, x) := by
  by_cases c : 0 ≤ n ∧ n < xs.length
  · obtain ⟨j, rfl⟩ : ∃ i : Nat, n = (i : Int) := ⟨n.toNat, by omega⟩
    have hj : j < xs.length := by omega
    exact .inr ⟨j, xs[j], rfl, List.getElem?_eq_getElem hj, at_some (List.getElem?_eq_getElem hj)⟩
  · exact .inl ⟨at_none c, c⟩
def Od.pay (o : Od) (n : Int) : Od := { o with money := o.money + n }
def Od.mark (o : Od) (w : Str) (c : Int) : Od := { o with marks := o.marks ++ [(w, c)] }
abbrev Res := Except Er (List Od × List (Int × Int))
def stepLn (es : List Od) (w : Str) (o l n : Int) : Res := match at_ es o with
  | none => .error .noOrder
  | some (j, od) => match at_ od.lines l with
    | none => .error .noLine
    | some (i, x) => if n < 1 then .error .noNumber else match x.turn w n with
      | none => .error .tooMuch
      | some x' => .ok (es.set j (Od.mark { od with lines := od.lines.set i x' } w (Od.owing { od with lines := od.lines.set i x' } - od.owing)), [(o, Od.owing { od with lines := od.lines.set i x' } - od.owing)])
def stepMo (es : List Od) (w : Str) (o n : Int) : Res := match at_ es o with
  | none => .error .noOrder
  | some (j, od) => if n < 1 then .error .noNumber else if w = "pay" then .ok (es.set j (Od.mark (od.pay n) w ((od.pay n).owing - od.owing)), [(o, (od.pay n).owing - od.owing)])
    else if n > -od.owing then .error .tooMuch else .ok (es.set j (Od.mark (od.pay (-n)) w ((od.pay (-n)).owing - od.owing)), [(o, (od.pay (-n)).owing - od.owing)])
def stepMv (es : List Od) (o p n : Int) : Res := match at_ es o with
  | none => .error .noOrder
  | some (i, a) => match at_ es p with
    | none => .error .noOrder
    | some (j, b) => if o = p then .error .sameOrder else if n < 1 then .error .noNumber else if n > -a.owing then .error .tooMuch
      else .ok ((es.set i (Od.mark (a.pay (-n)) "move" ((a.pay (-n)).owing - a.owing))).set j (Od.mark (b.pay n) "move" ((b.pay n).owing - b.owing)), [(o, (a.pay (-n)).owing - a.owing), (p, (b.pay n).owing - b.owing)])
def stepOrd (es : List Od) (ls : List Lt) : Res := match ordErr es.length ls with
  | some e => .error e
  | none => .ok (es ++ [⟨ls.map Lt.ln, 0, []⟩], [])
def step (es : List Od) : Dd → Res
  | .ord ls => stepOrd es ls
  | .ln w o l n => stepLn es w o l n
  | .mo w o n => stepMo es w o n
  | .mv o p n => stepMv es o p n
/-- what a deed changed, as it is told -/
def PrAt (H : Hp) (v : V) (c : Int × Int) : Prop := ∃ t, v = .ref t ∧ H t = some (.tup [.int c.1, .int c.2])
def ChAt (H : Hp) (r : Addr) (cs : List (Int × Int)) : Prop := ∃ xs, H r = some (.lst xs) ∧ Paired (PrAt H) xs cs
theorem But.prs {S : Addr → Prop} {H H' : Hp} (b : But S H H') {xs : List V} {cs : List (Int × Int)} (h : Paired (PrAt H) xs cs) : Paired (PrAt H') xs cs := Paired.mapP h fun _ _ ⟨t, e, q⟩ => ⟨t, e, b.tup _ _ q⟩
/-! ### a new order -/
noncomputable def Lay.add (L : Lay) (p : OL) : Lay := ⟨L.each, L.trail, L.ords ++ [p], fun a => @ite _ (p.foot a) (Classical.propDecidable _) (.ord L.ords.length) (L.own a)⟩
theorem Lay.add_in {L : Lay} {p : OL} {a : Addr} (h : p.foot a) : (L.add p).own a = .ord L.ords.length := by
  exact @if_pos _ (Classical.propDecidable _) h _ _ _
theorem Lay.add_out {L : Lay} {p : OL} {a : Addr} (h : ¬ p.foot a) : (L.add p).own a = L.own a := by
  exact @if_neg _ (Classical.propDecidable _) h _ _ _
theorem BookAt.add {K : PySem.W.Frag} {H H2 : Hp} {b : Addr} {B : Bk} {L : Lay} {p : OL} {o : Od} (h : BookAt K H b B L) (hx : ∀ a, p.foot a → H a = none) (O : OdAt K H2 p o) (s : Same H H2) :
    BookAt K (upd H2 L.each (.lst ((L.ords ++ [p]).map fun p => V.ref p.o))) b { B with each := B.each ++ [o] } (L.add p) ∧ Mod L (L.add p) H (upd H2 L.each (.lst ((L.ords ++ [p]).map fun p => V.ref p.o))) := by
  have ev2 := s _ _ h.ev
  have bt : But (· = L.each) H (upd H2 L.each (.lst ((L.ords ++ [p]).map fun p => V.ref p.o))) := (But.of s).trans (But.lst ev2 rfl)
  have bt2 : But (· = L.each) H2 (upd H2 L.each (.lst ((L.ords ++ [p]).map fun p => V.ref p.o))) := But.lst ev2 rfl
  have old : ∀ a, L.own a ≠ .no → ¬ p.foot a := fun a z f => by
    obtain ⟨u, q⟩ := h.dom a z
    rw [hx a f] at q
    cases q
  have fe : ∀ a, p.foot a → ¬ a = L.each := fun a f z => by
    have q := h.ev
    rw [← z, hx a f] at q
    cases q
  have own : ∀ a, L.own a ≠ .no → (L.add p).own a = L.own a := fun a z => Lay.add_out (old a z)
  have z1 : ∀ {r : Role} {a : Addr}, L.own a = r → r ≠ .no → (L.add p).own a = r := fun {r a} e n => by
    rw [own a (by rw [e]; exact n), e]
  refine ⟨⟨?_, z1 h.rb (by intro q; cases q), upd_same, z1 h.re (by intro q; cases q), ?_, z1 h.rt (by intro q; cases q), by simp [Lay.add, h.len], fun j q u e1 e2 => ?_, fun j q e1 a f => ?_, fun a z => ?_⟩, ⟨?_, ?_⟩⟩
  · obtain ⟨dx, e⟩ := h.ob
    exact ⟨dx, bt.keep _ _ e (ne_of e h.ev (by intro q; cases q))⟩
  · obtain ⟨ts, e, q⟩ := h.tr
    refine ⟨ts, bt.keep _ _ e fun z => ?_, Paired.mapP q fun _ _ z => (z.keep bt fun a f y => ?_).imp fun a f _ => z1 f (by intro q; cases q)⟩
    · have q1 := h.rt
      have z' : L.trail = L.each := z
      rw [z', h.re] at q1
      cases q1
    · have f' : L.own a = .deed := f
      have y' : a = L.each := y
      rw [y', h.re] at f'
      cases f'
  · by_cases hj : j < L.ords.length
    · have e1' : (L.ords ++ [p])[j]? = some q := e1
      rw [List.getElem?_append_left hj] at e1'
      have e2' : (B.each ++ [o])[j]? = some u := e2
      rw [List.getElem?_append_left (by rw [← h.len]; exact hj)] at e2'
      refine (h.od j q u e1' e2').keep bt fun a f z => ?_
      have q1 := h.ro j q e1' a f
      have z' : a = L.each := z
      rw [z', h.re] at q1
      cases q1
    · have e1' : (L.ords ++ [p])[j]? = some q := e1
      have hj2 : j = L.ords.length := by
        have := (List.getElem?_eq_some_iff.mp e1').1
        simp at this
        omega
      subst hj2
      rw [List.getElem?_append_right (Nat.le_refl _), Nat.sub_self] at e1'
      cases e1'
      have e2' : (B.each ++ [o])[L.ords.length]? = some u := e2
      rw [h.len, List.getElem?_append_right (Nat.le_refl _), Nat.sub_self] at e2'
      cases e2'
      exact O.keep bt2 fun a f z => fe a f z
  · by_cases hj : j < L.ords.length
    · have e1' : (L.ords ++ [p])[j]? = some q := e1
      rw [List.getElem?_append_left hj] at e1'
      exact z1 (h.ro j q e1' a f) (by intro q; cases q)
    · have e1' : (L.ords ++ [p])[j]? = some q := e1
      have hj2 : j = L.ords.length := by
        have := (List.getElem?_eq_some_iff.mp e1').1
        simp at this
        omega
      subst hj2
      rw [List.getElem?_append_right (Nat.le_refl _), Nat.sub_self] at e1'
      cases e1'
      exact Lay.add_in f
  · by_cases f : p.foot a
    · obtain ⟨u, q⟩ := O.dom a f
      exact ⟨u, bt2.keep _ _ q (fe a f)⟩
    · rw [Lay.add_out f] at z
      by_cases y : a = L.each
      · exact ⟨_, by rw [y]; exact upd_same⟩
      · obtain ⟨u, q⟩ := h.dom a z
        exact ⟨u, bt.keep _ _ q y⟩
  · refine bt.mono fun a y => ?_
    have y' : a = L.each := y
    show L.own a ≠ .no
    rw [y', h.re]
    intro q
    cases q
  · intro a z
    by_cases f : p.foot a
    · exact .inr (hx a f)
    · rw [Lay.add_out f] at z
      exact .inl z
theorem firstErr_at {ls : List Lt} {i : Nat} {t : Lt} {e : Er} (h : ∀ (j : Nat) u, j < i → ls[j]? = some u → ltCheck u = none) (ht : ls[i]? = some t) (he : ltCheck t = some e) : firstErr ls = some e := by
  induction ls generalizing i with
  | nil => simp at ht
  | cons a l ih =>
    cases i with
    | zero =>
      cases ht
      unfold firstErr
      rw [List.findSome?_cons, he]
    | succ n =>
      have ha : ltCheck a = none := h 0 a (Nat.succ_pos _) rfl
      have q := ih (i := n) (fun j u hj hu => h (j + 1) u (by omega) (by simpa using hu)) (by simpa using ht)
      unfold firstErr at q ⊢
      rw [List.findSome?_cons, ha]
      exact q
theorem firstErr_none {ls : List Lt} (h : ∀ (j : Nat) u, j < ls.length → ls[j]? = some u → ltCheck u = none) : firstErr ls = none := by
  unfold firstErr
  rw [List.findSome?_eq_none_iff]
  intro x hx
  obtain ⟨j, hj⟩ := List.getElem?_of_mem hx
  exact h j x (List.getElem?_eq_some_iff.mp hj).1 hj
def spBookBegin (K : PySem.W.Frag) : Sp := fun vs H Q E => ∃ (b : Addr) (B : Bk) (L : Lay) (l : Addr) (xs : List V) (ls : List Lt), vs = [.ref b, .ref l] ∧ BookAt K H b B L ∧ B.each.length ≤ 40 ∧ H l = some (.lst xs) ∧ LtsAt H xs ls ∧ xs.length ≤ 100000 ∧
  (∀ t, t ∈ ls → t.item.length ≤ 100000) ∧ (∀ e, ordErr B.each.length ls = some e → E (errV K e) none H) ∧
  (ordErr B.each.length ls = none → ∀ r L' H', BookAt K H' b { B with each := B.each ++ [⟨ls.map Lt.ln, 0, []⟩] } L' → Mod L L' H H' → (∀ a, H' a = none → H a = none) → H r = none → L'.own r = .no → H' r = some (.lst []) → Q (.ref r) H')
theorem len_BookBegin {K : PySem.W.Frag} {vs : List V} {H : Hp} {Q : VK} {E : XK} (h : spBookBegin K vs H Q E) : vs.length = 2 := by
  obtain ⟨_, _, _, _, _, _, rfl, _⟩ := h; rfl
theorem ok_BookBegin {P : Program} {w : World} {K : PySem.W.Frag} {mg : Str → Option Value} {base : Heap} (T : Tx w K mg) : FnOk P w K mg base (L2.CX P w) 5 (He.fAd K dBookBegin.at_) (fdO K dBookBegin.at_) P_BookBegin (spBookBegin K) := by
  refine T.f_BookBegin.ok sc_BookBegin (fun vs H Q E h => len_BookBegin h) (fun cdv A outer s H vs Q E hr h => ⟨_, ((pss_cons (ps_if (pt_not (pt_chain op_le op_le pe_int (pe_callB call_len_seq (by rfl) T.b_len (by decide +kernel) (pa_cons (pv 1) pa_nil)) (pe_gc rfl T.c_MOST_LINES))) (pss_one (ps_raise rfl (takes_of rfl rfl rfl rfl) (pmk_own PySem.F.excBase_ValueError T.x_NoLines.1 T.g_NoLines T.x_NoLines.2.1 (raises_own T.x_NoLines.2.2.1 T.x_NoLines.2.2.2) rfl))) pss_nil)
      (pss_cons (ps_for (passes_of rfl) rfl (pi_list (pv 1)) (pg_name (i := 2) sc_BookBegin.nd rfl (Or.inl rfl)) (pss_one (ps_expr (pe_call (ok_CheckLine T) (hr.mono (by decide)) rfl T.g_CheckLine T.f_CheckLine.kp T.b_CheckLine .nil (passes_call (takes_of rfl rfl rfl rfl) (fun _ _ _ _ h => h)) (pa_cons (pv 2) pa_nil)))))
      (pss_cons (ps_if (pt_cmpR op_eq (pe_callB call_len_seq (by rfl) T.b_len (by decide +kernel) (pa_cons (pe_fld (pv 0) rfl) pa_nil)) (pe_gc rfl T.c_MOST_ORDERS) (nomark _)) (pss_one (ps_raise rfl (takes_of rfl rfl rfl rfl) (pmk_own PySem.F.excBase_ValueError T.x_FullBook.1 T.g_FullBook T.x_FullBook.2.1 (raises_own T.x_FullBook.2.2.1 T.x_FullBook.2.2.2) rfl))) pss_nil)
      (pss_cons (ps_expr (pe_bm PySem.F.plainAttrs_list PySem.F.slot_list_append PySem.F.type_list_append mt_append (pe_fld (pv 0) rfl) (pa_cons (pe_make T.mk_Order (ok_OrderInit T) (hr.mono (by decide)) rfl T.g_Order T.b_OrderInit .nil pass0 (pa_cons (pv 1) pa_nil)) pa_nil)))
      (pss_one (ps_ret (pe_lst pa_nil)))))))), ?_⟩)
  obtain ⟨b, B, L, l, xs, ls, rfl, h, hfew, hl, pt, hz, hit, kE, k⟩ := h
  obtain ⟨dx, hb⟩ := h.ob
  have len := pt.length
  walk_at "rd"
  refine ⟨_, _, rfl, .inl (SqL.of hl), ?_⟩
  walk_at "rd"
  have bad : ¬ (1 ≤ ls.length ∧ ls.length ≤ 20) → E (.ref (He.ga K "NoLines")) none H := fun n => kE .noLines (by unfold ordErr; rw [if_pos n])
  refine r_itd (fun c1 => ?_) (fun c1 => ?_)
  rotate_left
  · walk_at "rd"
    exact bad fun z => by omega
  walk_at "rd"
  refine r_itn (fun c2 => ?_) (fun c2 => ?_)
  · exact bad fun z => by omega
  walk_at "rd"
  have gl : 1 ≤ ls.length ∧ ls.length ≤ 20 := by omega
  refine ⟨l, rfl, ⟨xs, SqL.of hl⟩, for_list (K := K) (a := l) (xs := xs) (fun i σ H' => ∃ v, σ = [some (.ref b), some (.ref l), v] ∧ H' = H ∧ ∀ (j : Nat) u, j < i → ls[j]? = some u → ltCheck u = none)
    ⟨none, rfl, rfl, fun j u hj => absurd hj (Nat.not_lt_zero _)⟩ (fun i σ H' _ ⟨_, _, e, _⟩ => by rw [e]; exact SqL.of hl) ?_ ?_⟩
  · rintro i x σ H' hi ⟨v, rfl, rfl, hp⟩
    have hi2 : i < ls.length := by rw [← len]; exact (List.getElem?_eq_some_iff.mp hi).1
    have et : ls[i]? = some ls[i] := List.getElem?_eq_getElem hi2
    walk_at "rd"
    refine ⟨x, ls[i], rfl, Paired.get pt hi et, hit _ (List.mem_of_getElem? et), ?_⟩
    cases ce : ltCheck ls[i] with
    | none =>
      refine ⟨_, rfl, rfl, fun j u hj hu => ?_⟩
      by_cases hji : j = i
      · subst hji
        rw [et] at hu
        cases hu
        exact ce
      · exact hp j u (by omega) hu
    | some e =>
      refine kE e ?_
      unfold ordErr
      rw [if_neg (fun z => z gl), firstErr_at hp et ce]
  · rintro σ H' ⟨v, rfl, rfl, hp⟩
    have fe : firstErr ls = none := firstErr_none fun j u hj hu => hp j u (by rw [len]; exact hj) hu
    walk_at "rd"
    refine r_f hb T.cl_Book T.n_Book_each (lk_Book_each _ _) ?_
    walk_at "rd"
    refine ⟨_, _, rfl, .inl (SqL.of h.ev), ?_⟩
    walk_at "rd"
    rw [List.length_map, h.len]
    refine r_itd (fun c => ?_) (fun c => ?_)
    · walk_at "rd"
      refine kE .fullBook ?_
      unfold ordErr
      rw [if_neg (fun z => z gl), fe]
      show (if B.each.length = 40 then some Er.fullBook else none) = _
      rw [if_pos (by omega)]
    walk_at "rd"
    refine r_f hb T.cl_Book T.n_Book_each (lk_Book_each _ _) ?_
    refine r_tyL (SqL.of h.ev) ?_
    walk_at "rd"
    intro x dy nx ndy ne
    have s1 : Same H' (upd (upd H' dy (.own x)) x (.ins (He.ga K "Order") dy [])) := fun a u e => by
      rw [upd_ne (ne_of_none e nx), upd_ne (ne_of_none e ndy)]
      exact e
    refine ⟨x, dy, l, xs, ls, rfl, upd_same, s1.seq (SqL.of hl), (But.of (S := fun _ => False) s1).lts pt, hz, fun p H2 hpo O hfr b2 => ⟨rfl, ?_⟩⟩
    have s2 : Same H' H2 := fun a u e => b2.keep _ _ (s1 _ _ e) (ne_of_none e nx)
    walk_at "rd"
    refine r_app (s2 _ _ h.ev) (by rw [List.length_map, h.len]; refine sz5l ?_; omega) ?_
    have hfoot : ∀ a, p.foot a → H' a = none := fun a f => by
      rcases hfr a f with z | z
      · rw [z]; exact nx
      · exact Same.free s1 z
    obtain ⟨BA, MA⟩ := h.add hfoot O s2
    have e3 : (L.ords ++ [p]).map (fun p => V.ref p.o) = L.ords.map (fun p => V.ref p.o) ++ [V.ref x] := by
      rw [List.map_append, ← hpo]; rfl
    rw [e3] at BA MA
    walk_at "rd"
    refine r_mk (by simp) fun r hr => ?_
    have back : ∀ a, upd H2 L.each (.lst (L.ords.map (fun p => V.ref p.o) ++ [V.ref x])) a = none → H' a = none := fun a e => by
      by_cases z : a = L.each
      · rw [z, upd_same] at e; cases e
      · rw [upd_ne z] at e
        exact Same.free s2 e
    refine k ?_ r (L.add p) _ (BA.same (same_upd hr)) ⟨MA.but.trans (But.of (same_upd hr)), MA.grow⟩ (fun a e => back a ?_) (back r hr) (BA.fresh hr) upd_same
    · unfold ordErr
      rw [if_neg (fun z => z gl), fe]
      show (if B.each.length = 40 then some Er.fullBook else none) = none
      rw [if_neg (by omega)]
    · by_cases z : a = r
      · rw [z, upd_same] at e; cases e
      · rw [upd_ne z] at e
        exact e

/-! ### deeds of one order, moves -/
theorem turn_ok {w : Str} {l l' : Ln} {n : Int} (h : l.ok) (e : l.turn w n = some l') : l'.ok := by
  unfold Ln.turn Ln.deliver Ln.reduce Ln.bring Ln.cut at e
  obtain ⟨h1, h2⟩ := h
  repeat' split at e
  all_goals first
    | (cases e; exact ⟨h1, h2⟩)
    | cases e
theorem Od.ok.line {o : Od} {i : Nat} {l l' : Ln} {w : Str} {n : Int} (h : o.ok) (el : o.lines[i]? = some l) (e : l.turn w n = some l') : Od.ok { o with lines := o.lines.set i l' } := by
  refine ⟨fun x hx => ?_, by simpa using h.few⟩
  have hx' : x ∈ o.lines.set i l' := hx
  rcases List.mem_or_eq_of_mem_set hx' with z | z
  · exact h.ln x z
  · rw [z]
    exact turn_ok (h.ln l (List.mem_of_getElem? el)) e
theorem Od.ok.pay {o : Od} {n : Int} (h : o.ok) : (o.pay n).ok := ⟨h.ln, h.few⟩
theorem Od.ok.mark {o : Od} {w : Str} {n : Int} (h : o.ok) : (o.mark w n).ok := ⟨h.ln, h.few⟩
theorem BookAt.footOf {K : PySem.W.Frag} {H : Hp} {b : Addr} {B : Bk} {L : Lay} {j : Nat} {p : OL} (h : BookAt K H b B L) (hp : L.ords[j]? = some p) : ∀ a, p.foot a → L.foot a := fun a f => by
  show L.own a ≠ .no
  rw [h.ro j p hp a f]
  intro q
  cases q
theorem OL.foot_las {p : OL} {a : Addr} (h : a ∈ p.las) : p.foot a := .inr (.inr (.inr h))
theorem OL.foot_lm {p : OL} {a : Addr} (h : a = p.lm) : p.foot a := .inr (.inr (.inl h))
theorem OL.foot_o {p : OL} {a : Addr} (h : a = p.o) : p.foot a := .inl h
/-- what a deed of one order ends in: the pair told in a new list -/
def OneK (K : PySem.W.Frag) (b : Addr) (B : Bk) (L : Lay) (H : Hp) (r : Res) (Q : VK) (E : XK) : Prop :=
  (∀ e, r = .error e → ∀ H', Same H H' → E (errV K e) none H') ∧
  ∀ es cs, r = .ok (es, cs) → ∀ r H', BookAt K H' b { B with each := es } L → But L.foot H H' → (∀ a, H' a = none → H a = none) → H r = none → ChAt H' r cs → Q (.ref r) H'
def spBookOne (K : PySem.W.Frag) : Sp := fun vs H Q E => ∃ (b : Addr) (B : Bk) (L : Lay) (v : V) (d : Dd), vs = [.ref b, v] ∧ BookAt K H b B L ∧ B.ok ∧ B.trail.length < 100000 ∧ DdAt (fun _ => True) H v d ∧
  ((∃ w o l n, d = .ln w o l n) ∨ ∃ w o n, d = .mo w o n) ∧ OneK K b B L H (step B.each d) Q E
theorem len_BookOne {K : PySem.W.Frag} {vs : List V} {H : Hp} {Q : VK} {E : XK} (h : spBookOne K vs H Q E) : vs.length = 2 := by
  obtain ⟨_, _, _, _, _, rfl, _⟩ := h; rfl
theorem same_none {H H' : Hp} (s : Same H H') {a : Addr} (h : H' a = none) : H a = none := Same.free s h
theorem upd_none {H : Hp} {a b : Addr} {o : HO} (h : upd H a o b = none) : b ≠ a ∧ H b = none := by
  by_cases z : b = a
  · rw [z, upd_same] at h; cases h
  · rw [upd_ne z] at h
    exact ⟨z, h⟩
/-- nothing goes -/
def Stay (H H' : Hp) : Prop := ∀ a, H' a = none → H a = none
theorem But.stay {p : OL} {K : PySem.W.Frag} {H H' : Hp} {o : Od} (b : But p.foot H H') (O : OdAt K H' p o) : Stay H H' := fun a e => by
  cases q : H a with
  | none => rfl
  | some u =>
    by_cases f : p.foot a
    · obtain ⟨x, z⟩ := O.dom a f
      rw [z] at e; cases e
    · rw [b.keep _ _ q f] at e; cases e
/-- the end of a deed of one order: mark, the pair, the list -/
theorem one_end {K : PySem.W.Frag} {H H1 H2 : Hp} {b : Addr} {B : Bk} {L : Lay} {j : Nat} {p : OL} {od' : Od} {o c : Int} {Q : VK} {t r : Addr} (h : BookAt K H b B L) (hp : L.ords[j]? = some p) (s : Same H H1)
    (O : OdAt K H2 p od') (bt : But p.foot H1 H2) (ht : H2 t = none) (hr : upd H2 t (.tup [.int o, .int c]) r = none)
    (k : ∀ r H', BookAt K H' b { B with each := B.each.set j od' } L → But L.foot H H' → (∀ a, H' a = none → H a = none) → H r = none → ChAt H' r [(o, c)] → Q (.ref r) H') :
    Q (.ref r) (upd (upd H2 t (.tup [.int o, .int c])) r (.lst [.ref t])) := by
  obtain ⟨rt, r2⟩ := upd_none hr
  have h1 := h.same s
  have h2 := h1.one hp O bt O.dom
  have s3 : Same H2 (upd (upd H2 t (.tup [.int o, .int c])) r (.lst [.ref t])) := (same_upd ht).trans (same_upd hr)
  refine k r _ (h2.same s3) (((But.of s).trans (bt.mono (h1.footOf hp))).trans (But.of s3)) (fun a e => same_none s (bt.stay O a (same_none s3 e))) (same_none s (bt.stay O r r2)) ⟨[.ref t], upd_same, .cons ⟨t, rfl, ?_⟩ .nil⟩
  rw [upd_ne (Ne.symm rt)]
  exact upd_same
theorem ok_BookOne {P : Program} {w : World} {K : PySem.W.Frag} {mg : Str → Option Value} {base : Heap} (T : Tx w K mg) : FnOk P w K mg base (L2.CX P w) 6 (He.fAd K dBookOne.at_) (fdO K dBookOne.at_) P_BookOne (spBookOne K) := by
  refine T.f_BookOne.ok sc_BookOne (fun vs H Q E h => len_BookOne h) (fun cdv A outer s H vs Q E hr h => ⟨_, ((pss_cons (ps_set (i := 2) sc_BookOne.nd rfl (Or.inl rfl) (pe_meth (pv 0) T.cl_Book T.m_Book_order_of (ok_BookOrderOf T) (hr.mono (by decide)) T.b_BookOrderOf .nil (passes_call (takes_of rfl rfl rfl rfl) (fun _ _ _ _ h => h)) (pa_cons (pe_ix ix_tup (pv 1) pe_int (fun _ _ => rfl)) pa_nil)))
      (pss_cons (ps_if (pt_cmpR op_eq (pe_callB call_len_seq (by rfl) T.b_len (by decide +kernel) (pa_cons (pv 1) pa_nil)) pe_int (nomark _)) (pss_one (ps_expr (pe_meth (pv 2) T.cl_Order T.m_Order_line_of (ok_OrderLineOf T) (hr.mono (by decide)) T.b_OrderLineOf .nil (passes_call (takes_of rfl rfl rfl rfl) (fun _ _ _ _ h => h)) (pa_cons (pe_ix ix_tup (pv 1) pe_int (fun _ _ => rfl)) pa_nil)))) pss_nil)
      (pss_cons (ps_set (i := 3) sc_BookOne.nd rfl (Or.inl rfl) (pe_ix ix_tup (pv 1) (pe_op op_sub (pe_callB call_len_seq (by rfl) T.b_len (by decide +kernel) (pa_cons (pv 1) pa_nil)) pe_int) (fun _ _ => rfl)))
      (pss_cons (ps_expr (pe_meth (pv 0) T.cl_Book T.m_Book_need_number (ok_BookNeedNumber T) (hr.mono (by decide)) T.b_BookNeedNumber .nil (passes_call (takes_of rfl rfl rfl rfl) (fun _ _ _ _ h => h)) (pa_cons (pv 3) pa_nil)))
      (pss_cons (ps_set (i := 4) sc_BookOne.nd rfl (Or.inl rfl) (pe_meth0 (pv 2) T.cl_Order T.m_Order_owing (ok_OrderOwing T) (hr.mono (by decide)) T.b_OrderOwing .nil pass0))
      (pss_cons (ps_if (pt_cmpR op_eq (pe_callB call_len_seq (by rfl) T.b_len (by decide +kernel) (pa_cons (pv 1) pa_nil)) pe_int (nomark _)) (pss_one (ps_expr (pe_meth (pv 2) T.cl_Order T.m_Order_turn_line (ok_OrderTurnLine T) (hr.mono (by decide)) T.b_OrderTurnLine .nil (passes_call (takes_of rfl rfl rfl rfl) (fun _ _ _ _ h => h)) (pa_cons (pe_ix ix_tup (pv 1) pe_int (fun _ _ => rfl)) (pa_cons (pe_ix ix_tup (pv 1) pe_int (fun _ _ => rfl)) (pa_cons (pv 3) pa_nil)))))) (pss_one (ps_if (pt_cmpR op_eq (pe_ix ix_tup (pv 1) pe_int (fun _ _ => rfl)) pe_str (nomark _)) (pss_one (ps_expr (pe_meth (pv 2) T.cl_Order T.m_Order_take (ok_OrderTake T) (hr.mono (by decide)) T.b_OrderTake .nil pass0 (pa_cons (pv 3) pa_nil)))) (pss_cons (ps_expr (pe_meth (pv 2) T.cl_Order T.m_Order_need_over (ok_OrderNeedOver T) (hr.mono (by decide)) T.b_OrderNeedOver .nil (passes_call (takes_of rfl rfl rfl rfl) (fun _ _ _ _ h => h)) (pa_cons (pv 3) pa_nil)))
      (pss_one (ps_expr (pe_meth (pv 2) T.cl_Order T.m_Order_take (ok_OrderTake T) (hr.mono (by decide)) T.b_OrderTake .nil pass0 (pa_cons (pe_un un_neg (pv 3)) pa_nil))))))))
      (pss_one (ps_ret (pe_lst (pa_cons (pe_tup (pa_cons (pe_ix ix_tup (pv 1) pe_int (fun _ _ => rfl)) (pa_cons (pe_meth (pv 2) T.cl_Order T.m_Order_mark (ok_OrderMark T) (hr.mono (by decide)) T.b_OrderMark .nil pass0 (pa_cons (pe_ix ix_tup (pv 1) pe_int (fun _ _ => rfl)) (pa_cons (pv 4) pa_nil))) pa_nil))) pa_nil))))))))))), ?_⟩)
  obtain ⟨b, B, L, v, d, rfl, h, ok, hz, hd, hc, kE, k⟩ := h
  obtain ⟨dx, hb⟩ := h.ob
  rcases hc with ⟨w', o, l, n, rfl⟩ | ⟨w', o, n, rfl⟩
  · obtain ⟨t, rfl, ht⟩ := hd
    walk_at "rd"
    refine r_m hb (no_Book_order_of _ _) ?_
    walk_at "rd"
    refine r_ixT (SqT.of ht) (atI_get (j := 1) rfl rfl) ?_
    walk_at "rd"
    change (∀ e, stepLn B.each w' o l n = .error e → _) at kE
    change (∀ es cs, stepLn B.each w' o l n = .ok (es, cs) → _) at k
    unfold stepLn at kE k
    refine ⟨b, B, L, o, rfl, h, fun c => kE .noOrder (by rw [at_none c]) _ (Same.refl _), fun j p od ej ep eo => ?_⟩
    subst ej
    rw [at_some eo] at kE k
    dsimp only at kE k
    have O := h.od j p od ep eo
    obtain ⟨do_, ho⟩ := O.ob
    have oko := ok.od od (List.mem_of_getElem? eo)
    walk_at "rd"
    refine ⟨_, _, rfl, .inr (SqT.of ht), ?_⟩
    walk_at "rd"
    refine r_ity rfl ?_
    walk_at "rd"
    refine r_m ho (no_Order_line_of _ _ _) ?_
    walk_at "rd"
    refine r_ixT (SqT.of ht) (atI_get (j := 2) rfl rfl) ?_
    walk_at "rd"
    refine ⟨p, od, l, rfl, O, fun c => kE .noLine (by rw [at_none c]) _ (Same.refl _), fun i a ei ea => ?_⟩
    subst ei
    have hi : i < od.lines.length := by rw [← O.len]; exact (List.getElem?_eq_some_iff.mp ea).1
    have el : od.lines[i]? = some od.lines[i] := List.getElem?_eq_getElem hi
    rw [at_some el] at kE k
    dsimp only at kE k
    walk_at "rd"
    refine ⟨_, _, rfl, .inr (SqT.of ht), ?_⟩
    walk_at "rd"
    refine r_ixT (SqT.of ht) (atI_get (j := 3) rfl rfl) ?_
    walk_at "rd"
    refine r_m hb (no_Book_need_number _ _) ?_
    walk_at "rd"
    refine ⟨_, n, rfl, fun c => kE .noNumber (by rw [if_pos c]) _ (Same.refl _), fun c => ?_⟩
    rw [if_neg c] at kE k
    walk_at "rd"
    refine r_m ho (no_Order_owing _ _ _) ?_
    walk_at "rd"
    refine ⟨p, od, rfl, O, oko, fun H1 s1 => ?_⟩
    walk_at "rd"
    refine ⟨_, _, rfl, .inr (SqT.of (s1 _ _ ht)), ?_⟩
    walk_at "rd"
    refine r_ity rfl ?_
    walk_at "rd"
    have O1 := O.same s1
    refine r_m (s1 _ _ ho) (no_Order_turn_line _ _ _) ?_
    walk_at "rd"
    refine r_ixT (SqT.of (s1 _ _ ht)) (atI_get (j := 0) rfl rfl) ?_
    walk_at "rd"
    refine r_ixT (SqT.of (s1 _ _ ht)) (atI_get (j := 2) rfl rfl) ?_
    walk_at "rd"
    refine ⟨p, od, w', i, od.lines[i], n, rfl, O1, oko, el, fun e => kE .tooMuch (by rw [e]) _ s1, fun l' e H2 O2 b2 => ?_⟩
    rw [e] at k
    dsimp only at k
    obtain ⟨do2, ho2⟩ := O2.ob
    walk_at "rd"
    have ht2 : H2 t = some (.tup [.str w', .int (j : Int), .int (i : Int), .int n]) := b2.tup _ _ (s1 _ _ ht)
    refine r_ixT (SqT.of ht2) (atI_get (j := 1) rfl rfl) ?_
    walk_at "rd"
    refine r_m ho2 (no_Order_mark _ _ _) ?_
    walk_at "rd"
    refine r_ixT (SqT.of ht2) (atI_get (j := 0) rfl rfl) ?_
    walk_at "rd"
    have mk := ok.mks od (List.mem_of_getElem? eo)
    refine ⟨p, _, w', _, rfl, O2, oko.line el e, Nat.lt_of_le_of_lt mk hz, fun H3 O3 b3 => ?_⟩
    walk_at "rd"
    refine r_mk (by simp) fun t4 ht4 => ?_
    walk_at "rd"
    refine r_mk (by simp) fun r5 hr5 => ?_
    exact one_end h ep s1 O3 ((b2.mono fun a z => OL.foot_las z).trans (b3.mono fun a z => OL.foot_lm z)) ht4 hr5 (k _ _ rfl)
  · obtain ⟨t, rfl, ht⟩ := hd
    walk_at "rd"
    refine r_m hb (no_Book_order_of _ _) ?_
    walk_at "rd"
    refine r_ixT (SqT.of ht) (atI_get (j := 1) rfl rfl) ?_
    walk_at "rd"
    change (∀ e, stepMo B.each w' o n = .error e → _) at kE
    change (∀ es cs, stepMo B.each w' o n = .ok (es, cs) → _) at k
    unfold stepMo at kE k
    refine ⟨b, B, L, o, rfl, h, fun c => kE .noOrder (by rw [at_none c]) _ (Same.refl _), fun j p od ej ep eo => ?_⟩
    subst ej
    rw [at_some eo] at kE k
    dsimp only at kE k
    have O := h.od j p od ep eo
    obtain ⟨do_, ho⟩ := O.ob
    have oko := ok.od od (List.mem_of_getElem? eo)
    have mk := ok.mks od (List.mem_of_getElem? eo)
    walk_at "rd"
    refine ⟨_, _, rfl, .inr (SqT.of ht), ?_⟩
    walk_at "rd"
    refine r_itz (show ¬ ((3 : Nat) : Int) = 4 by decide) ?_
    walk_at "rd"
    refine ⟨_, _, rfl, .inr (SqT.of ht), ?_⟩
    walk_at "rd"
    refine r_ixT (SqT.of ht) (atI_get (j := 2) rfl rfl) ?_
    walk_at "rd"
    refine r_m hb (no_Book_need_number _ _) ?_
    walk_at "rd"
    refine ⟨_, n, rfl, fun c => kE .noNumber (by rw [if_pos c]) _ (Same.refl _), fun c => ?_⟩
    rw [if_neg c] at kE k
    walk_at "rd"
    refine r_m ho (no_Order_owing _ _ _) ?_
    walk_at "rd"
    refine ⟨p, od, rfl, O, oko, fun H1 s1 => ?_⟩
    walk_at "rd"
    refine ⟨_, _, rfl, .inr (SqT.of (s1 _ _ ht)), ?_⟩
    walk_at "rd"
    refine r_itz (show ¬ ((3 : Nat) : Int) = 4 by decide) ?_
    have O1 := O.same s1
    walk_at "rd"
    refine r_ixT (SqT.of (s1 _ _ ht)) (atI_get (j := 0) rfl rfl) ?_
    walk_at "rd"
    refine r_itd (fun cw => ?_) (fun cw => ?_)
    · rw [if_pos cw] at k
      walk_at "rd"
      refine r_m (s1 _ _ ho) (no_Order_take _ _ _) ?_
      walk_at "rd"
      refine ⟨p, od, n, rfl, O1, fun H2 O2 b2 => ?_⟩
      obtain ⟨do2, ho2⟩ := O2.ob
      walk_at "rd"
      have ht2 : H2 t = some (.tup [.str w', .int (j : Int), .int n]) := b2.tup _ _ (s1 _ _ ht)
      refine r_ixT (SqT.of ht2) (atI_get (j := 1) rfl rfl) ?_
      walk_at "rd"
      refine r_m ho2 (no_Order_mark _ _ _) ?_
      walk_at "rd"
      refine r_ixT (SqT.of ht2) (atI_get (j := 0) rfl rfl) ?_
      walk_at "rd"
      refine ⟨p, _, w', _, rfl, O2, oko.pay, Nat.lt_of_le_of_lt mk hz, fun H3 O3 b3 => ?_⟩
      walk_at "rd"
      refine r_mk (by simp) fun t4 ht4 => ?_
      walk_at "rd"
      refine r_mk (by simp) fun r5 hr5 => ?_
      exact one_end h ep s1 O3 ((b2.mono fun a z => OL.foot_o z).trans (b3.mono fun a z => OL.foot_lm z)) ht4 hr5 (k _ _ rfl)
    · rw [if_neg cw] at kE k
      walk_at "rd"
      refine r_m (s1 _ _ ho) (no_Order_need_over _ _ _) ?_
      walk_at "rd"
      refine ⟨p, od, n, rfl, O1, oko, fun c2 H2 s2 => kE .tooMuch (by rw [if_pos c2]) _ (s1.trans s2), fun c2 H2 s2 => ?_⟩
      rw [if_neg c2] at k
      walk_at "rd"
      refine r_m (s2 _ _ (s1 _ _ ho)) (no_Order_take _ _ _) ?_
      walk_at "rd"
      refine ⟨p, od, -n, rfl, O1.same s2, fun H3 O3 b3 => ?_⟩
      obtain ⟨do3, ho3⟩ := O3.ob
      walk_at "rd"
      have ht3 : H3 t = some (.tup [.str w', .int (j : Int), .int n]) := b3.tup _ _ (s2 _ _ (s1 _ _ ht))
      refine r_ixT (SqT.of ht3) (atI_get (j := 1) rfl rfl) ?_
      walk_at "rd"
      refine r_m ho3 (no_Order_mark _ _ _) ?_
      walk_at "rd"
      refine r_ixT (SqT.of ht3) (atI_get (j := 0) rfl rfl) ?_
      walk_at "rd"
      refine ⟨p, _, w', _, rfl, O3, oko.pay, Nat.lt_of_le_of_lt mk hz, fun H4 O4 b4 => ?_⟩
      walk_at "rd"
      refine r_mk (by simp) fun t4 ht4 => ?_
      walk_at "rd"
      refine r_mk (by simp) fun r5 hr5 => ?_
      exact one_end h ep (s1.trans s2) O4 ((b3.mono fun a z => OL.foot_o z).trans (b4.mono fun a z => OL.foot_lm z)) ht4 hr5 (k _ _ rfl)

/-! ### a move -/
theorem Stay.of {H H' : Hp} (s : Same H H') : Stay H H' := fun _ e => Same.free s e
theorem Stay.trans {H H1 H2 : Hp} (a : Stay H H1) (b : Stay H1 H2) : Stay H H2 := fun x e => a x (b x e)
def spBookShift (K : PySem.W.Frag) : Sp := fun vs H Q E => ∃ (b : Addr) (B : Bk) (L : Lay) (v : V) (o p n : Int), vs = [.ref b, v] ∧ BookAt K H b B L ∧ B.ok ∧ B.trail.length < 100000 ∧ DdAt (fun _ => True) H v (.mv o p n) ∧
  OneK K b B L H (stepMv B.each o p n) Q E
theorem len_BookShift {K : PySem.W.Frag} {vs : List V} {H : Hp} {Q : VK} {E : XK} (h : spBookShift K vs H Q E) : vs.length = 2 := by
  obtain ⟨_, _, _, _, _, _, _, rfl, _⟩ := h; rfl
theorem ok_BookShift {P : Program} {w : World} {K : PySem.W.Frag} {mg : Str → Option Value} {base : Heap} (T : Tx w K mg) : FnOk P w K mg base (L2.CX P w) 6 (He.fAd K dBookShift.at_) (fdO K dBookShift.at_) P_BookShift (spBookShift K) := by
  refine T.f_BookShift.ok sc_BookShift (fun vs H Q E h => len_BookShift h) (fun cdv A outer s H vs Q E hr h => ⟨_, ((pss_cons (ps_set (i := 2) sc_BookShift.nd rfl (Or.inl rfl) (pe_meth (pv 0) T.cl_Book T.m_Book_order_of (ok_BookOrderOf T) (hr.mono (by decide)) T.b_BookOrderOf .nil (passes_call (takes_of rfl rfl rfl rfl) (fun _ _ _ _ h => h)) (pa_cons (pe_ix ix_tup (pv 1) pe_int (fun _ _ => rfl)) pa_nil)))
      (pss_cons (ps_set (i := 3) sc_BookShift.nd rfl (Or.inl rfl) (pe_meth (pv 0) T.cl_Book T.m_Book_order_of (ok_BookOrderOf T) (hr.mono (by decide)) T.b_BookOrderOf .nil (passes_call (takes_of rfl rfl rfl rfl) (fun _ _ _ _ h => h)) (pa_cons (pe_ix ix_tup (pv 1) pe_int (fun _ _ => rfl)) pa_nil)))
      (pss_cons (ps_if (pt_cmpR op_eq (pe_ix ix_tup (pv 1) pe_int (fun _ _ => rfl)) (pe_ix ix_tup (pv 1) pe_int (fun _ _ => rfl)) (nomark _)) (pss_one (ps_raise rfl (takes_of rfl rfl rfl rfl) (pmk_own PySem.F.excBase_ValueError T.x_SameOrder.1 T.g_SameOrder T.x_SameOrder.2.1 (raises_own T.x_SameOrder.2.2.1 T.x_SameOrder.2.2.2) rfl))) pss_nil)
      (pss_cons (ps_expr (pe_meth (pv 0) T.cl_Book T.m_Book_need_number (ok_BookNeedNumber T) (hr.mono (by decide)) T.b_BookNeedNumber .nil (passes_call (takes_of rfl rfl rfl rfl) (fun _ _ _ _ h => h)) (pa_cons (pe_ix ix_tup (pv 1) pe_int (fun _ _ => rfl)) pa_nil)))
      (pss_cons (ps_expr (pe_meth (pv 2) T.cl_Order T.m_Order_need_over (ok_OrderNeedOver T) (hr.mono (by decide)) T.b_OrderNeedOver .nil (passes_call (takes_of rfl rfl rfl rfl) (fun _ _ _ _ h => h)) (pa_cons (pe_ix ix_tup (pv 1) pe_int (fun _ _ => rfl)) pa_nil)))
      (pss_cons (ps_set (i := 4) sc_BookShift.nd rfl (Or.inl rfl) (pe_lst (pa_cons (pe_meth0 (pv 2) T.cl_Order T.m_Order_owing (ok_OrderOwing T) (hr.mono (by decide)) T.b_OrderOwing .nil pass0) (pa_cons (pe_meth0 (pv 3) T.cl_Order T.m_Order_owing (ok_OrderOwing T) (hr.mono (by decide)) T.b_OrderOwing .nil pass0) pa_nil))))
      (pss_cons (ps_expr (pe_meth (pv 2) T.cl_Order T.m_Order_take (ok_OrderTake T) (hr.mono (by decide)) T.b_OrderTake .nil pass0 (pa_cons (pe_un un_neg (pe_ix ix_tup (pv 1) pe_int (fun _ _ => rfl))) pa_nil)))
      (pss_cons (ps_expr (pe_meth (pv 3) T.cl_Order T.m_Order_take (ok_OrderTake T) (hr.mono (by decide)) T.b_OrderTake .nil pass0 (pa_cons (pe_ix ix_tup (pv 1) pe_int (fun _ _ => rfl)) pa_nil)))
      (pss_one (ps_ret (pe_lst (pa_cons (pe_tup (pa_cons (pe_ix ix_tup (pv 1) pe_int (fun _ _ => rfl)) (pa_cons (pe_meth (pv 2) T.cl_Order T.m_Order_mark (ok_OrderMark T) (hr.mono (by decide)) T.b_OrderMark .nil pass0 (pa_cons pe_str (pa_cons (pe_ix ix_list (pv 4) pe_int (fun _ _ => rfl)) pa_nil))) pa_nil))) (pa_cons (pe_tup (pa_cons (pe_ix ix_tup (pv 1) pe_int (fun _ _ => rfl)) (pa_cons (pe_meth (pv 3) T.cl_Order T.m_Order_mark (ok_OrderMark T) (hr.mono (by decide)) T.b_OrderMark .nil pass0 (pa_cons pe_str (pa_cons (pe_ix ix_list (pv 4) pe_int (fun _ _ => rfl)) pa_nil))) pa_nil))) pa_nil)))))))))))))), ?_⟩)
  obtain ⟨b, B, L, v, o, p, n, rfl, h, ok, hz, ⟨t, rfl, ht⟩, kE, k⟩ := h
  obtain ⟨dx, hb⟩ := h.ob
  unfold stepMv at kE k
  walk_at "rd"
  refine r_m hb (no_Book_order_of _ _) ?_
  walk_at "rd"
  refine r_ixT (SqT.of ht) (atI_get (j := 1) rfl rfl) ?_
  walk_at "rd"
  refine ⟨b, B, L, o, rfl, h, fun c => kE .noOrder (by rw [at_none c]) _ (Same.refl _), fun i p1 od1 ei ep1 eo1 => ?_⟩
  subst ei
  rw [at_some eo1] at kE k
  dsimp only at kE k
  walk_at "rd"
  refine r_m hb (no_Book_order_of _ _) ?_
  walk_at "rd"
  refine r_ixT (SqT.of ht) (atI_get (j := 2) rfl rfl) ?_
  walk_at "rd"
  refine ⟨b, B, L, p, rfl, h, fun c => kE .noOrder (by rw [at_none c]) _ (Same.refl _), fun j p2 od2 ej ep2 eo2 => ?_⟩
  subst ej
  rw [at_some eo2] at kE k
  dsimp only at kE k
  walk_at "rd"
  refine r_ixT (SqT.of ht) (atI_get (j := 1) rfl rfl) ?_
  walk_at "rd"
  refine r_ixT (SqT.of ht) (atI_get (j := 2) rfl rfl) ?_
  walk_at "rd"
  refine r_itd (fun c => kE .sameOrder (by rw [if_pos c]) _ (Same.refl _)) (fun c => ?_)
  rw [if_neg c] at kE k
  have hij : i ≠ j := fun z => c (by rw [z])
  have O1 := h.od i p1 od1 ep1 eo1
  have O2 := h.od j p2 od2 ep2 eo2
  obtain ⟨d1, ho1⟩ := O1.ob
  obtain ⟨d2, ho2⟩ := O2.ob
  have ok1 := ok.od od1 (List.mem_of_getElem? eo1)
  have ok2 := ok.od od2 (List.mem_of_getElem? eo2)
  have mk1 := Nat.lt_of_le_of_lt (ok.mks od1 (List.mem_of_getElem? eo1)) hz
  have mk2 := Nat.lt_of_le_of_lt (ok.mks od2 (List.mem_of_getElem? eo2)) hz
  walk_at "rd"
  refine r_m hb (no_Book_need_number _ _) ?_
  walk_at "rd"
  refine r_ixT (SqT.of ht) (atI_get (j := 3) rfl rfl) ?_
  walk_at "rd"
  refine ⟨_, n, rfl, fun c => kE .noNumber (by rw [if_pos c]) _ (Same.refl _), fun c => ?_⟩
  rw [if_neg c] at kE k
  walk_at "rd"
  refine r_m ho1 (no_Order_need_over _ _ _) ?_
  walk_at "rd"
  refine r_ixT (SqT.of ht) (atI_get (j := 3) rfl rfl) ?_
  walk_at "rd"
  refine ⟨p1, od1, n, rfl, O1, ok1, fun c2 H2 s2 => kE .tooMuch (by rw [if_pos c2]) _ s2, fun c2 H1 s1 => ?_⟩
  rw [if_neg c2] at k
  walk_at "rd"
  refine r_m (s1 _ _ ho1) (no_Order_owing _ _ _) ?_
  walk_at "rd"
  refine ⟨p1, od1, rfl, O1.same s1, ok1, fun H2 s2 => ?_⟩
  walk_at "rd"
  have s12 := s1.trans s2
  refine r_m (s12 _ _ ho2) (no_Order_owing _ _ _) ?_
  walk_at "rd"
  refine ⟨p2, od2, rfl, O2.same s12, ok2, fun H3 s3 => ?_⟩
  walk_at "rd"
  have s13 := s12.trans s3
  refine r_mk (by simp) fun a ha => ?_
  have s14 : Same H (upd H3 a (.lst [.int od1.owing, .int od2.owing])) := s13.trans (same_upd ha)
  have h4 := h.same s14
  have la4 : upd H3 a (.lst [.int od1.owing, .int od2.owing]) a = some (.lst [.int od1.owing, .int od2.owing]) := upd_same
  have aH : H a = none := Same.free s13 ha
  have af : ∀ {q : OL} {m : Nat}, L.ords[m]? = some q → ¬ q.foot a := fun {q m} e f => by
    have z := h.ro m q e a f
    rw [h.fresh aH] at z
    cases z
  revert h4 la4 s14
  generalize upd H3 a (.lst [.int od1.owing, .int od2.owing]) = H4
  intro s14 h4 la4
  walk_at "rd"
  refine r_m (s14 _ _ ho1) (no_Order_take _ _ _) ?_
  walk_at "rd"
  refine r_ixT (SqT.of (s14 _ _ ht)) (atI_get (j := 3) rfl rfl) ?_
  walk_at "rd"
  refine ⟨p1, od1, -n, rfl, h4.od i p1 od1 ep1 eo1, fun H5 O5 b5 => ?_⟩
  have b5' : But p1.foot H4 H5 := b5.mono fun x z => OL.foot_o z
  have h5 := h4.one ep1 O5 b5' O5.dom
  have t5 := b5.tup _ _ (s14 _ _ ht)
  have la5 := b5'.keep _ _ la4 (af ep1)
  have O52 := h5.od j p2 od2 ep2 (by
    show (B.each.set i _)[j]? = _
    rw [List.getElem?_set_ne hij]; exact eo2)
  obtain ⟨d52, ho52⟩ := O52.ob
  walk_at "rd"
  refine r_m ho52 (no_Order_take _ _ _) ?_
  walk_at "rd"
  refine r_ixT (SqT.of t5) (atI_get (j := 3) rfl rfl) ?_
  walk_at "rd"
  refine ⟨p2, od2, n, rfl, O52, fun H6 O6 b6 => ?_⟩
  have b6' : But p2.foot H5 H6 := b6.mono fun x z => OL.foot_o z
  have h6 := h5.one ep2 O6 b6' O6.dom
  have t6 := b6.tup _ _ t5
  have la6 := b6'.keep _ _ la5 (af ep2)
  have li : i < B.each.length := (List.getElem?_eq_some_iff.mp eo1).1
  have lj : j < B.each.length := (List.getElem?_eq_some_iff.mp eo2).1
  have O61 := h6.od i p1 { od1 with money := od1.money + -n } ep1 (by
    show ((B.each.set i _).set j _)[i]? = _
    rw [List.getElem?_set_ne (Ne.symm hij), List.getElem?_set_self li])
  obtain ⟨d61, ho61⟩ := O61.ob
  walk_at "rd"
  refine r_ixT (SqT.of t6) (atI_get (j := 1) rfl rfl) ?_
  walk_at "rd"
  refine r_m ho61 (no_Order_mark _ _ _) ?_
  walk_at "rd"
  refine r_ixL (SqL.of la6) (atI_get (j := 0) rfl rfl) ?_
  walk_at "rd"
  refine ⟨p1, _, "move", _, rfl, O61, ok1.pay, mk1, fun H7 O7 b7 => ?_⟩
  have b7' : But p1.foot H6 H7 := b7.mono fun x z => OL.foot_lm z
  have h7 := h6.one ep1 O7 b7' O7.dom
  have t7 := b7.tup _ _ t6
  have la7 := b7'.keep _ _ la6 (af ep1)
  walk_at "rd"
  refine r_mk (by simp) fun t1 ht1 => ?_
  have s8 := same_upd (o := .tup [.int (i : Int), .int (Od.owing { od1 with money := od1.money + -n } - od1.owing)]) ht1
  have e1 : upd H7 t1 (.tup [.int (i : Int), .int (Od.owing { od1 with money := od1.money + -n } - od1.owing)]) t1 = some (.tup [.int (i : Int), .int (Od.owing { od1 with money := od1.money + -n } - od1.owing)]) := upd_same
  have h8 := h7.same s8
  revert e1 h8 s8
  generalize upd H7 t1 (.tup [.int (i : Int), .int (Od.owing { od1 with money := od1.money + -n } - od1.owing)]) = H8
  intro s8 e1 h8
  walk_at "rd"
  refine r_ixT (SqT.of (s8 _ _ t7)) (atI_get (j := 2) rfl rfl) ?_
  walk_at "rd"
  have O82 := h8.od j p2 { od2 with money := od2.money + n } ep2 (by
    show (((B.each.set i _).set j _).set i _)[j]? = _
    rw [List.getElem?_set_ne hij, List.getElem?_set_self (by simpa using lj)])
  obtain ⟨d82, ho82⟩ := O82.ob
  refine r_m ho82 (no_Order_mark _ _ _) ?_
  walk_at "rd"
  refine r_ixL (SqL.of (s8 _ _ la7)) (atI_get (j := 1) rfl rfl) ?_
  walk_at "rd"
  refine ⟨p2, _, "move", _, rfl, O82, ok2.pay, mk2, fun H9 O9 b9 => ?_⟩
  have b9' : But p2.foot H8 H9 := b9.mono fun x z => OL.foot_lm z
  have h9 := h8.one ep2 O9 b9' O9.dom
  have e9 := b9.tup _ _ e1
  walk_at "rd"
  refine r_mk (by simp) fun t2 ht2 => ?_
  walk_at "rd"
  refine r_mk (by simp) fun r hr => ?_
  obtain ⟨rt, hr9⟩ := upd_none hr
  have s10 := (same_upd (o := .tup [.int (j : Int), .int (Od.owing { od2 with money := od2.money + n } - od2.owing)]) ht2).trans (same_upd (o := .lst [.ref t1, .ref t2]) hr)
  have f1 := h.footOf ep1
  have f2 := h.footOf ep2
  have bt : But L.foot H H9 := (((((But.of s14).trans (b5'.mono f1)).trans (b6'.mono f2)).trans (b7'.mono f1)).trans (But.of s8)).trans (b9'.mono f2)
  have st : Stay H H9 := ((((Stay.of s14).trans (b5'.stay O5)).trans (b6'.stay O6)).trans (b7'.stay O7)).trans ((Stay.of s8).trans (b9'.stay O9))
  refine k _ _ rfl r _ ?_ (bt.trans (But.of s10)) (st.trans (Stay.of s10)) (st _ hr9) ⟨_, upd_same, .cons ⟨t1, rfl, s10 _ _ e9⟩ (.cons ⟨t2, rfl, ?_⟩ .nil)⟩
  · have h10 := h9.same s10
    have e : ((((B.each.set i { od1 with money := od1.money + -n }).set j { od2 with money := od2.money + n }).set i { { od1 with money := od1.money + -n } with marks := od1.marks ++ [(("move" : Str), Od.owing { od1 with money := od1.money + -n } - od1.owing)] }).set j
        { { od2 with money := od2.money + n } with marks := od2.marks ++ [(("move" : Str), Od.owing { od2 with money := od2.money + n } - od2.owing)] }) =
        (B.each.set i (Od.mark (od1.pay (-n)) "move" ((od1.pay (-n)).owing - od1.owing))).set j (Od.mark (od2.pay n) "move" ((od2.pay n).owing - od2.owing)) := by
      rw [List.set_comm _ _ hij, List.set_set, List.set_comm _ _ (Ne.symm hij), List.set_set]
      rfl
    rw [← e]
    exact h10
  · rw [upd_ne (Ne.symm rt)]
    exact upd_same

/-! ### the words of deeds -/
theorem key_at {es : List DictEntry} {w : World} {ks : List Str} (h : es.map He.keyOf = He.keysIn w.params ks) : ∀ e, e ∈ es → ∃ k t, k ∈ ks ∧ e.key = .str k t := by
  intro e he
  have hm : He.keyOf e ∈ He.keysIn w.params ks := by
    rw [← h]
    exact List.mem_map_of_mem he
  unfold He.keysIn at hm
  obtain ⟨k, hk, e1⟩ := List.mem_map.mp hm
  unfold He.keyOf at e1
  split at e1
  · rename_i x t q
    have e2 := congrArg Prod.fst (Option.some.inj e1)
    have e3 : k = x := e2
    subst e3
    exact ⟨k, t, hk, q⟩
  · cases e1
theorem lookup_mem {ks : List (Str × Int)} {z : Str} {n : Int} (h : ks.lookup z = some n) : (z, n) ∈ ks := by
  induction ks with
  | nil => cases h
  | cons a r ih =>
    obtain ⟨k, m⟩ := a
    rw [List.lookup_cons] at h
    by_cases c : z = k
    · subst c
      rw [beq_self_eq_true] at h
      cases h
      exact List.mem_cons_self
    · have q : (z == k) = false := by simpa using c
      rw [q] at h
      exact List.mem_cons_of_mem _ (ih h)
theorem lookup_no {ks : List (Str × Int)} {z : Str} (h : ks.lookup z = none) : ¬ z ∈ ks.map (·.1) := by
  induction ks with
  | nil => simp
  | cons a r ih =>
    obtain ⟨k, m⟩ := a
    rw [List.lookup_cons] at h
    by_cases c : z = k
    · subst c
      rw [beq_self_eq_true] at h
      cases h
    · have q : (z == k) = false := by simpa using c
      rw [q] at h
      intro hm
      rcases List.mem_cons.mp hm with e | e
      · exact c e
      · exact ih h e
theorem Tx.pt {w : World} {K : PySem.W.Frag} {mg : Str → Option Value} (T : Tx w K mg) (z : Str) :
    (∃ n, parts.lookup z = some n ∧ ∃ u, PySem.W.nsIn K (He.ga K "PARTS") z = some (some u) ∧ RelV (.int n) u) ∨ (parts.lookup z = none ∧ PySem.W.nsIn K (He.ga K "PARTS") z = some none) := by
  cases e : parts.lookup z with
  | some n =>
    refine .inl ⟨n, rfl, ?_⟩
    have hm : (z, He.Dv.int n) ∈ parts.map fun p => (p.1, He.Dv.int p.2) := List.mem_map.mpr ⟨(z, n), lookup_mem e, rfl⟩
    exact He.valsB_ok T.kv hm
  | none =>
    refine .inr ⟨rfl, ?_⟩
    obtain ⟨es, m, lk, lit, ky, low⟩ := T.kd
    have hk := key_at ky
    have no := lookup_no e
    unfold PySem.W.nsIn
    rw [lk]
    have f : es.toList.find? (fun e => e.key.isStr z) = none := by
      rw [List.find?_eq_none]
      intro d hd
      obtain ⟨k, t, hm, q⟩ := hk d hd
      rw [q]
      show ¬ (k == z) = true
      intro y
      have y2 : k = z := by simpa using y
      rw [← y2] at no
      exact no hm
    have g : es.toList.any (fun e => e.refKey) = false := by
      rw [List.any_eq_false]
      intro d hd
      obtain ⟨k, t, hm, q⟩ := hk d hd
      simp [DictEntry.refKey, q]
    dsimp only
    rw [f]
    dsimp only
    rw [g]
    rfl
section
variable {X : Cx} {d : Addr} {ks : List Str}
theorem op_notIn_pt (D : ∃ es n, X.K.lookup d = some ⟨.type "dict", none, .dict es n, #[]⟩ ∧ PySem.W.KeysLit X.w.params es.toList ∧ es.toList.map He.keyOf = He.keysIn X.w.params ks ∧ (d == sysModules) = false) :
    OpR X (compareOp .NotIn) (fun x y H Q => ∃ (z : Str) (r : Option Value), x = .str z ∧ y = .ref d ∧ PySem.W.nsIn X.K d z = some r ∧ Q (.bl (!r.isSome)) H) := by
  obtain ⟨es, n, h1, h2, _, h4⟩ := D
  exact op_notIn_kd ⟨h1, h2, h4⟩
end
/-- not a deed -/
def Bad (xs : List V) : Prop := xs = [] ∨ ∃ w r, xs = .str w :: r ∧ parts.lookup w ≠ some (xs.length : Int)
theorem dd_parts {d : Dd} (g : d.good) {F : Addr → Prop} {H : Hp} {v : V} (h : DdAt F H v d) : ∃ t w r, v = .ref t ∧ H t = some (.tup (.str w :: r)) ∧ parts.lookup w = some (((V.str w :: r).length : Nat) : Int) := by
  cases d with
  | ord ls =>
    obtain ⟨t, l, xs, e, ht, _⟩ := h
    exact ⟨t, _, _, e, ht, by show parts.lookup ("order" : Str) = some 2; decide +kernel⟩
  | ln w o l n =>
    obtain ⟨t, e, ht⟩ := h
    refine ⟨t, _, _, e, ht, ?_⟩
    show parts.lookup w = some 4
    rcases g with rfl | rfl | rfl | rfl <;> decide +kernel
  | mo w o n =>
    obtain ⟨t, e, ht⟩ := h
    refine ⟨t, _, _, e, ht, ?_⟩
    show parts.lookup w = some 3
    rcases g with rfl | rfl <;> decide +kernel
  | mv o p n =>
    obtain ⟨t, e, ht⟩ := h
    exact ⟨t, _, _, e, ht, by show parts.lookup ("move" : Str) = some 4; decide +kernel⟩
/-! ### the trail -/
noncomputable def Lay.log (L : Lay) (P : Addr → Prop) : Lay := ⟨L.each, L.trail, L.ords, fun a => @ite _ (P a) (Classical.propDecidable _) .deed (L.own a)⟩
theorem Lay.log_in {L : Lay} {P : Addr → Prop} {a : Addr} (h : P a) : (L.log P).own a = .deed := @if_pos _ (Classical.propDecidable _) h _ _ _
theorem Lay.log_out {L : Lay} {P : Addr → Prop} {a : Addr} (h : ¬ P a) : (L.log P).own a = L.own a := @if_neg _ (Classical.propDecidable _) h _ _ _
/-- the list that a deed holds -/
theorem DdAt.list {F : Addr → Prop} {H : Hp} {v : V} {d : Dd} (h : DdAt F H v d) : ∃ P : Addr → Prop, DdAt P H v d ∧ ∀ a, P a → F a ∧ ∃ xs, H a = some (.lst xs) := by
  cases d with
  | ord ls => obtain ⟨t, l, xs, e, h1, h2, f, q⟩ := h; exact ⟨(· = l), ⟨t, l, xs, e, h1, h2, rfl, q⟩, fun a z => by have z' : a = l := z; rw [z']; exact ⟨f, xs, h2⟩⟩
  | ln w o l n => exact ⟨fun _ => False, h, fun _ z => z.elim⟩
  | mo w o n => exact ⟨fun _ => False, h, fun _ z => z.elim⟩
  | mv o p n => exact ⟨fun _ => False, h, fun _ z => z.elim⟩
theorem BookAt.log {K : PySem.W.Frag} {H H2 : Hp} {b : Addr} {B : Bk} {L : Lay} {v : V} {d : Dd} {ts : List V} (h : BookAt K H b B L) (s : Same H H2) (hd : DdAt (fun a => H a = none) H2 v d) (ht : H2 L.trail = some (.lst ts)) :
    ∃ L', BookAt K (upd H2 L.trail (.lst (ts ++ [v]))) b { B with trail := B.trail ++ [d] } L' ∧ Mod L L' H (upd H2 L.trail (.lst (ts ++ [v]))) ∧ ∀ a, H a ≠ none → L'.own a = L.own a := by
  obtain ⟨P, hP, hF⟩ := hd.list
  have own : ∀ a, H a ≠ none → (L.log P).own a = L.own a := fun a z => Lay.log_out fun p => z (hF a p).1
  have own2 : ∀ a, L.own a ≠ .no → (L.log P).own a = L.own a := fun a z => own a fun q => z (h.fresh q)
  have z1 : ∀ {r : Role} {a : Addr}, L.own a = r → r ≠ .no → (L.log P).own a = r := fun {r a} e n => by
    rw [own2 a (by rw [e]; exact n), e]
  have bt : But (· = L.trail) H (upd H2 L.trail (.lst (ts ++ [v]))) := (But.of s).trans (But.lst ht rfl)
  have bt2 : But (· = L.trail) H2 (upd H2 L.trail (.lst (ts ++ [v]))) := But.lst ht rfl
  have nt : ∀ a, L.own a ≠ .trail → ¬ a = L.trail := fun a z y => z (by rw [y]; exact h.rt)
  obtain ⟨ts0, e0, q0⟩ := h.tr
  have ets : ts0 = ts := by
    have z := s _ _ e0
    rw [ht] at z
    cases z
    rfl
  subst ets
  refine ⟨L.log P, ⟨?_, z1 h.rb (by intro q; cases q), bt.keep _ _ h.ev (nt L.each (by rw [h.re]; intro q; cases q)), z1 h.re (by intro q; cases q), ⟨_, upd_same, ?_⟩, z1 h.rt (by intro q; cases q), h.len, fun j p o e1 e2 => ?_, fun j p e1 a f => z1 (h.ro j p e1 a f) (by intro q; cases q), fun a z => ?_⟩,
    ⟨bt.mono fun a y => ?_, fun a z => ?_⟩, own⟩
  · obtain ⟨dx, e⟩ := h.ob
    exact ⟨dx, bt.keep _ _ e (nt _ (by rw [h.rb]; intro q; cases q))⟩
  · refine Paired.snoc (Paired.mapP q0 fun _ _ z => (z.keep bt fun a f => nt a (by rw [f]; intro q; cases q)).imp fun a f _ => z1 f (by intro q; cases q)) ?_
    refine (hP.keep bt2 fun a p y => ?_).imp fun a p _ => Lay.log_in p
    have y' : a = L.trail := y
    have q := (hF a p).1
    rw [y', e0] at q
    cases q
  · exact (h.od j p o e1 e2).keep bt fun a f => nt a (by rw [h.ro j p e1 a f]; intro q; cases q)
  · by_cases p : P a
    · obtain ⟨_, xs, e⟩ := hF a p
      by_cases y : a = L.trail
      · exact ⟨_, by rw [y]; exact upd_same⟩
      · exact ⟨_, bt2.keep _ _ e y⟩
    · rw [Lay.log_out p] at z
      by_cases y : a = L.trail
      · exact ⟨_, by rw [y]; exact upd_same⟩
      · obtain ⟨o, e⟩ := h.dom a z
        exact ⟨o, bt.keep _ _ e y⟩
  · have y' : a = L.trail := y
    show L.own a ≠ .no
    rw [y', h.rt]
    intro q
    cases q
  · by_cases p : P a
    · exact .inr (hF a p).1
    · rw [Lay.log_out p] at z
      exact .inl z
/-! ### do -/
theorem set_mem {α : Type} {l : List α} {i : Nat} {a x : α} (h : x ∈ l.set i a) : x ∈ l ∨ x = a := List.mem_or_eq_of_mem_set h
theorem firstErr_ok {ls : List Lt} (h : firstErr ls = none) : ∀ t, t ∈ ls → numOk t := by
  unfold firstErr at h
  rw [List.findSome?_eq_none_iff] at h
  intro t ht
  have q := h t ht
  unfold ltCheck at q
  split at q
  · split at q
    · assumption
    · cases q
  · cases q
theorem step_ok {B : Bk} {d : Dd} {es : List Od} {cs : List (Int × Int)} (ok : B.ok) (g : d.good) (e : step B.each d = .ok (es, cs)) : Bk.ok ⟨es, B.trail ++ [d]⟩ := by
  have good : ∀ x, x ∈ B.trail ++ [d] → x.good := fun x hx => by
    rcases List.mem_append.mp hx with h | h
    · exact ok.good x h
    · have z : x = d := by simpa using h
      rw [z]; exact g
  have len : (B.trail ++ [d]).length = B.trail.length + 1 := by simp
  have up : ∀ o, o ∈ B.each → o.marks.length ≤ (B.trail ++ [d]).length := fun o h => by
    have := ok.mks o h
    omega
  have mk : ∀ {o : Od} {w : Str} {c : Int}, o.marks.length ≤ B.trail.length → (o.mark w c).marks.length ≤ (B.trail ++ [d]).length := fun {o w c} h => by
    show (o.marks ++ [(w, c)]).length ≤ _
    rw [len]
    simp
    exact h
  cases d with
  | ord ls =>
    have e' : stepOrd B.each ls = .ok (es, cs) := e
    unfold stepOrd at e'
    cases q : ordErr B.each.length ls with
    | some x => rw [q] at e'; cases e'
    | none =>
      rw [q] at e'
      cases e'
      unfold ordErr at q
      split at q
      · cases q
      rename_i hl
      have hl2 : 1 ≤ ls.length ∧ ls.length ≤ 20 := Decidable.byContradiction hl
      cases f : firstErr ls with
      | some x => rw [f] at q; cases q
      | none =>
        rw [f] at q
        have q2 : (if B.each.length = 40 then some Er.fullBook else none) = none := q
        have n40 : ¬ B.each.length = 40 := fun z => by rw [if_pos z] at q2; cases q2
        have fw := ok.few
        refine ⟨fun o ho => ?_, by show (B.each ++ [_]).length ≤ 40; simp; omega, fun o ho => ?_, good⟩
        · rcases List.mem_append.mp ho with h | h
          · exact ok.od o h
          · have z : o = ⟨ls.map Lt.ln, 0, []⟩ := by simpa using h
            subst z
            refine ⟨fun l hl => ?_, by simpa using hl2.2⟩
            obtain ⟨t, ht, rfl⟩ := List.mem_map.mp hl
            have n := firstErr_ok f t ht
            exact n.2
        · rcases List.mem_append.mp ho with h | h
          · exact up o h
          · have z : o = ⟨ls.map Lt.ln, 0, []⟩ := by simpa using h
            subst z
            exact Nat.zero_le _
  | ln w o l n =>
    have e' : stepLn B.each w o l n = .ok (es, cs) := e
    unfold stepLn at e'
    rcases at_or B.each o with ⟨q, _⟩ | ⟨j, od, rfl, eo, q⟩
    · rw [q] at e'; cases e'
    · rw [q] at e'
      dsimp only at e'
      rcases at_or od.lines l with ⟨q, _⟩ | ⟨i, x, rfl, el, q⟩
      · rw [q] at e'; cases e'
      · rw [q] at e'
        dsimp only at e'
        split at e'
        · cases e'
        cases et : x.turn w n with
        | none => rw [et] at e'; cases e'
        | some x' =>
          rw [et] at e'
          cases e'
          have mo := List.mem_of_getElem? eo
          refine ⟨fun u hu => ?_, by show (B.each.set _ _).length ≤ 40; simpa using ok.few, fun u hu => ?_, good⟩
          · rcases set_mem hu with h | h
            · exact ok.od u h
            · rw [h]; exact ((ok.od od mo).line el et).mark
          · rcases set_mem hu with h | h
            · exact up u h
            · rw [h]; exact mk (ok.mks od mo)
  | mo w o n =>
    have e' : stepMo B.each w o n = .ok (es, cs) := e
    unfold stepMo at e'
    rcases at_or B.each o with ⟨q, _⟩ | ⟨j, od, rfl, eo, q⟩
    · rw [q] at e'; cases e'
    · rw [q] at e'
      dsimp only at e'
      have mo := List.mem_of_getElem? eo
      have fin : ∀ m c, Bk.ok ⟨B.each.set j (Od.mark (od.pay m) w c), B.trail ++ [.mo w j n]⟩ := fun m c => by
        refine ⟨fun u hu => ?_, by show (B.each.set _ _).length ≤ 40; simpa using ok.few, fun u hu => ?_, good⟩
        · rcases set_mem hu with h | h
          · exact ok.od u h
          · rw [h]; exact (ok.od od mo).pay.mark
        · rcases set_mem hu with h | h
          · exact up u h
          · rw [h]; exact mk (o := od.pay m) (ok.mks od mo)
      split at e'
      · cases e'
      split at e'
      · cases e'; exact fin _ _
      split at e'
      · cases e'
      · cases e'; exact fin _ _
  | mv o p n =>
    have e' : stepMv B.each o p n = .ok (es, cs) := e
    unfold stepMv at e'
    rcases at_or B.each o with ⟨q, _⟩ | ⟨i, a, rfl, ea, q⟩
    · rw [q] at e'; cases e'
    · rw [q] at e'
      dsimp only at e'
      rcases at_or B.each p with ⟨q, _⟩ | ⟨j, b, rfl, eb, q⟩
      · rw [q] at e'; cases e'
      · rw [q] at e'
        dsimp only at e'
        have ma := List.mem_of_getElem? ea
        have mb := List.mem_of_getElem? eb
        split at e'
        · cases e'
        split at e'
        · cases e'
        split at e'
        · cases e'
        cases e'
        refine ⟨fun u hu => ?_, by show ((B.each.set _ _).set _ _).length ≤ 40; simpa using ok.few, fun u hu => ?_, good⟩
        · rcases set_mem hu with h | h
          · rcases set_mem h with h | h
            · exact ok.od u h
            · rw [h]; exact (ok.od a ma).pay.mark
          · rw [h]; exact (ok.od b mb).pay.mark
        · rcases set_mem hu with h | h
          · rcases set_mem h with h | h
            · exact up u h
            · rw [h]; exact mk (o := a.pay _) (ok.mks a ma)
          · rw [h]; exact mk (o := b.pay _) (ok.mks b mb)
/-- what a deed ends in -/
def DoK (K : PySem.W.Frag) (b : Addr) (B : Bk) (L : Lay) (H : Hp) (d : Dd) (Q : VK) (E : XK) : Prop :=
  (∀ e, step B.each d = .error e → ∀ H', Same H H' → E (errV K e) none H') ∧
  ∀ es cs, step B.each d = .ok (es, cs) → ∀ r L' H', BookAt K H' b ⟨es, B.trail ++ [d]⟩ L' → Mod L L' H H' → Stay H H' → H r = none → L'.own r = .no → ChAt H' r cs → Q (.ref r) H'
def Dd.few : Dd → Prop
  | .ord ls => ls.length ≤ 100000 ∧ ∀ t, t ∈ ls → t.item.length ≤ 100000
  | _ => True
def spBookDo (K : PySem.W.Frag) : Sp := fun vs H Q E => ∃ (b : Addr) (B : Bk) (L : Lay) (v : V), vs = [.ref b, v] ∧ BookAt K H b B L ∧ B.ok ∧ B.trail.length < 100000 ∧
  ((∃ d : Dd, DdAt (fun a => L.own a = .no) H v d ∧ d.good ∧ d.few ∧ DoK K b B L H d Q E) ∨ (∃ t xs, v = .ref t ∧ H t = some (.tup xs) ∧ Bad xs ∧ E (errV K .noDeed) none H))
theorem len_BookDo {K : PySem.W.Frag} {vs : List V} {H : Hp} {Q : VK} {E : XK} (h : spBookDo K vs H Q E) : vs.length = 2 := by
  obtain ⟨_, _, _, _, rfl, _⟩ := h; rfl
theorem ok_BookDo {P : Program} {w : World} {K : PySem.W.Frag} {mg : Str → Option Value} {base : Heap} (T : Tx w K mg) : FnOk P w K mg base (L2.CX P w) 7 (He.fAd K dBookDo.at_) (fdO K dBookDo.at_) P_BookDo (spBookDo K) := by
  refine T.f_BookDo.ok sc_BookDo (fun vs H Q E h => len_BookDo h) (fun cdv A outer s H vs Q E hr h => ⟨_, ((pss_cons (ps_if (PW.pt (pw_or (pt_cmpR op_eq (pe_callB call_len_seq (by rfl) T.b_len (by decide +kernel) (pa_cons (pv 1) pa_nil)) pe_int (nomark _)) (pw_or (pt_cmpR (op_notIn_pt T.kd) (pe_ix ix_tup (pv 1) pe_int (fun _ _ => rfl)) (pe_glob rfl T.c_PARTS (v := .ref (He.ga K "PARTS")) rfl) (by rfl)) (pw_or1 (pt_cmpR op_ne (pe_callB call_len_seq (by rfl) T.b_len (by decide +kernel) (pa_cons (pv 1) pa_nil)) (pe_ix ix_kdict (pe_glob rfl T.c_PARTS (v := .ref (He.ga K "PARTS")) rfl) (pe_ix ix_tup (pv 1) pe_int (fun _ _ => rfl)) (fun _ _ => rfl)) (nomark _)))))) (pss_one (ps_raise rfl (takes_of rfl rfl rfl rfl) (pmk_own PySem.F.excBase_ValueError T.x_NoDeed.1 T.g_NoDeed T.x_NoDeed.2.1 (raises_own T.x_NoDeed.2.2.1 T.x_NoDeed.2.2.2) rfl))) pss_nil)
      (pss_cons (ps_if (pt_cmpR op_eq (pe_ix ix_tup (pv 1) pe_int (fun _ _ => rfl)) pe_str (nomark _)) (pss_one (ps_set (i := 2) sc_BookDo.nd rfl (Or.inl rfl) (pe_meth (pv 0) T.cl_Book T.m_Book_begin (ok_BookBegin T) (hr.mono (by decide)) T.b_BookBegin .nil (passes_call (takes_of rfl rfl rfl rfl) (fun _ _ _ _ h => h)) (pa_cons (pe_ix ix_tup (pv 1) pe_int (fun _ _ => rfl)) pa_nil)))) (pss_one (ps_if (pt_cmpR op_eq (pe_ix ix_tup (pv 1) pe_int (fun _ _ => rfl)) pe_str (nomark _)) (pss_one (ps_set (i := 2) sc_BookDo.nd rfl (Or.inl rfl) (pe_meth (pv 0) T.cl_Book T.m_Book_shift (ok_BookShift T) (hr.mono (by decide)) T.b_BookShift .nil (passes_call (takes_of rfl rfl rfl rfl) (fun _ _ _ _ h => h)) (pa_cons (pv 1) pa_nil)))) (pss_one (ps_set (i := 2) sc_BookDo.nd rfl (Or.inl rfl) (pe_meth (pv 0) T.cl_Book T.m_Book_one (ok_BookOne T) (hr.mono (by decide)) T.b_BookOne .nil (passes_call (takes_of rfl rfl rfl rfl) (fun _ _ _ _ h => h)) (pa_cons (pv 1) pa_nil)))))))
      (pss_cons (ps_expr (pe_bm PySem.F.plainAttrs_list PySem.F.slot_list_append PySem.F.type_list_append mt_append (pe_fld (pv 0) rfl) (pa_cons (pe_call (ok_Own T) (hr.mono (by decide)) rfl T.g_Own T.f_Own.kp T.b_Own .nil pass0 (pa_cons (pv 1) pa_nil)) pa_nil)))
      (pss_one (ps_ret (pv 2))))))), ?_⟩)
  obtain ⟨b, B, L, v, rfl, h, ok, hz, hd⟩ := h
  obtain ⟨dx, hb⟩ := h.ob
  rcases hd with ⟨d, hd, g, few, kE, k⟩ | ⟨t, xs, rfl, ht, bad, kE⟩
  rotate_left
  · walk_at "rd"
    refine ⟨_, _, rfl, .inr (SqT.of ht), ?_⟩
    walk_at "rd"
    rcases bad with rfl | ⟨w', r, rfl, np⟩
    · refine r_ity rfl ?_
      walk_at "rd"
      exact kE
    · refine r_itz (by simp; omega) ?_
      walk_at "rd"
      refine r_ixT (SqT.of ht) (atI_get (j := 0) rfl rfl) ?_
      walk_at "rd"
      rcases T.pt w' with ⟨n, e1, u, e2, ru⟩ | ⟨e1, e2⟩
      · refine ⟨w', _, rfl, rfl, e2, ?_⟩
        walk_at "rd"
        refine r_itnT ?_
        walk_at "rd"
        refine ⟨_, _, rfl, .inr (SqT.of ht), ?_⟩
        walk_at "rd"
        refine r_ixT (SqT.of ht) (atI_get (j := 0) rfl rfl) ?_
        obtain ⟨es, m, lk, lit, ky, low⟩ := T.kd
        refine ⟨_, w', .int n, rfl, rfl, ⟨es, m, u, lk, lit, e2, ru⟩, ?_⟩
        walk_at "rd"
        refine r_itn (fun c => ?_) (fun c => absurd (by rw [e1, c]) np)
        exact kE
      · refine ⟨w', _, rfl, rfl, e2, ?_⟩
        walk_at "rd"
        exact kE
  obtain ⟨t, w', r, rfl, ht, hp⟩ := dd_parts g hd
  walk_at "rd"
  refine ⟨_, _, rfl, .inr (SqT.of ht), ?_⟩
  walk_at "rd"
  refine r_itz (by simp; omega) ?_
  walk_at "rd"
  refine r_ixT (SqT.of ht) (atI_get (j := 0) rfl rfl) ?_
  walk_at "rd"
  rcases T.pt w' with ⟨n, e1, u, e2, ru⟩ | ⟨e1, e2⟩
  rotate_left
  · rw [hp] at e1; cases e1
  have en : n = (((V.str w' :: r).length : Nat) : Int) := by
    rw [hp] at e1
    exact (Option.some.inj e1).symm
  refine ⟨w', _, rfl, rfl, e2, ?_⟩
  walk_at "rd"
  refine r_itnT ?_
  walk_at "rd"
  refine ⟨_, _, rfl, .inr (SqT.of ht), ?_⟩
  walk_at "rd"
  refine r_ixT (SqT.of ht) (atI_get (j := 0) rfl rfl) ?_
  obtain ⟨es0, m0, lk, lit, ky, low⟩ := T.kd
  refine ⟨_, w', .int n, rfl, rfl, ⟨es0, m0, u, lk, lit, e2, ru⟩, ?_⟩
  walk_at "rd"
  refine r_itn (fun c => absurd en.symm c) (fun c => ?_)
  walk_at "rd"
  refine r_ixT (SqT.of ht) (atI_get (j := 0) rfl rfl) ?_
  walk_at "rd"
  have fin : ∀ (L1 : Lay) (H1 : Hp) (es : List Od) (cs : List (Int × Int)) (x : Addr), step B.each d = .ok (es, cs) → BookAt K H1 b ⟨es, B.trail⟩ L1 → Mod L L1 H H1 → Stay H H1 → H x = none → L1.own x = .no → ChAt H1 x cs → DdAt (fun _ => True) H1 (.ref t) d →
      tSeq (tDrop (tBM K "list" rAppend (tFld K (tVar 0) "trail") (tCons (tCall (spOwn K) [] E0 (tCons (tVar 1) tNil)) tNil))) (tRet (tVar 2)) { nx := fun _ H' => Q .non H', rt := Q } [some (.ref b), some (.ref t), some (.ref x)] H1 := by
    intro L1 H1 es cs x e1 h1 m1 st hx ox ch hd1
    obtain ⟨d1, hb1⟩ := h1.ob
    obtain ⟨ts, et, pt⟩ := h1.tr
    walk_at "rd"
    refine r_f hb1 T.cl_Book T.n_Book_trail (lk_Book_trail _ _) ?_
    refine r_tyL (SqL.of et) ?_
    walk_at "rd"
    refine ⟨.ref t, d, rfl, hd1, g, fun ls q => by subst q; exact few.1, fun v3 H2 s2 hd2 => ?_⟩
    walk_at "rd"
    refine r_app (s2 _ _ et) (by rw [pt.length]; exact sz5l hz) ?_
    walk_at "rd"
    obtain ⟨L', h', m', own⟩ := h1.log s2 hd2 (s2 _ _ et)
    obtain ⟨ys, ey, py⟩ := ch
    have x1 : H1 x ≠ none := by rw [ey]; intro q; cases q
    have xt : x ≠ L1.trail := fun z => by
      rw [z, h1.rt] at ox
      cases ox
    have st2 : Stay H1 (upd H2 L1.trail (.lst (ts ++ [v3]))) := fun a e => Same.free s2 (upd_none e).2
    refine k es cs e1 x L' _ h' (m1.trans m' st) (st.trans st2) hx ?_ ⟨ys, ?_, m'.but.prs py⟩
    · rw [own x x1]; exact ox
    · rw [upd_ne xt]
      exact s2 _ _ ey
  cases d with
  | ord ls =>
    obtain ⟨t2, l, xs, et, ht2, hl, nl, pt⟩ := hd
    cases et
    rw [ht] at ht2
    cases ht2
    refine r_ity rfl ?_
    walk_at "rd"
    refine r_m hb (no_Book_begin _ _) ?_
    walk_at "rd"
    refine r_ixT (SqT.of ht) (atI_get (j := 1) rfl rfl) ?_
    walk_at "rd"
    refine ⟨b, B, L, l, xs, ls, rfl, h, ok.few, hl, pt, by rw [pt.length]; exact few.1, few.2, fun e q => kE e ?_ _ (Same.refl _), fun q r L' H' h' m' st hr ro er => ?_⟩
    · show stepOrd B.each ls = _
      unfold stepOrd
      rw [q]
    · exact fin L' H' _ _ r (by show stepOrd B.each ls = _; unfold stepOrd; rw [q]) h' m' st hr ro ⟨_, er, .nil⟩ ⟨t, l, xs, rfl, m'.but.tup _ _ ht, m'.but.keep _ _ hl (fun z => z nl), trivial, m'.but.lts pt⟩
  | ln w2 o l n =>
    obtain ⟨t2, et, ht2⟩ := hd
    cases et
    rw [ht] at ht2
    cases ht2
    refine r_itz ((good_ord g).1 _ _ _ _ rfl) ?_
    walk_at "rd"
    refine r_ixT (SqT.of ht) (atI_get (j := 0) rfl rfl) ?_
    walk_at "rd"
    refine r_itz (by rcases g with rfl | rfl | rfl | rfl <;> decide +kernel) ?_
    walk_at "rd"
    refine r_m hb (no_Book_one _ _) ?_
    walk_at "rd"
    refine ⟨b, B, L, .ref t, .ln w' o l n, rfl, h, ok, hz, ⟨t, rfl, ht⟩, .inl ⟨_, _, _, _, rfl⟩, kE, fun es cs e r H' h' bt st hr ch => ?_⟩
    exact fin L H' es cs r e h' ⟨bt, fun a z => .inl z⟩ st hr (h.fresh hr) ch ⟨t, rfl, bt.tup _ _ ht⟩
  | mo w2 o n =>
    obtain ⟨t2, et, ht2⟩ := hd
    cases et
    rw [ht] at ht2
    cases ht2
    refine r_itz ((good_ord g).2 _ _ _ rfl) ?_
    walk_at "rd"
    refine r_ixT (SqT.of ht) (atI_get (j := 0) rfl rfl) ?_
    walk_at "rd"
    refine r_itz (by rcases g with rfl | rfl <;> decide +kernel) ?_
    walk_at "rd"
    refine r_m hb (no_Book_one _ _) ?_
    walk_at "rd"
    refine ⟨b, B, L, .ref t, .mo w' o n, rfl, h, ok, hz, ⟨t, rfl, ht⟩, .inr ⟨_, _, _, rfl⟩, kE, fun es cs e r H' h' bt st hr ch => ?_⟩
    exact fin L H' es cs r e h' ⟨bt, fun a z => .inl z⟩ st hr (h.fresh hr) ch ⟨t, rfl, bt.tup _ _ ht⟩
  | mv o p n =>
    obtain ⟨t2, et, ht2⟩ := hd
    cases et
    rw [ht] at ht2
    cases ht2
    refine r_itz (by decide +kernel) ?_
    walk_at "rd"
    refine r_ixT (SqT.of ht) (atI_get (j := 0) rfl rfl) ?_
    walk_at "rd"
    refine r_ity rfl ?_
    walk_at "rd"
    refine r_m hb (no_Book_shift _ _) ?_
    walk_at "rd"
    refine ⟨b, B, L, .ref t, o, p, n, rfl, h, ok, hz, ⟨t, rfl, ht⟩, kE, fun es cs e r H' h' bt st hr ch => ?_⟩
    exact fin L H' es cs r e h' ⟨bt, fun a z => .inl z⟩ st hr (h.fresh hr) ch ⟨t, rfl, bt.tup _ _ ht⟩

/-! ### a new book, what is told -/
def L0 (b e t : Addr) : Lay := ⟨e, t, [], fun a => if a = b then .book else if a = e then .each else if a = t then .trail else .no⟩
def spBookInit (K : PySem.W.Frag) : Sp := fun vs H Q _ => ∃ b dx, vs = [.ref b] ∧ H b = some (.ins (He.ga K "Book") dx []) ∧ ∀ L H', BookAt K H' b ⟨[], []⟩ L → But (· = b) H H' → (∀ a, L.own a ≠ .no → a = b ∨ H a = none) → Stay H H' → Q .non H'
theorem len_BookInit {K : PySem.W.Frag} {vs : List V} {H : Hp} {Q : VK} {E : XK} (h : spBookInit K vs H Q E) : vs.length = 1 := by
  obtain ⟨_, _, rfl, _⟩ := h; rfl
theorem ok_BookInit {P : Program} {w : World} {K : PySem.W.Frag} {mg : Str → Option Value} {base : Heap} (T : Tx w K mg) : FnOk P w K mg base CX0 1 (He.fAd K dBookInit.at_) (fdO K dBookInit.at_) P_BookInit (spBookInit K) := by
  refine T.f_BookInit.ok sc_BookInit (fun vs H Q E h => len_BookInit h) (fun cdv A outer s H vs Q E hr h => ⟨_, PSs.nox ((pss_cons (ps_fld (pv 0) (pe_lst pa_nil) rfl)
      (pss_one (ps_fld (pv 0) (pe_lst pa_nil) rfl)))), ?_⟩)
  obtain ⟨b, dx, rfl, hb, k⟩ := h
  walk_at "rd"
  refine r_mk (by simp) fun e he => ?_
  have be : b ≠ e := ne_of_none hb he
  walk_at "rd"
  refine r_sf (by rw [upd_ne be]; exact hb) T.cl_Book T.n_Book_each (by walk_at "pf") (by simp) ?_
  walk_at "rd"
  refine r_mk (by simp) fun t ht => ?_
  obtain ⟨tb, ht1⟩ := upd_none ht
  obtain ⟨te, ht2⟩ := upd_none ht1
  walk_at "rd"
  refine r_sf (by rw [upd_ne (Ne.symm tb)]; exact upd_same) T.cl_Book T.n_Book_trail (by walk_at "pf") (by simp) ?_
  have c1 : But (· = b) H (upd H e (.lst [])) := But.of (same_upd he)
  have c2 : But (· = b) H (upd (upd H e (.lst [])) b (.ins (He.ga K "Book") dx [("each", .ref e)])) := c1.trans (But.ins (C := He.ga K "Book") (dx := dx) (fs := []) (by rw [upd_ne be]; exact hb) rfl)
  have c3 := c2.trans (But.of (S := (· = b)) (same_upd (o := .lst []) ht))
  have c4 := c3.trans (But.ins (S := (· = b)) (o := .ins (He.ga K "Book") dx [("each", .ref e), ("trail", .ref t)]) (C := He.ga K "Book") (dx := dx) (fs := [("each", .ref e)]) (by rw [upd_ne (Ne.symm tb)]; exact upd_same) rfl)
  have ob : (L0 b e t).own b = .book := by simp [L0]
  have oe : (L0 b e t).own e = .each := by simp [L0, Ne.symm be]
  have ot : (L0 b e t).own t = .trail := by simp [L0, tb, te]
  have on : ∀ a, (L0 b e t).own a ≠ .no → a = b ∨ a = e ∨ a = t := fun a z => by
    by_cases h1 : a = b
    · exact .inl h1
    by_cases h2 : a = e
    · exact .inr (.inl h2)
    by_cases h3 : a = t
    · exact .inr (.inr h3)
    exact absurd (by simp [L0, h1, h2, h3]) z
  have ve : upd (upd (upd (upd H e (.lst [])) b (.ins (He.ga K "Book") dx [("each", .ref e)])) t (.lst [])) b (.ins (He.ga K "Book") dx [("each", .ref e), ("trail", .ref t)]) e = some (.lst []) := by
    rw [upd_ne (Ne.symm be), upd_ne (Ne.symm te), upd_ne (Ne.symm be)]; exact upd_same
  have vt : upd (upd (upd (upd H e (.lst [])) b (.ins (He.ga K "Book") dx [("each", .ref e)])) t (.lst [])) b (.ins (He.ga K "Book") dx [("each", .ref e), ("trail", .ref t)]) t = some (.lst []) := by
    rw [upd_ne tb]; exact upd_same
  refine k (L0 b e t) _ ⟨⟨dx, upd_same⟩, ob, ve, oe, ⟨[], vt, .nil⟩, ot, rfl, fun j p o e1 => by simp [L0] at e1, fun j p e1 => by simp [L0] at e1, fun a z => ?_⟩ c4 (fun a z => ?_) (fun a z => ?_)
  · rcases on a z with h | h | h
    · exact ⟨_, by rw [h]; exact upd_same⟩
    · exact ⟨_, by rw [h]; exact ve⟩
    · exact ⟨_, by rw [h]; exact vt⟩
  · rcases on a z with h | h | h
    · exact .inl h
    · exact .inr (by rw [h]; exact he)
    · exact .inr (by rw [h]; exact ht2)
  · obtain ⟨_, z1⟩ := upd_none z
    obtain ⟨_, z2⟩ := upd_none z1
    obtain ⟨_, z3⟩ := upd_none z2
    exact (upd_none z3).2
theorem ok0 : Bk.ok ⟨[], []⟩ := ⟨by simp, by simp, by simp, by simp⟩
/-- a new book holds nothing of what stood -/
theorem made_own {L : Lay} {H : Hp} {b dx : Addr} {u v : HO} (own : ∀ a, L.own a ≠ .no → a = b ∨ upd (upd H dx u) b v a = none) (nb : H b = none) : ∀ a, L.own a ≠ .no → H a = none := fun a z => by
  rcases own a z with e | e
  · rw [e]; exact nb
  · exact (upd_none (upd_none e).2).2
theorem made_no {L : Lay} {H : Hp} (own : ∀ a, L.own a ≠ .no → H a = none) {a : Addr} {u : HO} (e : H a = some u) : L.own a = .no := by
  by_cases z : L.own a = .no
  · exact z
  · rw [own a z] at e; cases e
theorem made_same {H : Hp} {b dx : Addr} {u v : HO} (nb : H b = none) (nd : H dx = none) : Same H (upd (upd H dx u) b v) := fun x w e => by
  rw [upd_ne (ne_of_none e nb), upd_ne (ne_of_none e nd)]
  exact e
theorem But.made {H H1 H2 : Hp} {b : Addr} (s : Same H H1) (bt : But (· = b) H1 H2) (nb : H b = none) : Same H H2 := fun x w e => bt.keep _ _ (s _ _ e) (ne_of_none e nb)
/-- what the law holds stays as it is -/
theorem Mod.no {L L' : Lay} {H H' : Hp} (m : Mod L L' H H') {a : Addr} {u : HO} (e : H a = some u) (n : L.own a = .no) : H' a = some u ∧ L'.own a = .no := by
  refine ⟨m.but.keep _ _ e fun z => z n, ?_⟩
  by_cases z : L'.own a = .no
  · exact z
  · rcases m.grow a z with q | q
    · exact absurd n q
    · rw [e] at q; cases q
def spBookOrders (K : PySem.W.Frag) : Sp := fun vs H Q _ => ∃ (b : Addr) (B : Bk) (L : Lay), vs = [.ref b] ∧ BookAt K H b B L ∧ Q (.int B.each.length) H
theorem len_BookOrders {K : PySem.W.Frag} {vs : List V} {H : Hp} {Q : VK} {E : XK} (h : spBookOrders K vs H Q E) : vs.length = 1 := by
  obtain ⟨_, _, _, rfl, _⟩ := h; rfl
def TdAt (H : Hp) (v : V) (l : Ln) : Prop := ∃ t, v = .ref t ∧ H t = some (.tup (lnTold l))
/-- what is told of an order -/
def AskK (K : PySem.W.Frag) (B : Bk) (n : Int) (H : Hp) (E : XK) (P : Od → Prop) : Prop := (¬ (0 ≤ n ∧ n < B.each.length) → E (errV K .noOrder) none H) ∧ ∀ (j : Nat) o, n = (j : Int) → B.each[j]? = some o → P o
def spAsk (K : PySem.W.Frag) (P : Od → Hp → VK → Prop) : Sp := fun vs H Q E => ∃ (b : Addr) (B : Bk) (L : Lay) (n : Int), vs = [.ref b, .int n] ∧ BookAt K H b B L ∧ B.ok ∧ AskK K B n H E fun o => P o H Q
theorem len_ask {K : PySem.W.Frag} {P : Od → Hp → VK → Prop} {vs : List V} {H : Hp} {Q : VK} {E : XK} (h : spAsk K P vs H Q E) : vs.length = 2 := by
  obtain ⟨_, _, _, _, rfl, _⟩ := h; rfl
abbrev spBookTold (K : PySem.W.Frag) := spAsk K fun o H Q => ∀ r H' xs, Same H H' → H r = none → H' r = some (.lst xs) → Paired (TdAt H') xs o.lines → Q (.ref r) H'
abbrev spBookPaid (K : PySem.W.Frag) := spAsk K fun o H Q => Q (.int o.money) H
abbrev spBookOwed (K : PySem.W.Frag) := spAsk K fun o H Q => ∀ H', Same H H' → Q (.int o.owing) H'
abbrev spBookRows (K : PySem.W.Frag) := spAsk K fun o H Q => ∀ r H' xs, Same H H' → H r = none → H' r = some (.lst xs) → Paired (MkAt H') xs o.marks → Q (.ref r) H'
abbrev len_BookTold {K : PySem.W.Frag} {vs : List V} {H : Hp} {Q : VK} {E : XK} (h : spBookTold K vs H Q E) := len_ask h
abbrev len_BookPaid {K : PySem.W.Frag} {vs : List V} {H : Hp} {Q : VK} {E : XK} (h : spBookPaid K vs H Q E) := len_ask h
abbrev len_BookOwed {K : PySem.W.Frag} {vs : List V} {H : Hp} {Q : VK} {E : XK} (h : spBookOwed K vs H Q E) := len_ask h
abbrev len_BookRows {K : PySem.W.Frag} {vs : List V} {H : Hp} {Q : VK} {E : XK} (h : spBookRows K vs H Q E) := len_ask h
theorem ok_BookOrders {P : Program} {w : World} {K : PySem.W.Frag} {mg : Str → Option Value} {base : Heap} (T : Tx w K mg) : FnOk P w K mg base CX0 1 (He.fAd K dBookOrders.at_) (fdO K dBookOrders.at_) P_BookOrders (spBookOrders K) := by
  refine T.f_BookOrders.ok sc_BookOrders (fun vs H Q E h => len_BookOrders h) (fun cdv A outer s H vs Q E hr h => ⟨_, PSs.nox ((pss_one (ps_ret (pe_callB call_len_seq (by rfl) T.b_len (by decide +kernel) (pa_cons (pe_fld (pv 0) rfl) pa_nil))))), ?_⟩)
  obtain ⟨b, B, L, rfl, h, k⟩ := h
  obtain ⟨dx, hb⟩ := h.ob
  walk_at "rd"
  refine r_f hb T.cl_Book T.n_Book_each (lk_Book_each _ _) ?_
  walk_at "rd"
  refine ⟨_, _, rfl, .inl (SqL.of h.ev), ?_⟩
  rw [List.length_map, h.len]
  exact k
theorem ok_BookTold {P : Program} {w : World} {K : PySem.W.Frag} {mg : Str → Option Value} {base : Heap} (T : Tx w K mg) : FnOk P w K mg base (L2.CX P w) 2 (He.fAd K dBookTold.at_) (fdO K dBookTold.at_) P_BookTold (spBookTold K) := by
  refine T.f_BookTold.ok sc_BookTold (fun vs H Q E h => len_BookTold h) (fun cdv A outer s H vs Q E hr h => ⟨_, ((pss_one (ps_ret (pe_lc (own := [("line", 2)]) (g := gName 2) (tt := tYes) rfl sc_BookTold.nd (pi_list (pe_fld (pe_meth (pv 0) T.cl_Book T.m_Book_order_of (ok_BookOrderOf T) (hr.mono (by decide)) T.b_BookOrderOf .nil (passes_call (takes_of rfl rfl rfl rfl) (fun _ _ _ _ h => h)) (pa_cons (pv 1) pa_nil)) rfl)) (blkOk_by (N := N_BookTold) (sc := defScope sBookTold) (by decide +kernel)) (fun _ _ _ _ _ => pg_name (i := 2) sc_BookTold.nd rfl (Or.inl rfl)) (fun _ _ _ _ _ => pts_nil) (fun _ _ _ _ _ => (pe_meth0 (pv 2) T.cl_Line T.m_Line_numbers (ok_LineNumbers T) (hr.mono (by decide)) T.b_LineNumbers .nil pass0)))))), ?_⟩)
  obtain ⟨b, B, L, n, rfl, h, ok, k1, k2⟩ := h
  obtain ⟨dx, hb⟩ := h.ob
  walk_at "rd"
  refine r_m hb (no_Book_order_of _ _) ?_
  walk_at "rd"
  refine ⟨b, B, L, n, rfl, h, k1, fun j p o ej ep eo => ?_⟩
  have O := h.od j p o ep eo
  have oko := ok.od o (List.mem_of_getElem? eo)
  obtain ⟨dy, ho⟩ := O.ob
  refine r_f ho T.cl_Order T.n_Order_lines (lk_Order_lines _ _ _) ?_
  refine lcp_rel (R := TdAt) (zs := o.lines) (SqL.of O.ll) (by simp [O.len]) (by have := oko.few; simp [O.len]; omega) (fun H H' v z ⟨t, e, q⟩ st => ⟨t, e, st _ _ q⟩) ?_ ?_
  · intro i x l H' W ex el s q
    obtain ⟨a, ea, rfl⟩ := ref_at ex
    obtain ⟨dl, hl⟩ := O.ln i a l ea el
    walk_at "rd"
    refine r_m (s _ _ hl) (no_Line_numbers l) ?_
    walk_at "rd"
    exact ⟨a, l, rfl, ⟨dl, s _ _ hl⟩, fun t ht => q _ _ (same_upd ht) ⟨t, rfl, upd_same⟩⟩
  · intro D H' acc hD s e pr
    exact k2 j o ej eo D H' acc s hD e pr
theorem ok_BookPaid {P : Program} {w : World} {K : PySem.W.Frag} {mg : Str → Option Value} {base : Heap} (T : Tx w K mg) : FnOk P w K mg base (L2.CX P w) 2 (He.fAd K dBookPaid.at_) (fdO K dBookPaid.at_) P_BookPaid (spBookPaid K) := by
  refine T.f_BookPaid.ok sc_BookPaid (fun vs H Q E h => len_BookPaid h) (fun cdv A outer s H vs Q E hr h => ⟨_, ((pss_one (ps_ret (pe_fld (pe_meth (pv 0) T.cl_Book T.m_Book_order_of (ok_BookOrderOf T) (hr.mono (by decide)) T.b_BookOrderOf .nil (passes_call (takes_of rfl rfl rfl rfl) (fun _ _ _ _ h => h)) (pa_cons (pv 1) pa_nil)) rfl)))), ?_⟩)
  obtain ⟨b, B, L, n, rfl, h, ok, k1, k2⟩ := h
  obtain ⟨dx, hb⟩ := h.ob
  walk_at "rd"
  refine r_m hb (no_Book_order_of _ _) ?_
  walk_at "rd"
  refine ⟨b, B, L, n, rfl, h, k1, fun j p o ej ep eo => ?_⟩
  obtain ⟨dy, ho⟩ := (h.od j p o ep eo).ob
  exact r_f ho T.cl_Order T.n_Order_money (lk_Order_money _ _ _) (k2 j o ej eo)
theorem ok_BookOwed {P : Program} {w : World} {K : PySem.W.Frag} {mg : Str → Option Value} {base : Heap} (T : Tx w K mg) : FnOk P w K mg base (L2.CX P w) 5 (He.fAd K dBookOwed.at_) (fdO K dBookOwed.at_) P_BookOwed (spBookOwed K) := by
  refine T.f_BookOwed.ok sc_BookOwed (fun vs H Q E h => len_BookOwed h) (fun cdv A outer s H vs Q E hr h => ⟨_, ((pss_one (ps_ret (pe_meth0 (pe_meth (pv 0) T.cl_Book T.m_Book_order_of (ok_BookOrderOf T) (hr.mono (by decide)) T.b_BookOrderOf .nil (passes_call (takes_of rfl rfl rfl rfl) (fun _ _ _ _ h => h)) (pa_cons (pv 1) pa_nil)) T.cl_Order T.m_Order_owing (ok_OrderOwing T) (hr.mono (by decide)) T.b_OrderOwing .nil pass0)))), ?_⟩)
  obtain ⟨b, B, L, n, rfl, h, ok, k1, k2⟩ := h
  obtain ⟨dx, hb⟩ := h.ob
  walk_at "rd"
  refine r_m hb (no_Book_order_of _ _) ?_
  walk_at "rd"
  refine ⟨b, B, L, n, rfl, h, k1, fun j p o ej ep eo => ?_⟩
  have O := h.od j p o ep eo
  obtain ⟨dy, ho⟩ := O.ob
  refine r_m ho (no_Order_owing _ _ _) ?_
  walk_at "rd"
  exact ⟨p, o, rfl, O, ok.od o (List.mem_of_getElem? eo), k2 j o ej eo⟩
theorem ok_BookRows {P : Program} {w : World} {K : PySem.W.Frag} {mg : Str → Option Value} {base : Heap} (T : Tx w K mg) : FnOk P w K mg base (L2.CX P w) 2 (He.fAd K dBookRows.at_) (fdO K dBookRows.at_) P_BookRows (spBookRows K) := by
  refine T.f_BookRows.ok sc_BookRows (fun vs H Q E h => len_BookRows h) (fun cdv A outer s H vs Q E hr h => ⟨_, ((pss_one (ps_ret (pe_callTy call_list_of (by rfl) T.b_list (by decide +kernel) (pa_cons (pe_fld (pe_meth (pv 0) T.cl_Book T.m_Book_order_of (ok_BookOrderOf T) (hr.mono (by decide)) T.b_BookOrderOf .nil (passes_call (takes_of rfl rfl rfl rfl) (fun _ _ _ _ h => h)) (pa_cons (pv 1) pa_nil)) rfl) pa_nil))))), ?_⟩)
  obtain ⟨b, B, L, n, rfl, h, ok, k1, k2⟩ := h
  obtain ⟨dx, hb⟩ := h.ob
  walk_at "rd"
  refine r_m hb (no_Book_order_of _ _) ?_
  walk_at "rd"
  refine ⟨b, B, L, n, rfl, h, k1, fun j p o ej ep eo => ?_⟩
  have O := h.od j p o ep eo
  obtain ⟨dy, ho⟩ := O.ob
  obtain ⟨ts, et, pt⟩ := O.lm
  refine r_f ho T.cl_Order T.n_Order_marks (lk_Order_marks _ _ _) ?_
  walk_at "rd"
  refine ⟨_, _, rfl, .inl (SqL.of et), fun r hr => ?_⟩
  exact k2 j o ej eo r _ ts (same_upd hr) hr upd_same ((But.of (S := fun _ => False) (same_upd hr)).mks pt)
/-- what stood at H stands, and the book holds nothing of it -/
structure New (L : Lay) (H H' : Hp) : Prop where
  same : Same H H'
  own : ∀ a, L.own a ≠ .no → H a = none
theorem New.ext {L : Lay} {H H1 H2 : Hp} (n : New L H H1) (s : Same H1 H2) : New L H H2 := ⟨n.same.trans s, n.own⟩
theorem New.no {L : Lay} {H H1 : Hp} (n : New L H H1) {a : Addr} {u : HO} (e : H a = some u) : L.own a = .no := made_no n.own e
theorem New.mod {L L' : Lay} {H H1 H2 : Hp} (n : New L H H1) (m : Mod L L' H1 H2) : New L' H H2 where
  same := fun a o e => (m.no (n.same _ _ e) (n.no e)).1
  own := fun a z => by
    rcases m.grow a z with q | q
    · exact n.own a q
    · exact Same.free n.same q

/-! ### deeds done anew -/
def replay : List Od → List Dd → Option (List Od)
  | os, [] => some os
  | os, d :: ds => match step os d with
    | .ok (es, _) => replay es ds
    | .error _ => none
theorem replay_app {os : List Od} {ds es : List Dd} : replay os (ds ++ es) = (replay os ds).bind fun o => replay o es := by
  induction ds generalizing os with
  | nil => rfl
  | cons d ds ih =>
    show (match step os d with | .ok (es', _) => replay es' (ds ++ es) | .error _ => none) = (match step os d with | .ok (es', _) => replay es' ds | .error _ => none).bind _
    cases step os d with
    | error e => rfl
    | ok r => exact ih
theorem replay_one {os : List Od} {d : Dd} {es : List Od} {cs : List (Int × Int)} (e : step os d = .ok (es, cs)) : replay os [d] = some es := by
  show (match step os d with | .ok (es', _) => replay es' [] | .error _ => none) = _
  rw [e]; rfl
theorem replay_snoc {os o1 es : List Od} {ds : List Dd} {d : Dd} {cs : List (Int × Int)} (h : replay os ds = some o1) (e : step o1 d = .ok (es, cs)) : replay os (ds ++ [d]) = some es := by
  rw [replay_app, h]
  exact replay_one e
theorem replay_cut {os es : List Od} {ds : List Dd} {d : Dd} (h : replay os (ds ++ [d]) = some es) : ∃ o1 cs, replay os ds = some o1 ∧ step o1 d = .ok (es, cs) := by
  rw [replay_app] at h
  cases e : replay os ds with
  | none => rw [e] at h; cases h
  | some o1 =>
    rw [e] at h
    have h' : (match step o1 d with | .ok (es', _) => replay es' [] | .error _ => none) = some es := h
    cases q : step o1 d with
    | error x => rw [q] at h'; cases h'
    | ok r =>
      obtain ⟨e1, cs⟩ := r
      rw [q] at h'
      cases h'
      exact ⟨o1, cs, rfl, q⟩
theorem replay_at {os es : List Od} {ds : List Dd} (h : replay os ds = some es) {i : Nat} {d : Dd} (hd : ds[i]? = some d) : ∃ o1 o2 cs, replay os (ds.take i) = some o1 ∧ step o1 d = .ok (o2, cs) ∧ replay os (ds.take (i + 1)) = some o2 := by
  have e1 : ds = ds.take i ++ [d] ++ ds.drop (i + 1) := by
    have hi := (List.getElem?_eq_some_iff.mp hd).1
    have q : ds[i] = d := by
      rw [List.getElem?_eq_getElem hi] at hd
      exact Option.some.inj hd
    rw [← q, List.append_assoc]
    show _ = _ ++ (ds[i] :: ds.drop (i + 1))
    rw [← List.drop_eq_getElem_cons hi, List.take_append_drop]
  have e2 : ds.take (i + 1) = ds.take i ++ [d] := by
    rw [List.take_succ, hd]; rfl
  rw [e1, replay_app] at h
  cases q : replay os (ds.take i ++ [d]) with
  | none => rw [q] at h; cases h
  | some o2 =>
    obtain ⟨o1, cs, h1, h2⟩ := replay_cut q
    exact ⟨o1, o2, cs, h1, h2, by rw [e2]; exact q⟩
theorem replay_ok {es : List Od} {ds : List Dd} (h : replay [] ds = some es) (g : ∀ d, d ∈ ds → d.good) : Bk.ok ⟨es, ds⟩ := by
  have all : ∀ (n : Nat) (ds : List Dd) (es : List Od), ds.length = n → replay [] ds = some es → (∀ d, d ∈ ds → d.good) → Bk.ok ⟨es, ds⟩ := by
    intro n
    induction n with
    | zero =>
      intro ds es hl h g
      have : ds = [] := List.length_eq_zero_iff.mp hl
      subst this
      cases h
      exact ok0
    | succ n ih =>
      intro ds es hl h g
      obtain ⟨ds', d, rfl⟩ : ∃ ds' d, ds = ds' ++ [d] := by
        rcases List.eq_nil_or_concat ds with z | ⟨L, b, z⟩
        · rw [z] at hl; simp at hl
        · exact ⟨L, b, by rw [z, List.concat_eq_append]⟩
      obtain ⟨o1, cs, h1, h2⟩ := replay_cut h
      have k := ih ds' o1 (by simpa using hl) h1 fun x hx => g x (List.mem_append_left _ hx)
      exact step_ok k (g d (by simp)) h2
  exact all _ ds es rfl h g
theorem step_few {os es : List Od} {d : Dd} {cs : List (Int × Int)} (e : step os d = .ok (es, cs)) : d.few := by
  cases d with
  | ord ls =>
    have e' : stepOrd os ls = .ok (es, cs) := e
    unfold stepOrd at e'
    cases q : ordErr os.length ls with
    | some x => rw [q] at e'; cases e'
    | none =>
      unfold ordErr at q
      split at q
      · cases q
      rename_i hl
      have hl2 : 1 ≤ ls.length ∧ ls.length ≤ 20 := Decidable.byContradiction hl
      cases f : firstErr ls with
      | some x => rw [f] at q; cases q
      | none =>
        refine ⟨by omega, fun t ht => ?_⟩
        unfold firstErr at f
        rw [List.findSome?_eq_none_iff] at f
        have q := f t ht
        unfold ltCheck at q
        split at q
        · rename_i c
          unfold isItem at c
          have c2 := (Bool.and_eq_true_iff.mp c).2
          have := (of_decide_eq_true c2).2
          omega
        · cases q
  | _ => trivial
def Hist (B : Bk) : Prop := replay [] B.trail = some B.each

theorem pr_ex {α β : Type} {F : α → β → Prop} : ∀ {l₁ : List α} {l₂ : List β} {i : Nat} {a : α}, Paired F l₁ l₂ → l₁[i]? = some a → ∃ b, l₂[i]? = some b ∧ F a b
  | _, _, _, _, .nil, h => by simp at h
  | _, _, 0, _, .cons r _, h => by
    cases h
    exact ⟨_, rfl, r⟩
  | _, _, i + 1, _, .cons _ t, h => pr_ex (i := i) t h

/-! ### the law's helpers -/
def Script (K : PySem.W.Frag) (H : Hp) (a : Addr) : Prop := ∃ ns : List Int, SqL K H a (ns.map V.int) ∧ ns.length ≤ 63
theorem SqL.keep {K : PySem.W.Frag} {H H' : Hp} {a : Addr} {xs : List V} (h : SqL K H a xs) (k : ∀ o, H a = some o → H' a = some o) : SqL K H' a xs := by
  rcases h with (h | ⟨o, h⟩) | h
  · exact .inl (.inl (k _ h))
  · exact .inl (.inr ⟨o, k _ h⟩)
  · exact .inr h
theorem Script.keep {K : PySem.W.Frag} {H H' : Hp} {a : Addr} (S : Script K H a) (k : ∀ o, H a = some o → H' a = some o) : Script K H' a := by
  obtain ⟨ns, h, l⟩ := S
  exact ⟨ns, SqL.keep h k, l⟩
theorem Script.same {K : PySem.W.Frag} {H H' : Hp} {a : Addr} (S : Script K H a) (s : Same H H') : Script K H' a := S.keep fun o e => s _ _ e
theorem int_at {ns : List Int} {i : Nat} (h : i < ns.length) : (ns.map V.int)[i]? = some (V.int ns[i]) := by
  rw [List.getElem?_map, List.getElem?_eq_getElem h]; rfl
def spLCellAt (K : PySem.W.Frag) : Sp := fun vs H Q _ => ∃ (a : Addr) (k : Int), vs = [.ref a, .int k] ∧ Script K H a ∧ 0 ≤ k ∧ ∀ n : Int, Q (.int n) H
theorem len_LCellAt {K : PySem.W.Frag} {vs : List V} {H : Hp} {Q : VK} {E : XK} (h : spLCellAt K vs H Q E) : vs.length = 2 := by
  obtain ⟨_, _, rfl, _⟩ := h; rfl
theorem ok_LCellAt {P : Program} {w : World} {K : PySem.W.Frag} {mg : Str → Option Value} {base : Heap} (T : Tx w K mg) : FnOk P w K mg base CX0 1 (He.fAd K dLCellAt.at_) (fdO K dLCellAt.at_) P_LCellAt (spLCellAt K) := by
  refine T.f_LCellAt.ok sc_LCellAt (fun vs H Q E h => len_LCellAt h) (fun cdv A outer s H vs Q E hr h => ⟨_, PSs.nox ((pss_cons (ps_if (pt_cmpR op_lt (pv 1) (pe_callB call_len_seq (by rfl) T.b_len (by decide +kernel) (pa_cons (pv 0) pa_nil)) (nomark _)) (pss_one (ps_ret (pe_ix ix_list (pv 0) (pv 1) (fun _ _ => rfl)))) pss_nil)
      (pss_one (ps_ret pe_int)))), ?_⟩)
  obtain ⟨a, i, rfl, ⟨ns, hs, _⟩, hi, k⟩ := h
  walk_at "rd"
  refine ⟨a, _, rfl, .inl hs, ?_⟩
  rw [List.length_map]
  walk_at "rd"
  refine r_itd (fun c => ?_) (fun c => ?_)
  · walk_at "rd"
    exact r_ixL hs (atI_get (j := i.toNat) (by omega) (int_at (by omega))) (k _)
  · walk_at "rd"
    exact k 0
theorem emb {i j : Int} (h : 0 < j) : 0 ≤ i % j ∧ i % j < j := ⟨Int.emod_nonneg _ (by omega), Int.emod_lt_of_pos _ h⟩

/-! ### what is tried -/
/-- a deed that is done, or refused by one of these -/
def TriedK (K : PySem.W.Frag) (ers : List Er) (b : Addr) (B : Bk) (L : Lay) (H : Hp) (d : Dd) (Q : VK) : Prop :=
  (∀ e, step B.each d = .error e → e ∈ ers ∧ ∀ H', Same H H' → Q (.str e.name) H') ∧
  ∀ es cs, step B.each d = .ok (es, cs) → ∀ r L' H', BookAt K H' b ⟨es, B.trail ++ [d]⟩ L' → Mod L L' H H' → Stay H H' → H r = none → L'.own r = .no → ChAt H' r cs → Q (.ref r) H'
def spTried (K : PySem.W.Frag) (ers : List Er) : Sp := fun vs H Q _ => ∃ (b : Addr) (B : Bk) (L : Lay) (v : V), vs = [.ref b, v] ∧ BookAt K H b B L ∧ B.ok ∧ B.trail.length < 100000 ∧
  ∃ d : Dd, DdAt (fun a => L.own a = .no) H v d ∧ d.good ∧ d.few ∧ TriedK K ers b B L H d Q
theorem len_tried {K : PySem.W.Frag} {ers : List Er} {vs : List V} {H : Hp} {Q : VK} {E : XK} (h : spTried K ers vs H Q E) : vs.length = 2 := by
  obtain ⟨_, _, _, _, rfl, _⟩ := h; rfl
theorem tried_by {K : PySem.W.Frag} {ers : List Er} {b : Addr} {B : Bk} {L : Lay} {H : Hp} {d : Dd} {Q : VK} (O : V → Hp → Prop) (main : ∀ v H', O v H' → Q v H') (h : TriedK K ers b B L H d O) : TriedK K ers b B L H d Q :=
  ⟨fun e q => ⟨(h.1 e q).1, fun H' s => main _ _ ((h.1 e q).2 H' s)⟩, fun es cs q r L' H' a b c d e f => main _ _ (h.2 es cs q r L' H' a b c d e f)⟩

theorem letter_at {n : Int} : ∃ c : Nat, c ∈ letters.cps.toList ∧ atI letters.cps.toList (n % 26) = some c := by
  have h0 : 0 ≤ n % 26 := Int.emod_nonneg _ (by decide)
  have h1 : n % 26 < 26 := Int.emod_lt_of_pos _ (by decide)
  have hl : letters.cps.toList.length = 26 := by decide +kernel
  have hj : (n % 26).toNat < letters.cps.toList.length := by omega
  refine ⟨letters.cps.toList[(n % 26).toNat], List.getElem_mem hj, ?_⟩
  unfold atI ixN
  rw [if_pos h0, if_pos (by omega)]
  exact List.getElem?_eq_getElem hj
theorem joinL_nil : ∀ ps : List (List Nat), TL.joinL [] ps = ps.flatten
  | [] => rfl
  | [p] => by simp [TL.joinL]
  | p :: q :: r => by
    have ih := joinL_nil (q :: r)
    show p ++ ([] ++ TL.joinL [] (q :: r)) = _
    rw [List.nil_append, ih]
    rfl
theorem sum_ones {cs : List Nat} : ((cs.map fun c => (⟨#[c]⟩ : Str)).map (·.length)).sum = cs.length := by
  induction cs with
  | nil => rfl
  | cons a r ih =>
    rw [List.map_cons, List.map_cons, List.sum_cons, ih]
    show 1 + r.length = _
    rw [List.length_cons]
    omega
/-- an item, joined of letters -/
theorem item_join {cs : List Nat} (h : ∀ c, c ∈ cs → c ∈ letters.cps.toList) (l : 1 ≤ cs.length ∧ cs.length ≤ 12) : isItem (Txt.join "" (cs.map fun c => (⟨#[c]⟩ : Str))) = true := by
  have e : (Txt.join "" (cs.map fun c => (⟨#[c]⟩ : Str))).cps.toList = cs := by
    rw [TL.join_eq]
    have q := TL.tl_join "" (cs.map fun c => (⟨#[c]⟩ : Str))
    have q1 : TL.tl (Str.join "" (cs.map fun c => (⟨#[c]⟩ : Str))) = cs := by
      rw [q, show TL.tl ("" : Str) = [] by decide +kernel, joinL_nil, List.map_map]
      clear q h l
      induction cs with
      | nil => rfl
      | cons a r ih =>
        rw [List.map_cons, List.flatten_cons, ih]
        rfl
    exact q1
  unfold isItem
  have len : (Txt.join "" (cs.map fun c => (⟨#[c]⟩ : Str))).length = cs.length := by
    show Array.size _ = _
    rw [← Array.length_toList, e]
  rw [e, len, decide_eq_true h, decide_eq_true l]
  rfl
/-- a value for each place -/
theorem each_of {n : Nat} {P : Nat → Nat → Prop} (h : ∀ i, i < n → ∃ c, P i c) : ∃ cs : List Nat, cs.length = n ∧ ∀ (i : Nat) c, cs[i]? = some c → P i c := by
  induction n with
  | zero => exact ⟨[], rfl, fun i c e => by simp at e⟩
  | succ n ih =>
    obtain ⟨cs, hl, hc⟩ := ih fun i hi => h i (by omega)
    obtain ⟨c, hp⟩ := h n (by omega)
    refine ⟨cs ++ [c], by simp [hl], fun i d e => ?_⟩
    by_cases hi : i < cs.length
    · rw [List.getElem?_append_left hi] at e
      exact hc i d e
    · have : i = n := by
        have := (List.getElem?_eq_some_iff.mp e).1
        simp at this
        omega
      subst this
      rw [List.getElem?_append_right (by omega), hl, Nat.sub_self] at e
      cases e
      exact hp

/-- a row of good lines, a new list -/
def Good (ls : List Lt) : Prop := (1 ≤ ls.length ∧ ls.length ≤ 20) ∧ ∀ t, t ∈ ls → isItem t.item = true ∧ numOk t
theorem gln {w : Str} (g : w = "deliver" ∨ w = "back" ∨ w = "swap" ∨ w = "credit") : ¬ w = "order" ∧ ¬ w = "move" ∧ ¬ w = "pay" ∧ ¬ w = "refund" := by
  rcases g with rfl | rfl | rfl | rfl <;> decide +kernel
theorem gmo {w : Str} (g : w = "pay" ∨ w = "refund") : ¬ w = "order" ∧ ¬ w = "move" := by
  rcases g with rfl | rfl <;> decide +kernel
theorem turn_def {w : Str} {l l' : Ln} {n : Int} (g : w = "deliver" ∨ w = "back" ∨ w = "swap" ∨ w = "credit") (e : l.turn w n = some l') :
    (w = "deliver" ∧ l' = { l with sent := l.sent + n }) ∨ (w = "credit" ∧ l' = { l with credited := l.credited + n }) ∨
    (¬ w = "deliver" ∧ ¬ w = "credit" ∧ l' = Ln.cut { l with home := l.home + n, again := l.again + n * (if w = "swap" then 1 else 0) }) := by
  unfold Ln.turn at e
  rcases g with rfl | rfl | rfl | rfl
  · rw [if_pos rfl] at e
    unfold Ln.deliver at e
    split at e
    · cases e
    · cases e
      exact .inl ⟨rfl, rfl⟩
  · rw [if_neg (by decide +kernel), if_neg (by decide +kernel)] at e
    refine .inr (.inr ⟨by decide +kernel, by decide +kernel, ?_⟩)
    rw [if_neg (by decide +kernel)]
    unfold Ln.bring at e
    split at e
    · cases e
    · cases e
      rw [Int.mul_zero, Int.add_zero]
      rfl
  · rw [if_neg (by decide +kernel), if_neg (by decide +kernel)] at e
    refine .inr (.inr ⟨by decide +kernel, by decide +kernel, ?_⟩)
    rw [if_pos rfl]
    unfold Ln.bring at e
    split at e
    · cases e
    · cases e
      rw [Int.mul_one]
      rfl
  · rw [if_neg (by decide +kernel), if_pos rfl] at e
    unfold Ln.reduce at e
    split at e
    · cases e
    · cases e
      exact .inr (.inl ⟨rfl, rfl⟩)
theorem stay_lst {H : Hp} {a : Addr} {o u : HO} (h : H a = some u) : Stay H (upd H a o) := fun x e => by
  by_cases z : x = a
  · rw [z, upd_same] at e; cases e
  · rw [upd_ne z] at e; exact e
def word : Dd → Str
  | .ord _ => "order"
  | .ln w _ _ _ => w
  | .mo w _ _ => w
  | .mv _ _ _ => "move"
theorem word_str {d : Dd} (g : d.good) : PyData.strOk (word d) = true := by
  cases d with
  | ord ls => show PyData.strOk "order" = true; decide +kernel
  | ln w o l n => rcases g with rfl | rfl | rfl | rfl <;> (simp only [word]; decide +kernel)
  | mo w o n => rcases g with rfl | rfl <;> (simp only [word]; decide +kernel)
  | mv o p n => show PyData.strOk "move" = true; decide +kernel
def RowsAt (H : Hp) (r : Addr) (rs : List (List V)) : Prop := ∃ xs, H r = some (.lst xs) ∧ Paired (TupAt H) xs rs
theorem tup_keep {S : Addr → Prop} {H H' : Hp} (b : But S H H') {xs : List V} {rs : List (List V)} (h : Paired (TupAt H) xs rs) : Paired (TupAt H') xs rs := Paired.mapP h fun _ _ ⟨t, e, q⟩ => ⟨t, e, b.tup _ _ q⟩
theorem RowsAt.keep {S : Addr → Prop} {H H' : Hp} {r : Addr} {rs : List (List V)} (h : RowsAt H r rs) (b : But S H H') (n : ¬ S r) : RowsAt H' r rs := by
  obtain ⟨xs, e, p⟩ := h
  exact ⟨xs, b.keep _ _ e n, tup_keep b p⟩
theorem RowsAt.same {H H' : Hp} {r : Addr} {rs : List (List V)} (h : RowsAt H r rs) (s : Same H H') : RowsAt H' r rs := h.keep (But.of (S := fun _ => False) s) id
def mkRow (m : Str × Int) : List V := [.str m.1, .int m.2]
theorem mk_rows {H : Hp} : ∀ {xs : List V} {ms : List (Str × Int)}, Paired (MkAt H) xs ms → Paired (TupAt H) xs (ms.map mkRow)
  | _, _, .nil => .nil
  | _, _, .cons ⟨t, e, h⟩ r => .cons ⟨t, e, h⟩ (mk_rows r)
theorem mk_rws {ms : List (Str × Int)} (h : ∀ m, m ∈ ms → PyData.strOk m.1 = true) : Rws (ms.map mkRow) := fun r hr => by
  obtain ⟨m, hm, rfl⟩ := List.mem_map.mp hr
  exact .cons (.inr ⟨_, rfl, h m hm⟩) (.cons .int .nil)
def wLn (w : Str) : Prop := w = "deliver" ∨ w = "back" ∨ w = "swap" ∨ w = "credit"
def Zok (z : Str) (n : Nat) : Prop := PyData.strOk z = true ∧ z.length ≤ n
theorem strOk_iff {z : Str} : PyData.strOk z = true ↔ ∀ c, c ∈ TL.tl z → c < 0x110000 := by
  unfold PyData.strOk
  rw [← Array.all_toList, List.all_eq_true]
  exact ⟨fun h c hc => of_decide_eq_true (h c hc), fun h c hc => decide_eq_true (h c hc)⟩
theorem Zok.mono {x : Str} {m n : Nat} (h : Zok x m) (l : m ≤ n) : Zok x n := ⟨h.1, Nat.le_trans h.2 l⟩
theorem letters_small : ∀ c, c ∈ letters.cps.toList → c < 0x110000 := by decide +kernel
theorem item_str {z : Str} (h : isItem z = true) : PyData.strOk z = true := by
  unfold isItem at h
  have q := of_decide_eq_true (Bool.and_eq_true_iff.mp h).1
  exact strOk_iff.mpr fun c hc => letters_small c (q c hc)
theorem item_len {z : Str} (h : isItem z = true) : z.length ≤ 12 := by
  unfold isItem at h
  have := of_decide_eq_true (Bool.and_eq_true_iff.mp h).2
  omega

/-! ### an error handed to a def, in its handler -/
section
open PySem.Spec PyProof.Rows
/-- what a def promises of an error of the class D that its caller holds -/
structure FnE (P : Program) (w : World) (K : PySem.W.Frag) (mg : Str → Option Value) (base : Heap) (k : Nat) (f : Addr) (fd : FuncData) (ps : List Str) (D : Addr) (sp : Addr → Sp) : Prop where
  len : ∀ a vs H Q E, sp a vs H Q E → vs.length = ps.length
  run : ∀ (A : Around) (outer : List Env) (s : Shared) (H : Hp) (args : Args) (us : List Value) (vs : List V) (Q : VK) (E : XK) (p : Addr × Obj), L2H.RoomH k A → Zc (.ref D) none p.2 → (∃ vs, p.2.data = .fields vs) → L2H.PinOk outer H s p → Env0 P w K mg base A outer s H → BindsTo s fd args (ps.zip us) → Vals vs us → sp p.1 vs H Q E →
    codeAny (model P w) A (.call (.ref f) args) (CR CX0 outer P w H s Q E) s
theorem par_kinds {N ps : List Str} {scope : Scope} {us : List Value} {n : Nat} (S : FnScope N ps scope) : ∀ y ∈ ps.zip us, scope.names.lookup y.1 = some .local ∨
    (scope.names.lookup y.1 = some .cell ∧ ((cellsFrom n scope.names []).lookup y.1).isSome = true) := by
  intro y hy
  obtain ⟨name, val⟩ := y
  exact (S.par name (List.of_mem_zip hy).1).elim .inl fun c => .inr ⟨c, PySem.W.cellsFrom_some _ _ _ (.inl c)⟩
theorem fn_ofE {P : Program} {w : World} {K : PySem.W.Frag} {mg : Str → Option Value} {base : Heap} {k : Nat} {f D : Addr} {name qual : Str} {params : Arguments} {body : List Stmt} {scope : Scope} {dV kV doc pm cdv ct oc : Value} {an od : Option Addr}
    {osl : Array (Option Value)} {N ps : List Str} {sp : Addr → Sp} (lk : K.lookup f = some ⟨oc, od, .func (PySem.W.fnOf name qual params body scope dV kV doc pm an cdv ct), osl⟩) (hcd : PySem.W.codeIn K cdv qual = true) (S : FnScope N ps scope)
    (len : ∀ a vs H Q E, sp a vs H Q E → vs.length = ps.length)
    (hbody : ∀ (A : Around) (outer : List Env) (s : Shared) (H : Hp) (vs : List V) (Q : VK) (E : XK) (p : Addr × Obj), Zc (.ref D) none p.2 → (∃ vs, p.2.data = .fields vs) → L2H.RoomH k (A.deeper (envOfC qual scope s.heap.objs.size f cdv)) → sp p.1 vs H Q E →
      ∃ t, PSs (L2H.cxH CX0 P w K mg base N qual scope f cdv A outer s H E p) body t ∧ t { nx := fun _ H' => Q .non H', rt := Q } (L2.start N vs) H) :
    FnE P w K mg base (k + 1) f (PySem.W.fnOf name qual params body scope dV kV doc pm an cdv ct) ps D sp := by
  constructor
  · exact len
  intro A outer s H args us vs Q E p hr hz hf pinned e0 binds same says
  have nl : vs.length = ps.length := len _ _ _ _ _ says
  have base_in : K.In s.heap ∧ s.heap.NoLimit := ⟨e0.mod.kin.keeps fun _ _ e => (e0.bs _ _ e).1, e0.mod.nolimit.keeps fun _ _ e => (e0.bs _ _ e).1⟩
  refine codeAny_call_function hr.depth (base_in.1 _ _ lk) rfl S.co S.gen rfl (PySem.W.codeRec_of base_in.1 hcd) (binds _ _ _ _ ?_)
  refine wpAny_newFunctionEnv_cells S.kind (par_kinds S) fun env eEnv s1 called => ?_
  subst eEnv
  refine ⟨base_in.2.keeps called.toInCall.keep, codeAny_func ?_⟩
  obtain ⟨t, body_t, reads⟩ := hbody A outer s H vs Q E p hz hf (hr.deeper _) says
  refine wpAny_mono (body_t.run [] s1 (L2.start N vs) H _ (L2H.inv_startH S pinned e0 nl same called) reads) (fun flow s2 ends => ?_) fun _ _ q => q
  match flow, ends with
  | .ret u, ⟨v, _, H2, J, rv, q⟩ => exact ⟨v, H2, J.os, J.bare, J.base, J.hok, rv, q⟩
  | .next, ⟨_, H2, J, q⟩ => exact ⟨V.non, H2, J.os, J.bare, J.base, J.hok, rfl, q⟩
  | .brk, ⟨_, _, _, q⟩ => exact False.elim q
  | .cont, ⟨_, _, _, q⟩ => exact False.elim q
theorem funD_okE {P : Program} {w : World} {K : PySem.W.Frag} {mg : Str → Option Value} {base : Heap} {x qual : Str} {params : Arguments} {body : List Stmt} {scope : Scope} {dvs : List V} {kws : List (Str × V)} {f D : Addr} {fd : FuncData} {N ps : List Str} {k : Nat} {sp : Addr → Sp}
    (F : FunD K x qual params body scope dvs kws f fd) (S : FnScope N ps scope) (len : ∀ a vs H Q E, sp a vs H Q E → vs.length = ps.length)
    (hbody : ∀ (cdv : Value) (A : Around) (outer : List Env) (s : Shared) (H : Hp) (vs : List V) (Q : VK) (E : XK) (p : Addr × Obj), Zc (.ref D) none p.2 → (∃ vs, p.2.data = .fields vs) → L2H.RoomH k (A.deeper (envOfC qual scope s.heap.objs.size f cdv)) → sp p.1 vs H Q E →
      ∃ t, PSs (L2H.cxH CX0 P w K mg base N qual scope f cdv A outer s H E p) body t ∧ t { nx := fun _ H' => Q .non H', rt := Q } (L2.start N vs) H) : FnE P w K mg base (k + 1) f fd ps D sp := by
  obtain ⟨_, _, _, _, _, _, _, code, _, _, e, at_, coded, _⟩ := F.ex
  subst e
  exact fn_ofE at_ coded S len (hbody code)
/-- isinstance of it -/
def rIsF (K : PySem.W.Frag) (D a : Addr) : List V → Hp → VK → Prop := fun xs H Q => ∃ (c : V) (cv : Value) (b : Bool), ExcC K D ∧ xs = [.ref a, c] ∧ ClsV c cv ∧ PySem.W.kitOne K (.ref D) cv = some b ∧ Q (.bl b) H
theorem call_isF {X : Cx} {K : PySem.W.Frag} {D : Addr} {p : Addr × Obj} (eK : X.K = K) (hp : p ∈ X.pn) (hz : Zc (.ref D) none p.2) (hf : ∃ vs, p.2.data = .fields vs) : CallR X (.builtin "isinstance") (rIsF K D p.1) := by
  subst eK
  rintro pins s σ H xs us Q I given ⟨c, cv, b, C, rfl, hc, e, q⟩
  match us, given with
  | _ :: _ :: [], .cons r1 (.cons r2 .nil) =>
    obtain rfl := r1
    obtain rfl := hc.eq r2
    have there := (I.pin p (List.mem_append.mpr (.inl hp))).1
    obtain ⟨fs, efs⟩ := hf
    have inst : PySem.W.InstAt s.heap p.1 p.2 D none := by
      obtain ⟨a, k1, k2, k3, k4⟩ := p
      obtain ⟨z1, z2⟩ := hz
      dsimp only at z1 z2 efs
      subst z1 z2 efs
      exact .mk there rfl rfl trivial
    exact PySem.W.kia_one (PySem.W.handS_kitx_exc C.hg C.hk C.hs C.hd C.ha C.hn C.ht C.hm) I.kIn inst e (fun z => nomatch z) fun n => ⟨.bl b, H, I.kept (t' := n) (fun _ _ y => y), rfl, q⟩
/-- how often a flat value stands in a list -/
theorem vals_countP {x : V} : ∀ {xs : List V} {us : List Value}, Vals xs us → xs.all flatV = true → us.countP (eqU x) = xs.countP (fun y => eqV y x)
  | _, _, .nil, _ => rfl
  | y :: ys, u :: vs, .cons r1 r2, f => by
    have f2 : flatV y = true ∧ ys.all flatV = true := by simpa using f
    rw [List.countP_cons, List.countP_cons, eqU_of r1 f2.1, vals_countP r2 f2.2]
def rCntV (K : PySem.W.Frag) : V → List V → Hp → VK → Prop := fun l xs H Q => ∃ (p : Addr) (ys : List V) (x : V), l = .ref p ∧ xs = [x] ∧ SqL K H p ys ∧ flatV x = true ∧ ys.all flatV = true ∧ Q (.int ((ys.countP fun y => eqV y x : Nat) : Int)) H
theorem mt_lcountV {X : Cx} : MtR X "list.count" (rCntV X.K) := by
  rintro pins s σ H l xs v us Q I rl rargs ⟨p, ys, x, rfl, rfl, hs, fx, fs, q⟩
  obtain rfl := rl
  obtain ⟨u, e1, ru⟩ := rargs.one
  subst e1
  obtain ⟨items, vals, ⟨⟨c1, c2, c3, c4⟩, n, lies, e2, e3, e4⟩, _⟩ := I.list hs
  dsimp only at e2 e4
  subst e2 e4
  have cnt : items.toArray.toList.countP (eqU x) = ys.countP fun y => eqV y x := vals_countP vals fs
  have rule := SeqAt.list_countAt p items.toArray n c2 c4 u (eqU x)
  refine call_meets PySem.F.slot_list_count ⟨_, lies, rfl⟩ PySem.F.entry_list_count (PySem.F.args_list_count_2 _ _) rule ⟨lies, fun w hw => mem_eqAt ru fx vals fs w (by simpa using hw), ?_⟩
  exact ⟨.int ((ys.countP fun y => eqV y x : Nat) : Int), H, I.tok _, ⟨s.toks, by rw [← cnt]⟩, q⟩
/-- the call of a def by the error in hand -/
def tCallX (K : PySem.W.Frag) (names : List Str) (cls : Value) (d : Option Addr) (sp : Addr → Sp) (a : Addr) (t : TA) : TE := fun σ H Q => t σ H fun vs H1 => ∃ x, x ∈ names ∧ cls = .ref (He.ga K x) ∧ d = none ∧ sp a vs H1 Q E0
theorem r_callX {K : PySem.W.Frag} {names : List Str} {cls : Value} {d : Option Addr} {sp : Addr → Sp} {a : Addr} {t : TA} {σ : L2.St} {H : Hp} {Q : VK} (h : t σ H fun vs H1 => ∃ x, x ∈ names ∧ cls = .ref (He.ga K x) ∧ d = none ∧ sp a vs H1 Q E0) : tCallX K names cls d sp a t σ H Q := h
theorem pe_callX {X : Cx} {K : PySem.W.Frag} {names : List Str} {k : Nat} {f : Addr} {fd : FuncData} {ps : List Str} {sp : Addr → Sp} {x : Str} {q pos : Pos} {e : Expr} {es : List Expr} {t : TA} {a : Addr} {oe : Obj} {cls : Value} {d : Option Addr} (eK : X.K = K) (hp : (a, oe) ∈ X.pn) (hr : L2H.RoomH k X.A) (hz : Zc cls d oe) (hf : ∃ vs, oe.data = .fields vs)
    (F : ∀ n, n ∈ names → FnE X.prog X.w K X.mg X.base k f fd ps (He.ga K n) sp) (hg : Gl X x) (hm : X.mg x = some (.ref f)) (hk : PySem.W.keepIn K (.ref f) = true) (hb : Binds K fd ps [])
    (ha : PA X (e :: es) t) (hdb : (x == ("__debug__" : Str)) = false := by decide) (he : starEach (e :: es) X.env = (false, eval e X.env) :: starEach es X.env := by rfl) (hpl : (backTo pos (starEach es X.env)).any (·.1) = false := by rfl) :
    PE X (.Call (.Name x q) (e :: es) [] pos) (tCallX K names cls d sp a t) := by
  subst eK
  constructor
  intro pins s σ H Q I asks
  refine wpAny_Call_Name_kw (ld_glob I hg hm (PySem.W.callWith_K (h₀ := X.base) I.ok.mod.kin hk (thn (ha.run pos pins s σ H _ I asks) ?_) he hpl) hdb)
  rintro us s1 ⟨vs, H1, I1, rv, n, hn, ec, ed, says⟩
  refine ⟨I1.kIn, ?_⟩
  · subst ec ed
    have G := F n hn
    have same_len : us.length = ps.length := rv.length ▸ G.len _ _ _ _ _ says
    have binds := hb s1 us I1.kIn (by simpa using same_len)
    rw [List.append_nil] at binds
    obtain ⟨pin1, pin2, pin3, pin4, pin5⟩ := I1.pin (a, oe) (List.mem_append_left _ hp)
    have pinned : L2H.PinOk X.stack H1 s1 (a, oe) := ⟨pin1, pin2, fun hm => (List.mem_cons.mp (I1.stkSub a hm)).elim pin3 pin4, pin5⟩
    refine wpAny_call (codeAny_mono (G.run X.A X.stack s1 H1 ⟨us, []⟩ us vs _ E0 (a, oe) hr hz hf pinned I1.env0 binds rv says) fun out s2 ends => ?_)
    match out, ends with
    | .error _, q => exact False.elim q
    | .ok (.ret u), q => exact I1.after q
    | .ok .next, q => exact False.elim q
    | .ok .brk, q => exact False.elim q
    | .ok .cont, q => exact False.elim q
end

/-! ### of one class -/
def spLOfOneClass (_ : PySem.W.Frag) (a : Addr) : Sp := fun vs H Q _ => vs = [.ref a] ∧ ∀ H', Same H H' → Q (.bl true) H'
theorem len_LOfOneClass {K : PySem.W.Frag} {a : Addr} {vs : List V} {H : Hp} {Q : VK} {E : XK} (h : spLOfOneClass K a vs H Q E) : vs.length = 1 := by
  obtain ⟨rfl, _⟩ := h; rfl
def theTen (x : Str) : List V := [.bl (decide (x = "NoDeed")), .bl (decide (x = "NoLines")), .bl (decide (x = "NoItem")), .bl (decide (x = "NoNumber")), .bl (decide (x = "FullBook")), .bl (decide (x = "NoOrder")), .bl (decide (x = "SameOrder")), .bl (decide (x = "NoLine")), .bl (decide (x = "TooMuch")), .bl (decide (x = "NothingDone"))]
theorem ten_one {x : Str} (hx : x ∈ exNames) : (theTen x).countP (fun y => eqV y (.bl true)) = 1 := by
  have h : x = "NoDeed" ∨ x = "NoLines" ∨ x = "NoItem" ∨ x = "NoNumber" ∨ x = "FullBook" ∨ x = "NoOrder" ∨ x = "SameOrder" ∨ x = "NoLine" ∨ x = "TooMuch" ∨ x = "NothingDone" := by
    simpa [exNames] using hx
  rcases h with rfl | rfl | rfl | rfl | rfl | rfl | rfl | rfl | rfl | rfl <;> decide +kernel
theorem ok_LOfOneClass {P : Program} {w : World} {K : PySem.W.Frag} {mg : Str → Option Value} {base : Heap} (T : Tx w K mg) {x : Str} (hx : x ∈ exNames) : FnE P w K mg base 1 (He.fAd K dLOfOneClass.at_) (fdO K dLOfOneClass.at_) P_LOfOneClass (He.ga K x) (spLOfOneClass K) := by
  refine funD_okE T.f_LOfOneClass sc_LOfOneClass (fun a vs H Q E h => len_LOfOneClass h) (fun cdv A outer s H vs Q E p hz hf hr h => ⟨_, PSs.nox ((pss_cons (ps_set (i := 1) sc_LOfOneClass.nd rfl (Or.inl rfl) (pe_lst (pa_cons (pe_callB (call_isF (K := K) rfl List.mem_cons_self hz hf) (by rfl) T.b_isinstance (by decide +kernel) (pa_cons (pv 0) (pa_cons (pe_glob rfl T.g_NoDeed (v := .ref (He.ga K "NoDeed")) rfl) pa_nil))) (pa_cons (pe_callB (call_isF (K := K) rfl List.mem_cons_self hz hf) (by rfl) T.b_isinstance (by decide +kernel) (pa_cons (pv 0) (pa_cons (pe_glob rfl T.g_NoLines (v := .ref (He.ga K "NoLines")) rfl) pa_nil))) (pa_cons (pe_callB (call_isF (K := K) rfl List.mem_cons_self hz hf) (by rfl) T.b_isinstance (by decide +kernel) (pa_cons (pv 0) (pa_cons (pe_glob rfl T.g_NoItem (v := .ref (He.ga K "NoItem")) rfl) pa_nil))) (pa_cons (pe_callB (call_isF (K := K) rfl List.mem_cons_self hz hf) (by rfl) T.b_isinstance (by decide +kernel) (pa_cons (pv 0) (pa_cons (pe_glob rfl T.g_NoNumber (v := .ref (He.ga K "NoNumber")) rfl) pa_nil))) pa_nil))))))
      (pss_cons (ps_set (i := 1) sc_LOfOneClass.nd rfl (Or.inl rfl) (pe_op op_cat (pv 1) (pe_lst (pa_cons (pe_callB (call_isF (K := K) rfl List.mem_cons_self hz hf) (by rfl) T.b_isinstance (by decide +kernel) (pa_cons (pv 0) (pa_cons (pe_glob rfl T.g_FullBook (v := .ref (He.ga K "FullBook")) rfl) pa_nil))) (pa_cons (pe_callB (call_isF (K := K) rfl List.mem_cons_self hz hf) (by rfl) T.b_isinstance (by decide +kernel) (pa_cons (pv 0) (pa_cons (pe_glob rfl T.g_NoOrder (v := .ref (He.ga K "NoOrder")) rfl) pa_nil))) (pa_cons (pe_callB (call_isF (K := K) rfl List.mem_cons_self hz hf) (by rfl) T.b_isinstance (by decide +kernel) (pa_cons (pv 0) (pa_cons (pe_glob rfl T.g_SameOrder (v := .ref (He.ga K "SameOrder")) rfl) pa_nil))) pa_nil))))))
      (pss_cons (ps_set (i := 1) sc_LOfOneClass.nd rfl (Or.inl rfl) (pe_op op_cat (pv 1) (pe_lst (pa_cons (pe_callB (call_isF (K := K) rfl List.mem_cons_self hz hf) (by rfl) T.b_isinstance (by decide +kernel) (pa_cons (pv 0) (pa_cons (pe_glob rfl T.g_NoLine (v := .ref (He.ga K "NoLine")) rfl) pa_nil))) (pa_cons (pe_callB (call_isF (K := K) rfl List.mem_cons_self hz hf) (by rfl) T.b_isinstance (by decide +kernel) (pa_cons (pv 0) (pa_cons (pe_glob rfl T.g_TooMuch (v := .ref (He.ga K "TooMuch")) rfl) pa_nil))) (pa_cons (pe_callB (call_isF (K := K) rfl List.mem_cons_self hz hf) (by rfl) T.b_isinstance (by decide +kernel) (pa_cons (pv 0) (pa_cons (pe_glob rfl T.g_NothingDone (v := .ref (He.ga K "NothingDone")) rfl) pa_nil))) pa_nil))))))
      (pss_one (ps_ret (pe_and (pe_callB (call_isF (K := K) rfl List.mem_cons_self hz hf) (by rfl) T.b_isinstance (by decide +kernel) (pa_cons (pv 0) (pa_cons (pe_bltn (v := .ty "ValueError") (by rfl) T.b_ValueError (by decide +kernel) rfl) pa_nil))) (pe_one (pe_cmpR op_eq (pe_bm PySem.F.plainAttrs_list PySem.F.slot_list_count PySem.F.type_list_count mt_lcountV (pv 1) (pa_cons pe_bl pa_nil)) pe_int (nomark _)))))))))), ?_⟩)
  obtain ⟨rfl, k⟩ := h
  have X := excAll_ok T.xv hx
  walk_at "rd"
  refine ⟨_, _, _, X.1, rfl, .own _, X.2.2 "NoDeed" (by decide +kernel), ?_⟩
  walk_at "rd"
  refine ⟨_, _, _, X.1, rfl, .own _, X.2.2 "NoLines" (by decide +kernel), ?_⟩
  walk_at "rd"
  refine ⟨_, _, _, X.1, rfl, .own _, X.2.2 "NoItem" (by decide +kernel), ?_⟩
  walk_at "rd"
  refine ⟨_, _, _, X.1, rfl, .own _, X.2.2 "NoNumber" (by decide +kernel), ?_⟩
  walk_at "rd"
  refine r_mk (by simp) fun l1 hl1 => ?_
  walk_at "rd"
  refine ⟨_, _, _, X.1, rfl, .own _, X.2.2 "FullBook" (by decide +kernel), ?_⟩
  walk_at "rd"
  refine ⟨_, _, _, X.1, rfl, .own _, X.2.2 "NoOrder" (by decide +kernel), ?_⟩
  walk_at "rd"
  refine ⟨_, _, _, X.1, rfl, .own _, X.2.2 "SameOrder" (by decide +kernel), ?_⟩
  walk_at "rd"
  refine r_mk (by simp) fun l2 hl2 => ?_
  refine ⟨l1, l2, _, _, rfl, rfl, by rw [upd_ne (ne_of_none upd_same hl2)]; exact upd_same, upd_same, by show 4 + 3 ≤ sizeLine; rw [sizeLine_eq]; decide, fun l3 hl3 => ?_⟩
  walk_at "rd"
  refine ⟨_, _, _, X.1, rfl, .own _, X.2.2 "NoLine" (by decide +kernel), ?_⟩
  walk_at "rd"
  refine ⟨_, _, _, X.1, rfl, .own _, X.2.2 "TooMuch" (by decide +kernel), ?_⟩
  walk_at "rd"
  refine ⟨_, _, _, X.1, rfl, .own _, X.2.2 "NothingDone" (by decide +kernel), ?_⟩
  walk_at "rd"
  refine r_mk (by simp) fun l4 hl4 => ?_
  refine ⟨l3, l4, _, _, rfl, rfl, by rw [upd_ne (ne_of_none upd_same hl4)]; exact upd_same, upd_same, by show 7 + 3 ≤ sizeLine; rw [sizeLine_eq]; decide, fun l5 hl5 => ?_⟩
  have s5 := ((((same_upd hl1).trans (same_upd hl2)).trans (same_upd hl3)).trans (same_upd hl4)).trans (same_upd (o := .lst (theTen x)) hl5)
  walk_at "rd"
  refine ⟨_, _, _, X.1, rfl, .ty _, X.2.1, ?_⟩
  walk_at "rd"
  refine r_tyL (SqL.of upd_same) ?_
  walk_at "rd"
  refine ⟨l5, theTen x, _, rfl, rfl, SqL.of upd_same, rfl, rfl, ?_⟩
  walk_at "rd"
  rw [ten_one hx]
  exact k _ s5

/-! ### deeds of any kind -/
theorem ix_mod {xs : List V} (n : Nat) (hl : xs.length = n) (hn : 0 < n) (i : Int) : ∃ v, v ∈ xs ∧ atI xs (i % (n : Int)) = some v := by
  have h0 : 0 ≤ i % (n : Int) := Int.emod_nonneg _ (by omega)
  have h1 : i % (n : Int) < (n : Int) := Int.emod_lt_of_pos _ (by omega)
  have hj : (i % (n : Int)).toNat < xs.length := by omega
  refine ⟨xs[(i % (n : Int)).toNat], List.getElem_mem hj, ?_⟩
  unfold atI ixN
  rw [if_pos h0, if_pos (by omega)]
  exact List.getElem?_eq_getElem hj
def spLFarBy (_ : PySem.W.Frag) : Sp := fun vs H Q _ => ∃ c : Int, vs = [.int c] ∧ ∀ (n : Int) H', Same H H' → Q (.int n) H'
theorem len_LFarBy {K : PySem.W.Frag} {vs : List V} {H : Hp} {Q : VK} {E : XK} (h : spLFarBy K vs H Q E) : vs.length = 1 := by
  obtain ⟨_, rfl, _⟩ := h; rfl
theorem ok_LFarBy {P : Program} {w : World} {K : PySem.W.Frag} {mg : Str → Option Value} {base : Heap} (T : Tx w K mg) : FnOk P w K mg base CX0 1 (He.fAd K dLFarBy.at_) (fdO K dLFarBy.at_) P_LFarBy (spLFarBy K) := by
  refine T.f_LFarBy.ok sc_LFarBy (fun vs H Q E h => len_LFarBy h) (fun cdv A outer s H vs Q E hr h => ⟨_, PSs.nox ((pss_cons (ps_if (pt_cmpR op_eq (pe_op op_mod (pv 0) pe_int) pe_int (nomark _)) (pss_one (ps_ret (pe_op op_sub (pe_op op_mod (pe_op op_fdiv (pv 0) pe_int) (pe_op op_pow pe_int pe_int)) (pe_op op_pow pe_int pe_int)))) pss_nil)
      (pss_one (ps_ret (pe_ix ix_list (pe_lst (pa_cons pe_int (pa_cons pe_int (pa_cons pe_int (pa_cons pe_int (pa_cons pe_int (pa_cons pe_int (pa_cons (pe_un un_neg pe_int) (pa_cons pe_int (pa_cons pe_int (pa_cons (pe_un un_neg pe_int) pa_nil))))))))))) (pe_op op_mod (pe_op op_fdiv (pv 0) pe_int) pe_int) (fun _ _ => rfl)))))), ?_⟩)
  obtain ⟨c, rfl, k⟩ := h
  walk_at "rd"
  walk_at "md"
  walk_at "rd"
  refine r_itd (fun _ => ?_) (fun _ => ?_)
  · repeat' (first | walk_at "rd1" | walk_at "md" | exact k _ _ (Same.refl _))
  · walk_at "rd"
    refine r_mk (by simp) fun p hp => ?_
    walk_at "rd"
    walk_at "md"
    walk_at "rd"
    walk_at "md"
    obtain ⟨v, hv, e⟩ := ix_mod (xs := [V.int 0, .int 1, .int 0, .int 1, .int 0, .int 1, .int (-1), .int 2, .int 3, .int (-2)]) 10 rfl (by decide) (c / 9)
    obtain ⟨z, rfl⟩ : ∃ z, v = V.int z := by
      simp at hv
      rcases hv with h | h | h | h | h | h | h | h | h | h <;> exact ⟨_, h⟩
    refine r_ixL (SqL.of upd_same) e ?_
    exact k _ _ (same_upd hp)
def spLWordBy (_ : PySem.W.Frag) : Sp := fun vs H Q _ => ∃ c : Int, vs = [.int c] ∧ ∀ z H', Zok z 60 → z ≠ "order" → Same H H' → Q (.str z) H'
theorem len_LWordBy {K : PySem.W.Frag} {vs : List V} {H : Hp} {Q : VK} {E : XK} (h : spLWordBy K vs H Q E) : vs.length = 1 := by
  obtain ⟨_, rfl, _⟩ := h; rfl
theorem ok_LWordBy {P : Program} {w : World} {K : PySem.W.Frag} {mg : Str → Option Value} {base : Heap} (T : Tx w K mg) : FnOk P w K mg base CX0 1 (He.fAd K dLWordBy.at_) (fdO K dLWordBy.at_) P_LWordBy (spLWordBy K) := by
  refine T.f_LWordBy.ok sc_LWordBy (fun vs H Q E h => len_LWordBy h) (fun cdv A outer s H vs Q E hr h => ⟨_, PSs.nox ((pss_cons (ps_set (i := 1) sc_LWordBy.nd rfl (Or.inr rfl) pe_str)
      (pss_cons (ps_set (i := 3) sc_LWordBy.nd rfl (Or.inl rfl) (pe_bm PySem.F.plainAttrs_str PySem.F.slot_str_join PySem.F.type_str_join mt_join pe_str (pa_cons (pe_lc (own := [("_law_k", 2)]) (g := gName 2) (tt := tYes) rfl sc_LWordBy.nd (pi_range1 (by rfl) T.b_range (pa_cons (pe_op op_add pe_int (pe_op op_mod (pv 0) pe_int)) pa_nil)) (blkOk_by (N := N_LWordBy) (sc := defScope sLWordBy) (by decide +kernel)) (fun _ _ _ _ _ => pg_name (i := 2) sc_LWordBy.nd rfl (Or.inl rfl)) (fun _ _ _ _ _ => pts_nil) (fun _ _ _ _ _ => (pe_ix ix_str (pv 1) (pe_op op_mod (pe_op op_add (pe_op op_add (pe_op op_fdiv (pv 0) pe_int) (pe_op op_mul (pe_op op_fdiv (pe_op op_fdiv (pv 0) pe_int) pe_int) (pv 2))) (pe_op op_mul pe_int (pv 2))) pe_int) (fun _ _ => rfl)))) pa_nil)))
      (pss_cons (ps_if (pt_cmpR op_eq (pv 3) pe_str (nomark _)) (pss_one (ps_ret pe_str)) pss_nil)
      (pss_one (ps_ret (pv 3))))))), ?_⟩)
  obtain ⟨c, rfl, k⟩ := h
  walk_at "rd"
  refine ⟨rfl, ?_⟩
  walk_at "rd"
  walk_at "md"
  have b1 : 0 ≤ c % 8 ∧ c % 8 < 8 := by omega
  revert b1
  generalize c % 8 = m
  intro b1
  obtain ⟨cs, hl, hc⟩ := each_of (n := (1 + m).toNat) (P := fun i x => x ∈ letters.cps.toList ∧ atI letters.cps.toList ((c / 8 + c / 8 / 26 * (i : Int) + 7 * (i : Int)) % 26) = some x) fun i _ => letter_at
  walk_at "rd"
  refine lcp_range (ys := cs.map fun x => V.str ⟨#[x]⟩) (by simp [hl]) (by omega) (by omega) ?_ ?_
  · intro i y H' R ey s q
    rw [List.getElem?_map] at ey
    cases ec : cs[i]? with
    | none => rw [ec] at ey; cases ey
    | some x =>
      rw [ec] at ey
      cases ey
      have hi : i < 100 := by
        have := (List.getElem?_eq_some_iff.mp ec).1
        omega
      walk_at "rd"
      walk_at "md"
      walk_at "rd"
      walk_at "md"
      walk_at "rd"
      walk_at "md"
      walk_at "rd"
      refine r_I (.inr ⟨by omega, by omega⟩) ?_
      walk_at "rd"
      walk_at "ml"
      walk_at "rd"
      walk_at "md"
      refine ⟨letters, _, x, rfl, rfl, sz5 (by decide +kernel), (hc i x ec).2, q _ (Same.refl _)⟩
  · intro D H' hD s e
    walk_at "rd"
    refine ⟨"", D, cs.map fun x => (⟨#[x]⟩ : Str), rfl, rfl, .inl (SqL.of (by rw [e, List.map_map]; rfl)), ?_, ?_⟩
    · rw [sum_ones]
      show cs.length + (cs.map _).length * 0 ≤ _
      omega
    have it : isItem (Txt.join "" (cs.map fun c => (⟨#[c]⟩ : Str))) = true := item_join (fun x hx => by
      obtain ⟨i, hi⟩ := List.getElem?_of_mem hx
      exact (hc i x hi).1) (by omega)
    revert it
    generalize Txt.join "" (cs.map fun c => (⟨#[c]⟩ : Str)) = z
    intro it
    have zk : Zok z 60 := ⟨item_str it, by have := item_len it; omega⟩
    walk_at "rd"
    refine r_itd (fun c1 => ?_) (fun c1 => ?_)
    · walk_at "rd"
      exact k _ _ ⟨by decide +kernel, by decide +kernel⟩ (by decide +kernel) s
    · walk_at "rd"
      exact k _ _ zk c1 s
/-- what a tuple of a deed holds -/
def DForm (xs : List V) : Prop := xs = [] ∨ ∃ (w : Str) (ns : List Int), xs = .str w :: ns.map V.int ∧ w ≠ "order" ∧ Zok w 60 ∧ 1 ≤ ns.length ∧ ns.length ≤ 5
theorem lcp_far {te : TE} {j : Nat} {σ : L2.St} {H1 : Hp} {Q : VK} {n : Nat} (hz : n ≤ 1000)
    (he : ∀ (i : Nat) (H' : Hp) (W : VK), i < n → Same H1 H' → (∀ (m : Int) H'', Same H' H'' → W (.int m) H'') → te ((wipe σ [j]).set j (some (.int (i : Int)))) H' W)
    (k : ∀ (D : Addr) (H' : Hp) (ms : List Int), H1 D = none → Same H1 H' → ms.length = n → H' D = some (.lst (ms.map V.int)) → Q (.ref D) H') :
    ∃ m : Int, [V.int (n : Int)] = [V.int m] ∧ -(2 ^ 62) ≤ m ∧ m < 2 ^ 62 ∧ Lcs (Itr 0 m.toNat) (gName j) tYes te [j] σ H1 Q := by
  refine ⟨n, rfl, by omega, by omega, fun D hD => ?_⟩
  refine lc_range (lo := 0) (n := n) (fun i H' => Same H1 H' ∧ ∃ ms : List Int, ms.length = i ∧ H' D = some (.lst (ms.map V.int))) ⟨same_upd hD, [], rfl, upd_same⟩ ?_ ?_
  · rintro i H' hi ⟨s, ms, l, e⟩
    refine ⟨wipe1, r_yes (r_itT ?_)⟩
    rw [Int.zero_add]
    refine he i _ _ hi s fun m H'' s2 => ⟨_, s2 _ _ e, ?_, ?_, ms ++ [m], by simp [l], ?_⟩
    · refine sz5l ?_
      rw [List.length_map]
      omega
    · exact fun b o q => by
        rw [upd_ne (ne_of_none q hD)]
        exact s2 _ _ (s _ _ q)
    · rw [upd_same, List.map_append]; rfl
  · rintro H' ⟨s, ms, l, e⟩
    exact k D H' ms hD s l e
def spLDeedBy (K : PySem.W.Frag) : Sp := fun vs H Q _ => ∃ (s : Addr) (m : Int), vs = [.ref s, .int m] ∧ Script K H s ∧ 0 ≤ m ∧ ∀ t xs H', H' t = some (.tup xs) → DForm xs → Same H H' → Q (.ref t) H'
theorem len_LDeedBy {K : PySem.W.Frag} {vs : List V} {H : Hp} {Q : VK} {E : XK} (h : spLDeedBy K vs H Q E) : vs.length = 2 := by
  obtain ⟨_, _, rfl, _⟩ := h; rfl
theorem ok_LDeedBy {P : Program} {w : World} {K : PySem.W.Frag} {mg : Str → Option Value} {base : Heap} (T : Tx w K mg) : FnOk P w K mg base CX0 2 (He.fAd K dLDeedBy.at_) (fdO K dLDeedBy.at_) P_LDeedBy (spLDeedBy K) := by
  refine T.f_LDeedBy.ok sc_LDeedBy (fun vs H Q E h => len_LDeedBy h) (fun cdv A outer s H vs Q E hr h => ⟨_, PSs.nox ((pss_cons (ps_set (i := 2) sc_LDeedBy.nd rfl (Or.inl rfl) (pe_lst (pa_cons pe_str (pa_cons pe_str (pa_cons pe_str (pa_cons pe_str (pa_cons pe_str (pa_cons pe_str (pa_cons pe_str (pa_cons pe_str (pa_cons pe_str (pa_cons pe_str pa_nil))))))))))))
      (pss_cons (ps_set (i := 2) sc_LDeedBy.nd rfl (Or.inl rfl) (pe_op op_cat (pv 2) (pe_lst (pa_cons pe_str (pa_cons pe_str (pa_cons pe_str (pa_cons pe_str (pa_cons pe_str (pa_cons (pe_call (ok_LWordBy T) (hr.mono (by decide)) rfl T.g_LWordBy T.f_LWordBy.kp T.b_LWordBy .nil pass0 (pa_cons (pe_call (ok_LCellAt T) (hr.mono (by decide)) rfl T.g_LCellAt T.f_LCellAt.kp T.b_LCellAt .nil pass0 (pa_cons (pv 0) (pa_cons (pe_op op_add (pv 1) pe_int) pa_nil))) pa_nil)) pa_nil)))))))))
      (pss_cons (ps_set (i := 3) sc_LDeedBy.nd rfl (Or.inl rfl) (pe_ix ix_list (pv 2) (pe_op op_mod (pe_op op_mod (pe_op op_mul (pe_call (ok_LCellAt T) (hr.mono (by decide)) rfl T.g_LCellAt T.f_LCellAt.kp T.b_LCellAt .nil pass0 (pa_cons (pv 0) (pa_cons (pv 1) pa_nil))) pe_int) pe_int) pe_int) (fun _ _ => rfl)))
      (pss_cons (ps_set (i := 4) sc_LDeedBy.nd rfl (Or.inl rfl) pe_int)
      (pss_cons (ps_if (PW.pt (pw_or (pt_cmpR op_eq (pv 3) pe_str (nomark _)) (pw_or1 (pt_cmpR op_eq (pv 3) pe_str (nomark _))))) (pss_one (ps_set (i := 4) sc_LDeedBy.nd rfl (Or.inl rfl) pe_int)) pss_nil)
      (pss_cons (ps_set (i := 5) sc_LDeedBy.nd rfl (Or.inl rfl) (pe_call (ok_LCellAt T) (hr.mono (by decide)) rfl T.g_LCellAt T.f_LCellAt.kp T.b_LCellAt .nil pass0 (pa_cons (pv 0) (pa_cons (pe_op op_add (pv 1) pe_int) pa_nil))))
      (pss_cons (ps_if (PW.pt (pw_and (pt_cmpR op_eq (pv 3) pe_str (nomark _)) (pw_and1 (pt_cmpR op_eq (pe_op op_mod (pv 5) pe_int) pe_int (nomark _))))) (pss_one (ps_ret (pe_tup pa_nil))) pss_nil)
      (pss_cons (ps_if (pt_cmpR op_eq (pe_op op_mod (pv 5) pe_int) pe_int (nomark _)) (pss_one (ps_set (i := 4) sc_LDeedBy.nd rfl (Or.inl rfl) (pe_op op_sub (pv 4) pe_int))) pss_nil)
      (pss_cons (ps_if (pt_cmpR op_eq (pe_op op_mod (pv 5) pe_int) pe_int (nomark _)) (pss_one (ps_set (i := 4) sc_LDeedBy.nd rfl (Or.inl rfl) (pe_op op_add (pe_op op_add (pv 4) pe_int) (pe_op op_mod (pe_op op_fdiv (pv 5) pe_int) pe_int)))) pss_nil)
      (pss_cons (ps_setLc (i := 7) (own := [("_law_k", 6)]) (g := gName 6) (tt := tYes) rfl sc_LDeedBy.nd rfl rfl (sw_true rfl rfl rfl (by decide +kernel)) (pi_range1 (by rfl) T.b_range (pa_cons (pv 4) pa_nil)) (blkOk_by (N := N_LDeedBy) (sc := defScope sLDeedBy) (by decide +kernel)) (fun _ _ _ _ _ => pg_name (i := 6) sc_LDeedBy.nd rfl (Or.inl rfl)) (fun _ _ _ _ _ => pts_nil) (fun _ _ _ _ _ => (pe_call (ok_LFarBy T) (hr.mono (by decide)) rfl T.g_LFarBy T.f_LFarBy.kp T.b_LFarBy .nil pass0 (pa_cons (pe_call (ok_LCellAt T) (hr.mono (by decide)) rfl T.g_LCellAt T.f_LCellAt.kp T.b_LCellAt .nil pass0 (pa_cons (pv 0) (pa_cons (pe_op op_add (pe_op op_add (pv 1) pe_int) (pv 6)) pa_nil))) pa_nil))))
      (pss_cons (ps_set (i := 8) sc_LDeedBy.nd rfl (Or.inl rfl) (pe_call (ok_LCellAt T) (hr.mono (by decide)) rfl T.g_LCellAt T.f_LCellAt.kp T.b_LCellAt .nil pass0 (pa_cons (pv 0) (pa_cons (pe_op op_add (pv 1) pe_int) pa_nil))))
      (pss_cons (ps_if (PW.pt (pw_and (pt_cmpR op_gt (pv 4) pe_int (nomark _)) (pw_and1 (pt_cmpR op_gt (pe_op op_mod (pv 8) pe_int) pe_int (nomark _))))) (pss_one (ps_asg (pe_op op_sub (pe_op op_mod (pe_op op_fdiv (pv 8) pe_int) pe_int) pe_int) (pg_sub (pv 7) (pe_op op_sub (pv 4) pe_int) set_list))) pss_nil)
      (pss_cons (ps_if (PW.pt (pw_and (pt_cmpR op_eq (pv 3) pe_str (nomark _)) (pw_and (pt_cmpR op_gt (pv 4) pe_int (nomark _)) (pw_and1 (pt_cmpR op_eq (pe_op op_mod (pe_op op_fdiv (pv 5) pe_int) pe_int) pe_int (nomark _)))))) (pss_one (ps_asg (pe_ix ix_list (pv 7) pe_int (fun _ _ => rfl)) (pg_sub (pv 7) pe_int set_list))) pss_nil)
      (pss_one (ps_ret (pe_callTy call_tuple_of (by rfl) T.b_tuple (by decide +kernel) (pa_cons (pe_op op_cat (pe_lst (pa_cons (pv 3) pa_nil)) (pv 7)) pa_nil)))))))))))))))))), ?_⟩)
  obtain ⟨s, m, rfl, scr, hm, k⟩ := h
  walk_at "rd"
  refine r_mk (by simp) fun l1 hl1 => ?_
  have s1 := same_upd (o := .lst [.str "deliver", .str "back", .str "swap", .str "credit", .str "pay", .str "refund", .str "move", .str "orders", .str "", .str "Pay"]) hl1
  have e1 : upd H l1 (.lst [.str "deliver", .str "back", .str "swap", .str "credit", .str "pay", .str "refund", .str "move", .str "orders", .str "", .str "Pay"]) l1 = some (.lst [.str "deliver", .str "back", .str "swap", .str "credit", .str "pay", .str "refund", .str "move", .str "orders", .str "", .str "Pay"]) := upd_same
  revert s1 e1
  generalize upd H l1 _ = H1
  intro s1 e1
  walk_at "rd"
  refine ⟨s, _, rfl, scr.same s1, by omega, fun c2 => ?_⟩
  walk_at "rd"
  refine ⟨_, rfl, fun dw H2 zk nord s2 => ?_⟩
  walk_at "rd"
  refine r_mk (by simp) fun l3 hl3 => ?_
  have s3 := same_upd (o := .lst [.str "deliver ", .str "move", .str "move", .str "net", .str "undo", .str dw]) hl3
  refine ⟨l1, l3, _, _, rfl, rfl, s3 _ _ (s2 _ _ e1), upd_same, by show 10 + 6 ≤ sizeLine; exact sz5 (by decide), fun l4 hl4 => ?_⟩
  have s4 := same_upd (o := .lst ([.str "deliver", .str "back", .str "swap", .str "credit", .str "pay", .str "refund", .str "move", .str "orders", .str "", .str "Pay"] ++ [.str "deliver ", .str "move", .str "move", .str "net", .str "undo", .str dw])) hl4
  have sH := ((s1.trans s2).trans s3).trans s4
  have e4 : upd (upd H2 l3 (.lst [.str "deliver ", .str "move", .str "move", .str "net", .str "undo", .str dw])) l4 (.lst ([.str "deliver", .str "back", .str "swap", .str "credit", .str "pay", .str "refund", .str "move", .str "orders", .str "", .str "Pay"] ++ [.str "deliver ", .str "move", .str "move", .str "net", .str "undo", .str dw])) l4 = _ := upd_same
  revert sH e4
  generalize upd (upd H2 l3 _) l4 _ = H4
  intro sH e4
  have scr4 := scr.same sH
  walk_at "rd"
  refine ⟨s, _, rfl, scr4, hm, fun c5 => ?_⟩
  walk_at "rd"
  walk_at "ml"
  walk_at "rd"
  walk_at "md"
  walk_at "rd"
  walk_at "md"
  obtain ⟨v, hv, ev⟩ := ix_mod (xs := [V.str "deliver", .str "back", .str "swap", .str "credit", .str "pay", .str "refund", .str "move", .str "orders", .str "", .str "Pay"] ++ [.str "deliver ", .str "move", .str "move", .str "net", .str "undo", .str dw]) 16 rfl (by decide) (c5 * 48271 % 10007)
  obtain ⟨w', rfl, zw, nw⟩ : ∃ w' : Str, v = .str w' ∧ Zok w' 60 ∧ w' ≠ "order" := by
    simp at hv
    rcases hv with h | h | h | h | h | h | h | h | h | h | h | h | h | h | h
    all_goals first | exact ⟨_, h, zk, nord⟩ | exact ⟨_, h, ⟨by decide +kernel, by decide +kernel⟩, by decide +kernel⟩
  refine r_ixL (SqL.of e4) ev ?_
  walk_at "rs"
  walk_at "rd1"
  walk_at "rs"
  with_reducible refine r_join (fun σ' H' => H4 = H' ∧ ∃ z : Int, 2 ≤ z ∧ z ≤ 3 ∧ σ' = [some (.ref s), some (.int m), some (.ref l4), some (.str w'), some (.int z), none, none, none, none]) ?_ fun N hN => ?_
  rotate_left
  · walk_at "rd"
    refine r_itd (fun _ => ?_) (fun _ => ?_)
    · walk_at "rd"
      exact hN _ _ ⟨rfl, 2, by decide, by decide, rfl⟩
    walk_at "rd"
    refine r_itd (fun _ => ?_) (fun _ => ?_)
    · walk_at "rd"
      exact hN _ _ ⟨rfl, 2, by decide, by decide, rfl⟩
    walk_at "rd"
    exact hN _ _ ⟨rfl, 3, by decide, by decide, rfl⟩
  rintro σ' _ ⟨rfl, z, z1, z2, rfl⟩
  walk_at "rd"
  refine ⟨s, _, rfl, scr4, by omega, fun c6 => ?_⟩
  walk_at "rs"
  with_reducible refine r_join (fun σ' H' => H4 = H' ∧ σ' = [some (.ref s), some (.int m), some (.ref l4), some (.str w'), some (.int z), some (.int c6), none, none, none]) ?_ fun N hN => ?_
  rotate_left
  · walk_at "rd"
    refine r_itd (fun _ => ?_) (fun _ => ?_)
    · walk_at "rd"
      walk_at "md"
      walk_at "rd"
      refine r_itd (fun _ => ?_) (fun _ => ?_)
      · walk_at "rd"
        exact r_mk (by simp) fun t ht => k t [] _ upd_same (.inl rfl) (sH.trans (same_upd ht))
      · walk_at "rd"
        exact hN _ _ ⟨rfl, rfl⟩
    · walk_at "rd"
      exact hN _ _ ⟨rfl, rfl⟩
  rintro σ' _ ⟨rfl, rfl⟩
  walk_at "rs"
  with_reducible refine r_join (fun σ' H' => H4 = H' ∧ ∃ z : Int, 1 ≤ z ∧ z ≤ 3 ∧ σ' = [some (.ref s), some (.int m), some (.ref l4), some (.str w'), some (.int z), some (.int c6), none, none, none]) ?_ fun N hN => ?_
  rotate_left
  · walk_at "rd"
    walk_at "md"
    walk_at "rd"
    refine r_itd (fun _ => ?_) (fun _ => ?_)
    · walk_at "rd"
      exact hN _ _ ⟨rfl, _, by omega, by omega, rfl⟩
    · walk_at "rd"
      exact hN _ _ ⟨rfl, z, by omega, by omega, rfl⟩
  clear z1 z2
  rintro σ' _ ⟨rfl, z, z1, z2, rfl⟩
  walk_at "rs"
  with_reducible refine r_join (fun σ' H' => H4 = H' ∧ ∃ n : Nat, 1 ≤ n ∧ n ≤ 5 ∧ σ' = [some (.ref s), some (.int m), some (.ref l4), some (.str w'), some (.int (n : Int)), some (.int c6), none, none, none]) ?_ fun N hN => ?_
  rotate_left
  · walk_at "rd"
    walk_at "md"
    walk_at "rd"
    refine r_itd (fun _ => ?_) (fun _ => ?_)
    · walk_at "rd"
      walk_at "md"
      walk_at "rd"
      walk_at "md"
      walk_at "rd"
      have e : z + 1 + c6 / 8 % 2 = (((z + 1 + c6 / 8 % 2).toNat : Nat) : Int) := by omega
      rw [e]
      exact hN _ _ ⟨rfl, _, by omega, by omega, rfl⟩
    · walk_at "rd"
      have e : z = ((z.toNat : Nat) : Int) := by omega
      rw [e]
      exact hN _ _ ⟨rfl, _, by omega, by omega, rfl⟩
  clear z1 z2
  rintro σ' _ ⟨rfl, n, n1, n2, rfl⟩
  walk_at "rd"
  refine lcp_far (by omega) ?_ ?_
  · intro i H' W hi s5 q
    walk_at "rd"
    refine ⟨s, _, rfl, scr4.same s5, by omega, fun c7 => ?_⟩
    walk_at "rd"
    refine ⟨_, rfl, fun x H'' s6 => ?_⟩
    exact q x H'' s6
  intro D H5 ms hD s5 lm eD
  walk_at "rd"
  refine ⟨s, _, rfl, scr4.same s5, by omega, fun c8 => ?_⟩
  walk_at "rs"
  with_reducible refine r_join (fun σ' H' => ∃ ms' : List Int, ms'.length = n ∧ H' D = some (.lst (ms'.map V.int)) ∧ But (· = D) H5 H' ∧ σ' = [some (.ref s), some (.int m), some (.ref l4), some (.str w'), some (.int (n : Int)), some (.int c6), none, some (.ref D), some (.int c8)]) ?_ fun N hN => ?_
  rotate_left
  · walk_at "rd"
    refine r_ity (by omega) ?_
    walk_at "rd"
    walk_at "md"
    walk_at "rd"
    refine r_itd (fun _ => ?_) (fun _ => ?_)
    · walk_at "rd"
      walk_at "md"
      walk_at "rd"
      walk_at "md"
      walk_at "rd"
      refine r_setL (j := n - 1) eD (by omega) (by rw [List.length_map]; omega) ?_
      walk_at "rd"
      exact hN _ _ ⟨ms.set (n - 1) (c8 / 4 % 9 - 1), by simp [lm], by rw [upd_same, List.map_set], But.lst eD rfl, rfl⟩
    · walk_at "rd"
      exact hN _ _ ⟨ms, lm, eD, But.refl, rfl⟩
  rintro σ' H6 ⟨ms6, lm6, eD6, b6, rfl⟩
  walk_at "rs"
  with_reducible refine r_join (fun σ' H' => ∃ ms' : List Int, ms'.length = n ∧ H' D = some (.lst (ms'.map V.int)) ∧ But (· = D) H5 H' ∧ σ' = [some (.ref s), some (.int m), some (.ref l4), some (.str w'), some (.int (n : Int)), some (.int c6), none, some (.ref D), some (.int c8)]) ?_ fun N hN => ?_
  rotate_left
  · have stay : N [some (.ref s), some (.int m), some (.ref l4), some (.str w'), some (.int (n : Int)), some (.int c6), none, some (.ref D), some (.int c8)] H6 := hN _ _ ⟨ms6, lm6, eD6, b6, rfl⟩
    walk_at "rd"
    refine r_itd (fun _ => ?_) (fun _ => ?_)
    rotate_left
    · walk_at "rd"
      exact stay
    walk_at "rd"
    refine r_itd (fun n3 => ?_) (fun _ => ?_)
    rotate_left
    · walk_at "rd"
      exact stay
    walk_at "rd"
    walk_at "md"
    walk_at "rd"
    walk_at "md"
    walk_at "rd"
    refine r_itd (fun _ => ?_) (fun _ => ?_)
    rotate_left
    · walk_at "rd"
      exact stay
    walk_at "rd"
    obtain ⟨x, ex⟩ : ∃ x, ms6[0]? = some x := ⟨_, List.getElem?_eq_getElem (by omega)⟩
    refine r_ixL (SqL.of eD6) (atI_get (j := 0) rfl (by rw [List.getElem?_map, ex]; rfl)) ?_
    walk_at "rd"
    refine r_setL (j := 1) eD6 rfl (by rw [List.length_map]; omega) ?_
    walk_at "rd"
    exact hN _ _ ⟨ms6.set 1 x, by simp [lm6], by rw [upd_same, List.map_set], b6.trans (But.lst eD6 rfl), rfl⟩
  clear lm6 eD6 b6
  rintro σ' H7 ⟨ms7, lm7, eD7, b7, rfl⟩
  walk_at "rd"
  refine r_mk (by simp) fun l8 hl8 => ?_
  have s8 := same_upd (o := .lst [.str w']) hl8
  walk_at "rd"
  refine ⟨l8, D, _, _, rfl, rfl, upd_same, s8 _ _ eD7, by show 1 + (ms7.map V.int).length ≤ sizeLine; exact sz5 (by rw [List.length_map]; omega), fun l9 hl9 => ?_⟩
  have s9 := same_upd (o := .lst ([.str w'] ++ ms7.map V.int)) hl9
  walk_at "rd"
  refine ⟨l9, _, rfl, .inl ⟨SqL.of upd_same, fun t ht => ?_⟩⟩
  have s10 := same_upd (o := .tup ([.str w'] ++ ms7.map V.int)) ht
  refine k t _ _ upd_same (.inr ⟨w', ms7, rfl, nw, zw, by omega, by omega⟩) fun x o e => s10 _ _ (s9 _ _ (s8 _ _ (b7.keep _ _ (s5 _ _ (sH _ _ e)) (ne_of_none (sH _ _ e) hD))))

/-! ### what is due, in plain -/
def dOfV : List V → Option Dd
  | [.str w, .int o, .int n] => if w = "pay" ∨ w = "refund" then some (.mo w o n) else none
  | [.str w, .int o, .int l, .int n] => if w = "move" then some (.mv o l n) else if w = "deliver" ∨ w = "back" ∨ w = "swap" ∨ w = "credit" then some (.ln w o l n) else none
  | _ => none
theorem parts_of {w : Str} (no : w ≠ "order") : (parts.lookup w = none ∧ ¬ wLn w ∧ w ≠ "move" ∧ ¬ (w = "pay" ∨ w = "refund")) ∨ (parts.lookup w = some 4 ∧ wLn w) ∨ (parts.lookup w = some 4 ∧ w = "move") ∨ (parts.lookup w = some 3 ∧ (w = "pay" ∨ w = "refund")) := by
  by_cases h1 : wLn w
  · refine .inr (.inl ⟨?_, h1⟩)
    rcases h1 with rfl | rfl | rfl | rfl <;> decide +kernel
  by_cases h2 : w = "move"
  · refine .inr (.inr (.inl ⟨?_, h2⟩))
    subst h2; decide +kernel
  by_cases h3 : w = "pay" ∨ w = "refund"
  · refine .inr (.inr (.inr ⟨?_, h3⟩))
    rcases h3 with rfl | rfl <;> decide +kernel
  refine .inl ⟨?_, h1, h2, h3⟩
  cases e : parts.lookup w with
  | none => rfl
  | some n =>
    exfalso
    have hm := lookup_mem e
    unfold parts at hm
    simp only [List.mem_cons, Prod.mk.injEq, List.not_mem_nil, or_false] at hm
    rcases hm with h | h | h | h | h | h | h | h
    · exact no h.1
    · exact h1 (.inl h.1)
    · exact h1 (.inr (.inl h.1))
    · exact h1 (.inr (.inr (.inl h.1)))
    · exact h1 (.inr (.inr (.inr h.1)))
    · exact h3 (.inl h.1)
    · exact h3 (.inr h.1)
    · exact h2 h.1
theorem move_ln : ¬ wLn "move" := by
  unfold wLn; decide +kernel
theorem money_ln {w : Str} (h : w = "pay" ∨ w = "refund") : ¬ wLn w ∧ w ≠ "move" := by
  rcases h with rfl | rfl <;> exact ⟨by unfold wLn; decide +kernel, by decide +kernel⟩
theorem ln_not {w : Str} (h : wLn w) : w ≠ "move" ∧ ¬ (w = "pay" ∨ w = "refund") := by
  rcases h with rfl | rfl | rfl | rfl <;> exact ⟨by decide +kernel, by decide +kernel⟩
/-- what a tuple of a deed is -/
theorem dform_cases {xs : List V} (h : DForm xs) : (dOfV xs = none ∧ Bad xs) ∨ ∃ d, dOfV xs = some d ∧ d.good ∧ d.few ∧ (∀ ls, d ≠ .ord ls) ∧ ∀ (F : Addr → Prop) (H : Hp) (t : Addr), H t = some (.tup xs) → DdAt F H (.ref t) d := by
  rcases h with rfl | ⟨w, ns, rfl, no, _, l1, l5⟩
  · exact .inl ⟨rfl, .inl rfl⟩
  rcases parts_of no with ⟨e, a1, a2, a3⟩ | ⟨e, a⟩ | ⟨e, a⟩ | ⟨e, a⟩
  · refine .inl ⟨?_, .inr ⟨w, _, rfl, by rw [e]; exact fun z => nomatch z⟩⟩
    match ns, l1, l5 with
    | [o], _, _ => rfl
    | [o, n], _, _ => exact if_neg a3
    | [o, l, n], _, _ => exact (if_neg a2).trans (if_neg a1)
    | [o, l, n, m], _, _ => rfl
    | [o, l, n, m, k], _, _ => rfl
  · match ns, l1, l5 with
    | [o], _, _ => exact .inl ⟨rfl, .inr ⟨w, _, rfl, by rw [e]; show some (4 : Int) ≠ some 2; decide⟩⟩
    | [o, n], _, _ => exact .inl ⟨if_neg (ln_not a).2, .inr ⟨w, _, rfl, by rw [e]; show some (4 : Int) ≠ some 3; decide⟩⟩
    | [o, l, n], _, _ => exact .inr ⟨.ln w o l n, (if_neg (ln_not a).1).trans (if_pos a), a, trivial, (fun ls z => nomatch z), fun F H t ht => ⟨t, rfl, ht⟩⟩
    | [o, l, n, m], _, _ => exact .inl ⟨rfl, .inr ⟨w, _, rfl, by rw [e]; show some (4 : Int) ≠ some 5; decide⟩⟩
    | [o, l, n, m, k], _, _ => exact .inl ⟨rfl, .inr ⟨w, _, rfl, by rw [e]; show some (4 : Int) ≠ some 6; decide⟩⟩
  · match ns, l1, l5 with
    | [o], _, _ => exact .inl ⟨rfl, .inr ⟨_, _, rfl, by rw [e]; show some (4 : Int) ≠ some 2; decide⟩⟩
    | [o, n], _, _ => exact .inl ⟨if_neg (fun z => (money_ln z).2 a), .inr ⟨_, _, rfl, by rw [e]; show some (4 : Int) ≠ some 3; decide⟩⟩
    | [o, l, n], _, _ => exact .inr ⟨.mv o l n, if_pos a, trivial, trivial, (fun ls z => nomatch z), fun F H t ht => ⟨t, rfl, by rw [← a]; exact ht⟩⟩
    | [o, l, n, m], _, _ => exact .inl ⟨rfl, .inr ⟨_, _, rfl, by rw [e]; show some (4 : Int) ≠ some 5; decide⟩⟩
    | [o, l, n, m, k], _, _ => exact .inl ⟨rfl, .inr ⟨_, _, rfl, by rw [e]; show some (4 : Int) ≠ some 6; decide⟩⟩
  · match ns, l1, l5 with
    | [o], _, _ => exact .inl ⟨rfl, .inr ⟨w, _, rfl, by rw [e]; show some (3 : Int) ≠ some 2; decide⟩⟩
    | [o, n], _, _ => exact .inr ⟨.mo w o n, if_pos a, a, trivial, (fun ls z => nomatch z), fun F H t ht => ⟨t, rfl, ht⟩⟩
    | [o, l, n], _, _ => exact .inl ⟨(if_neg (money_ln a).2).trans (if_neg (money_ln a).1), .inr ⟨w, _, rfl, by rw [e]; show some (3 : Int) ≠ some 4; decide⟩⟩
    | [o, l, n, m], _, _ => exact .inl ⟨rfl, .inr ⟨w, _, rfl, by rw [e]; show some (3 : Int) ≠ some 5; decide⟩⟩
    | [o, l, n, m, k], _, _ => exact .inl ⟨rfl, .inr ⟨w, _, rfl, by rw [e]; show some (3 : Int) ≠ some 6; decide⟩⟩
def resD : Res → Str
  | .error e => e.name
  | .ok _ => ""
def dueD (es : List Od) (d : Dd) : Str := resD (step es d)
def dueX (es : List Od) (xs : List V) : Str := match dOfV xs with
  | none => "NoDeed"
  | some d => dueD es d
def o0 (s m : Int) (k : List (Str × Int)) : Od := ⟨[⟨"pen", 6, 100, 1, s, 0, 0, 0⟩], m, k⟩
def o1 (s t m : Int) (k : List (Str × Int)) : Od := ⟨[⟨"cup", 3, 50, 2, s, 0, 0, 0⟩, ⟨"box", 2, 7, 1, t, 0, 0, 0⟩], m, k⟩
theorem ow0 {s m : Int} {k : List (Str × Int)} : (o0 s m k).owing = s * 100 - m := by
  show ((s - 0) * 100 / 1 - 0) + 0 - m = s * 100 - m
  omega
theorem ow1 {s t m : Int} {k : List (Str × Int)} : (o1 s t m k).owing = s * 50 / 2 + t * 7 - m := by
  show ((s - 0) * 50 / 2 - 0) + (((t - 0) * 7 / 1 - 0) + 0) - m = s * 50 / 2 + t * 7 - m
  omega
def pick3 (k a b c : Int) : Int := if k = 0 then a else if k = 1 then b else c
def mostLn (w : Str) (k s0 s1 s2 : Int) : Int := if w = "deliver" then pick3 k (6 - s0) (3 - s1) (2 - s2) else if w = "credit" then pick3 k (s0 * 100) (s1 * 50 / 2) (s2 * 7) else pick3 k s0 s1 s2
def over3 (o s0 s1 s2 m0 m1 : Int) : Int := if o = 0 then m0 - s0 * 100 else m1 - s1 * 50 / 2 - s2 * 7
theorem turn_due {l : Ln} {w : Str} {n : Int} (h : l.home = 0 ∧ l.again = 0 ∧ l.credited = 0) (c : Int) (hc : c = if w = "deliver" then l.ordered - l.sent else if w = "credit" then l.sent * l.cents / l.pack else l.sent) :
    (n > c → l.turn w n = none) ∧ (n ≤ c → ∃ l', l.turn w n = some l') := by
  obtain ⟨h1, h2, h3⟩ := h
  have e1 : l.toCome = l.ordered - l.sent := by
    show l.ordered - l.sent + l.again = _
    omega
  have e2 : l.charge = l.sent * l.cents / l.pack := by
    show (l.sent - l.home) * l.cents / l.pack - l.credited = _
    rw [h1, h3, Int.sub_zero, Int.sub_zero]
  have e3 : l.kept = l.sent := by
    show l.sent - l.home = _
    omega
  unfold Ln.turn
  by_cases c1 : w = "deliver"
  · rw [if_pos c1] at hc ⊢
    unfold Ln.deliver
    rw [e1, ← hc]
    exact ⟨fun z => if_pos z, fun z => ⟨_, if_neg (by omega)⟩⟩
  rw [if_neg c1] at hc ⊢
  by_cases c2 : w = "credit"
  · rw [if_pos c2] at hc ⊢
    unfold Ln.reduce
    rw [e2, ← hc]
    exact ⟨fun z => if_pos z, fun z => ⟨_, if_neg (by omega)⟩⟩
  rw [if_neg c2] at hc ⊢
  unfold Ln.bring
  rw [e3, ← hc]
  exact ⟨fun z => if_pos z, fun z => ⟨_, if_neg (by omega)⟩⟩
/-- two orders as the law begins them -/
def Two (es : List Od) (s0 s1 s2 m0 m1 : Int) : Prop := ∃ k0 k1, es = [o0 s0 m0 k0, o1 s1 s2 m1 k1]
theorem two_at {es : List Od} {s0 s1 s2 m0 m1 : Int} (h : Two es s0 s1 s2 m0 m1) {j : Nat} {o : Od} (e : es[j]? = some o) : (j = 0 ∧ ∃ k, o = o0 s0 m0 k) ∨ (j = 1 ∧ ∃ k, o = o1 s1 s2 m1 k) := by
  obtain ⟨k0, k1, rfl⟩ := h
  match j, e with
  | 0, e => exact .inl ⟨rfl, k0, (Option.some.inj e).symm⟩
  | 1, e => exact .inr ⟨rfl, k1, (Option.some.inj e).symm⟩
theorem two_len {es : List Od} {s0 s1 s2 m0 m1 : Int} (h : Two es s0 s1 s2 m0 m1) : es.length = 2 := by
  obtain ⟨k0, k1, rfl⟩ := h; rfl
theorem at_two {es : List Od} {s0 s1 s2 m0 m1 : Int} (h : Two es s0 s1 s2 m0 m1) (o : Int) : (¬ (0 ≤ o ∧ o < 2) ∧ at_ es o = none) ∨ (o = 0 ∧ ∃ k, at_ es o = some (0, o0 s0 m0 k)) ∨ (o = 1 ∧ ∃ k, at_ es o = some (1, o1 s1 s2 m1 k)) := by
  rcases at_or es o with ⟨q, n⟩ | ⟨j, x, rfl, ex, q⟩
  · rw [two_len h] at n
    exact .inl ⟨n, q⟩
  · rcases two_at h ex with ⟨rfl, k, rfl⟩ | ⟨rfl, k, rfl⟩
    · exact .inr (.inl ⟨rfl, k, q⟩)
    · exact .inr (.inr ⟨rfl, k, q⟩)
theorem due_ln {es : List Od} {s0 s1 s2 m0 m1 : Int} (h : Two es s0 s1 s2 m0 m1) {w : Str} (g : wLn w) (o l n : Int) :
    (¬ (0 ≤ o ∧ o < 2) → dueD es (.ln w o l n) = "NoOrder") ∧ (0 ≤ o ∧ o < 2 → ¬ (0 ≤ l ∧ l ≤ o) → dueD es (.ln w o l n) = "NoLine") ∧
    (0 ≤ o ∧ o < 2 → 0 ≤ l ∧ l ≤ o → n < 1 → dueD es (.ln w o l n) = "NoNumber") ∧ (0 ≤ o ∧ o < 2 → 0 ≤ l ∧ l ≤ o → 1 ≤ n → n > mostLn w (o + l) s0 s1 s2 → dueD es (.ln w o l n) = "TooMuch") ∧
    (0 ≤ o ∧ o < 2 → 0 ≤ l ∧ l ≤ o → 1 ≤ n → ¬ n > mostLn w (o + l) s0 s1 s2 → dueD es (.ln w o l n) = "") := by
  have e : dueD es (.ln w o l n) = resD (stepLn es w o l n) := rfl
  rw [e]
  unfold stepLn
  rcases at_two h o with ⟨no, q⟩ | ⟨rfl, k, q⟩ | ⟨rfl, k, q⟩
  · rw [q]
    exact ⟨fun _ => rfl, fun z => absurd z no, fun z => absurd z no, fun z => absurd z no, fun z => absurd z no⟩
  · rw [q]
    dsimp only
    by_cases hl : l = 0
    · subst hl
      rw [show at_ (o0 s0 m0 k).lines 0 = some (0, ⟨"pen", 6, 100, 1, s0, 0, 0, 0⟩) from at_0]
      dsimp only
      have td := turn_due (l := ⟨"pen", 6, 100, 1, s0, 0, 0, 0⟩) (w := w) (n := n) ⟨rfl, rfl, rfl⟩ (mostLn w (0 + 0) s0 s1 s2) (by
        show mostLn w 0 s0 s1 s2 = if w = "deliver" then 6 - s0 else if w = "credit" then s0 * 100 / 1 else s0
        rw [Int.ediv_one]
        rfl)
      refine ⟨fun z => absurd ⟨by decide, by decide⟩ z, fun _ z => absurd ⟨by decide, by decide⟩ z, fun _ _ z => ?_, fun _ _ z y => ?_, fun _ _ z y => ?_⟩
      · rw [if_pos z]; rfl
      · rw [if_neg (by omega), td.1 y]; rfl
      · obtain ⟨l', el⟩ := td.2 (by omega)
        rw [if_neg (by omega), el]; rfl
    · have no : ¬ (0 ≤ l ∧ l ≤ 0) := by omega
      rw [at_none (xs := (o0 s0 m0 k).lines) (n := l) (by show ¬ (0 ≤ l ∧ l < ((1 : Nat) : Int)); omega)]
      exact ⟨fun z => absurd ⟨by decide, by decide⟩ z, fun _ _ => rfl, fun _ z => absurd z no, fun _ z => absurd z no, fun _ z => absurd z no⟩
  · rw [q]
    dsimp only
    by_cases hl : l = 0
    · subst hl
      rw [show at_ (o1 s1 s2 m1 k).lines 0 = some (0, ⟨"cup", 3, 50, 2, s1, 0, 0, 0⟩) from at_0]
      dsimp only
      have td := turn_due (l := ⟨"cup", 3, 50, 2, s1, 0, 0, 0⟩) (w := w) (n := n) ⟨rfl, rfl, rfl⟩ (mostLn w (1 + 0) s0 s1 s2) rfl
      refine ⟨fun z => absurd ⟨by decide, by decide⟩ z, fun _ z => absurd ⟨by decide, by decide⟩ z, fun _ _ z => ?_, fun _ _ z y => ?_, fun _ _ z y => ?_⟩
      · rw [if_pos z]; rfl
      · rw [if_neg (by omega), td.1 y]; rfl
      · obtain ⟨l', el⟩ := td.2 (by omega)
        rw [if_neg (by omega), el]; rfl
    by_cases hl2 : l = 1
    · subst hl2
      rw [show at_ (o1 s1 s2 m1 k).lines 1 = some (1, ⟨"box", 2, 7, 1, s2, 0, 0, 0⟩) from at_some (j := 1) rfl]
      dsimp only
      have td := turn_due (l := ⟨"box", 2, 7, 1, s2, 0, 0, 0⟩) (w := w) (n := n) ⟨rfl, rfl, rfl⟩ (mostLn w (1 + 1) s0 s1 s2) (by
        show mostLn w 2 s0 s1 s2 = if w = "deliver" then 2 - s2 else if w = "credit" then s2 * 7 / 1 else s2
        rw [Int.ediv_one]
        rfl)
      refine ⟨fun z => absurd ⟨by decide, by decide⟩ z, fun _ z => absurd ⟨by decide, by decide⟩ z, fun _ _ z => ?_, fun _ _ z y => ?_, fun _ _ z y => ?_⟩
      · rw [if_pos z]; rfl
      · rw [if_neg (by omega), td.1 y]; rfl
      · obtain ⟨l', el⟩ := td.2 (by omega)
        rw [if_neg (by omega), el]; rfl
    · have no : ¬ (0 ≤ l ∧ l ≤ 1) := by omega
      rw [at_none (xs := (o1 s1 s2 m1 k).lines) (n := l) (by show ¬ (0 ≤ l ∧ l < ((2 : Nat) : Int)); omega)]
      exact ⟨fun z => absurd ⟨by decide, by decide⟩ z, fun _ _ => rfl, fun _ z => absurd z no, fun _ z => absurd z no, fun _ z => absurd z no⟩
theorem due_mo {es : List Od} {s0 s1 s2 m0 m1 : Int} (h : Two es s0 s1 s2 m0 m1) {w : Str} (o n : Int) :
    (¬ (0 ≤ o ∧ o < 2) → dueD es (.mo w o n) = "NoOrder") ∧ (0 ≤ o ∧ o < 2 → n < 1 → dueD es (.mo w o n) = "NoNumber") ∧ (0 ≤ o ∧ o < 2 → 1 ≤ n → w = "pay" → dueD es (.mo w o n) = "") ∧
    (0 ≤ o ∧ o < 2 → 1 ≤ n → w ≠ "pay" → n > over3 o s0 s1 s2 m0 m1 → dueD es (.mo w o n) = "TooMuch") ∧ (0 ≤ o ∧ o < 2 → 1 ≤ n → w ≠ "pay" → ¬ n > over3 o s0 s1 s2 m0 m1 → dueD es (.mo w o n) = "") := by
  have e : dueD es (.mo w o n) = resD (stepMo es w o n) := rfl
  rw [e]
  unfold stepMo
  rcases at_two h o with ⟨no, q⟩ | ⟨rfl, k, q⟩ | ⟨rfl, k, q⟩
  · rw [q]
    exact ⟨fun _ => rfl, fun z => absurd z no, fun z => absurd z no, fun z => absurd z no, fun z => absurd z no⟩
  · rw [q]
    dsimp only
    have ov : -(o0 s0 m0 k).owing = over3 0 s0 s1 s2 m0 m1 := by
      rw [ow0]
      show _ = m0 - s0 * 100
      omega
    rw [ov]
    refine ⟨fun z => absurd ⟨by decide, by decide⟩ z, fun _ z => ?_, fun _ z y => ?_, fun _ z y x => ?_, fun _ z y x => ?_⟩
    · rw [if_pos z]; rfl
    · rw [if_neg (by omega), if_pos y]; rfl
    · rw [if_neg (by omega), if_neg y, if_pos x]; rfl
    · rw [if_neg (by omega), if_neg y, if_neg x]; rfl
  · rw [q]
    dsimp only
    have ov : -(o1 s1 s2 m1 k).owing = over3 1 s0 s1 s2 m0 m1 := by
      rw [ow1]
      show _ = m1 - s1 * 50 / 2 - s2 * 7
      omega
    rw [ov]
    refine ⟨fun z => absurd ⟨by decide, by decide⟩ z, fun _ z => ?_, fun _ z y => ?_, fun _ z y x => ?_, fun _ z y x => ?_⟩
    · rw [if_pos z]; rfl
    · rw [if_neg (by omega), if_pos y]; rfl
    · rw [if_neg (by omega), if_neg y, if_pos x]; rfl
    · rw [if_neg (by omega), if_neg y, if_neg x]; rfl
theorem due_mv {es : List Od} {s0 s1 s2 m0 m1 : Int} (h : Two es s0 s1 s2 m0 m1) (o p n : Int) :
    (¬ (0 ≤ o ∧ o < 2) → dueD es (.mv o p n) = "NoOrder") ∧ (¬ (0 ≤ p ∧ p < 2) → dueD es (.mv o p n) = "NoOrder") ∧ (0 ≤ o ∧ o < 2 → 0 ≤ p ∧ p < 2 → o = p → dueD es (.mv o p n) = "SameOrder") ∧
    (0 ≤ o ∧ o < 2 → 0 ≤ p ∧ p < 2 → ¬ o = p → n < 1 → dueD es (.mv o p n) = "NoNumber") ∧ (0 ≤ o ∧ o < 2 → 0 ≤ p ∧ p < 2 → ¬ o = p → 1 ≤ n → n > over3 o s0 s1 s2 m0 m1 → dueD es (.mv o p n) = "TooMuch") ∧
    (0 ≤ o ∧ o < 2 → 0 ≤ p ∧ p < 2 → ¬ o = p → 1 ≤ n → ¬ n > over3 o s0 s1 s2 m0 m1 → dueD es (.mv o p n) = "") := by
  have e : dueD es (.mv o p n) = resD (stepMv es o p n) := rfl
  rw [e]
  unfold stepMv
  have hp : (¬ (0 ≤ p ∧ p < 2) ∧ at_ es p = none) ∨ ((0 ≤ p ∧ p < 2) ∧ ∃ x, at_ es p = some x) := by
    rcases at_two h p with ⟨no, q⟩ | ⟨rfl, k, q⟩ | ⟨rfl, k, q⟩
    · exact .inl ⟨no, q⟩
    · exact .inr ⟨⟨by decide, by decide⟩, _, q⟩
    · exact .inr ⟨⟨by decide, by decide⟩, _, q⟩
  have main : ∀ (j : Nat) (a : Od), (0 ≤ o ∧ o < 2) → at_ es o = some (j, a) → -a.owing = over3 o s0 s1 s2 m0 m1 → (¬ (0 ≤ o ∧ o < 2) → resD (stepMv es o p n) = "NoOrder") ∧ (¬ (0 ≤ p ∧ p < 2) → resD (stepMv es o p n) = "NoOrder") ∧ (0 ≤ o ∧ o < 2 → 0 ≤ p ∧ p < 2 → o = p → resD (stepMv es o p n) = "SameOrder") ∧
    (0 ≤ o ∧ o < 2 → 0 ≤ p ∧ p < 2 → ¬ o = p → n < 1 → resD (stepMv es o p n) = "NoNumber") ∧ (0 ≤ o ∧ o < 2 → 0 ≤ p ∧ p < 2 → ¬ o = p → 1 ≤ n → n > over3 o s0 s1 s2 m0 m1 → resD (stepMv es o p n) = "TooMuch") ∧
    (0 ≤ o ∧ o < 2 → 0 ≤ p ∧ p < 2 → ¬ o = p → 1 ≤ n → ¬ n > over3 o s0 s1 s2 m0 m1 → resD (stepMv es o p n) = "") := fun j a io q ov => by
    unfold stepMv
    rw [q]
    dsimp only
    rcases hp with ⟨np, qp⟩ | ⟨ip, ⟨jp, x⟩, qp⟩
    · rw [qp]
      exact ⟨fun z => absurd io z, fun _ => rfl, fun _ z => absurd z np, fun _ z => absurd z np, fun _ z => absurd z np, fun _ z => absurd z np⟩
    · rw [qp]
      dsimp only
      rw [ov]
      refine ⟨fun z => absurd io z, fun z => absurd ip z, fun _ _ z => ?_, fun _ _ z y => ?_, fun _ _ z y x => ?_, fun _ _ z y x => ?_⟩
      · rw [if_pos z]; rfl
      · rw [if_neg z, if_pos y]; rfl
      · rw [if_neg z, if_neg (by omega), if_pos x]; rfl
      · rw [if_neg z, if_neg (by omega), if_neg x]; rfl
  rcases at_two h o with ⟨no, q⟩ | ⟨rfl, k, q⟩ | ⟨rfl, k, q⟩
  · rw [q]
    refine ⟨fun _ => rfl, fun _ => rfl, fun z => absurd z no, fun z => absurd z no, fun z => absurd z no, fun z => absurd z no⟩
  · exact main 0 _ ⟨by decide, by decide⟩ q (by
      rw [ow0]
      show _ = m0 - s0 * 100
      omega)
  · exact main 1 _ ⟨by decide, by decide⟩ q (by
      rw [ow1]
      show _ = m1 - s1 * 50 / 2 - s2 * 7
      omega)

/-! ### tried, refused -/
def spTriedB (K : PySem.W.Frag) (ers : List Er) : Sp := fun vs H Q _ => ∃ (b : Addr) (B : Bk) (L : Lay) (v : V), vs = [.ref b, v] ∧ BookAt K H b B L ∧ B.ok ∧ B.trail.length < 100000 ∧
  ((∃ d : Dd, DdAt (fun a => L.own a = .no) H v d ∧ d.good ∧ d.few ∧ TriedK K ers b B L H d Q) ∨ (∃ t xs, v = .ref t ∧ H t = some (.tup xs) ∧ Bad xs ∧ Q (.str "NoDeed") H))
theorem len_triedB {K : PySem.W.Frag} {ers : List Er} {vs : List V} {H : Hp} {Q : VK} {E : XK} (h : spTriedB K ers vs H Q E) : vs.length = 2 := by
  obtain ⟨_, _, _, _, rfl, _⟩ := h; rfl
abbrev lawErs : List Er := [.tooMuch, .noLine, .sameOrder, .noOrder, .fullBook, .noNumber, .noItem, .noLines, .noDeed]
abbrev spLTried (K : PySem.W.Frag) := spTriedB K lawErs
abbrev len_LTried {K : PySem.W.Frag} {vs : List V} {H : Hp} {Q : VK} {E : XK} (h : spLTried K vs H Q E) := len_triedB h
theorem ok_LTried {P : Program} {w : World} {K : PySem.W.Frag} {mg : Str → Option Value} {base : Heap} (T : Tx w K mg) : FnOk P w K mg base CX0 8 (He.fAd K dLTried.at_) (fdO K dLTried.at_) P_LTried (spLTried K) := by
  refine T.f_LTried.ok sc_LTried (fun vs H Q E h => len_LTried h) (fun cdv A outer s H vs Q E hr h => ⟨_, PSs.nox ((pss_one (ps_try_many rfl rfl takes0 (fun W pn xe tk po => (pss_one (ps_ret (pe_mX (pv 0) T.cl_Book T.m_Book_do (ok_BookDo T) (hr.mono (by decide)) T.b_BookDo (fun σ => passAt tk σ) (pa_cons (pv 1) pa_nil))))) (.cons ⟨rfl, by decide, .inl T.g_TooMuch⟩ (fun a oe cls d pn hz hf => (pss_one (ps_ret pe_str))) (.cons ⟨rfl, by decide, .inl T.g_NoLine⟩ (fun a oe cls d pn hz hf => (pss_one (ps_ret pe_str))) (.cons ⟨rfl, by decide, .inl T.g_SameOrder⟩ (fun a oe cls d pn hz hf => (pss_one (ps_ret pe_str))) (.cons ⟨rfl, by decide, .inl T.g_NoOrder⟩ (fun a oe cls d pn hz hf => (pss_one (ps_ret pe_str))) (.cons ⟨rfl, by decide, .inl T.g_FullBook⟩ (fun a oe cls d pn hz hf => (pss_one (ps_ret pe_str))) (.cons ⟨rfl, by decide, .inl T.g_NoNumber⟩ (fun a oe cls d pn hz hf => (pss_one (ps_ret pe_str))) (.cons ⟨rfl, by decide, .inl T.g_NoItem⟩ (fun a oe cls d pn hz hf => (pss_one (ps_ret pe_str))) (.cons ⟨rfl, by decide, .inl T.g_NoLines⟩ (fun a oe cls d pn hz hf => (pss_one (ps_ret pe_str))) (.cons ⟨rfl, by decide, .inl T.g_NoDeed⟩ (fun a oe cls d pn hz hf => (pss_one (ps_ret pe_str))) .nil)))))))))))), ?_⟩)
  obtain ⟨b, B, L, v, rfl, h, ok, hz, hd⟩ := h
  obtain ⟨dx, hb⟩ := h.ob
  walk_at "rd"
  refine r_m hb (no_Book_do _ _) ?_
  walk_at "rd"
  rcases hd with ⟨d, hd, g, few, kE, k⟩ | ⟨t, xs, rfl, ht, bad, q⟩
  rotate_left
  · refine ⟨b, B, L, .ref t, rfl, h, ok, hz, .inr ⟨t, xs, rfl, ht, bad, ?_⟩⟩
    refine ⟨false, T.e_NoDeed_TooMuch, (fun z => by cases z), fun _ => ⟨false, T.e_NoDeed_NoLine, (fun z => by cases z), fun _ => ⟨false, T.e_NoDeed_SameOrder, (fun z => by cases z), fun _ => ⟨false, T.e_NoDeed_NoOrder, (fun z => by cases z), fun _ => ⟨false, T.e_NoDeed_FullBook, (fun z => by cases z), fun _ => ⟨false, T.e_NoDeed_NoNumber, (fun z => by cases z), fun _ => ⟨false, T.e_NoDeed_NoItem, (fun z => by cases z), fun _ => ⟨false, T.e_NoDeed_NoLines, (fun z => by cases z), fun _ => ⟨true, T.e_NoDeed_NoDeed, fun _ a _ => ?_, fun z => (by cases z)⟩⟩⟩⟩⟩⟩⟩⟩⟩
    walk_at "rd"
    exact q
  refine ⟨b, B, L, v, rfl, h, ok, hz, .inl ⟨d, hd, g, few, fun e q H' s => ?_, k⟩⟩
  obtain ⟨m, f⟩ := kE e q
  have f2 := f H' s
  rcases List.mem_cons.mp m with rfl | m
  · refine ⟨true, T.e_TooMuch_TooMuch, fun _ a _ => ?_, fun z => (by cases z)⟩
    walk_at "rd"
    exact f2
  rcases List.mem_cons.mp m with rfl | m
  · refine ⟨false, T.e_NoLine_TooMuch, (fun z => by cases z), fun _ => ⟨true, T.e_NoLine_NoLine, fun _ a _ => ?_, fun z => (by cases z)⟩⟩
    walk_at "rd"
    exact f2
  rcases List.mem_cons.mp m with rfl | m
  · refine ⟨false, T.e_SameOrder_TooMuch, (fun z => by cases z), fun _ => ⟨false, T.e_SameOrder_NoLine, (fun z => by cases z), fun _ => ⟨true, T.e_SameOrder_SameOrder, fun _ a _ => ?_, fun z => (by cases z)⟩⟩⟩
    walk_at "rd"
    exact f2
  rcases List.mem_cons.mp m with rfl | m
  · refine ⟨false, T.e_NoOrder_TooMuch, (fun z => by cases z), fun _ => ⟨false, T.e_NoOrder_NoLine, (fun z => by cases z), fun _ => ⟨false, T.e_NoOrder_SameOrder, (fun z => by cases z), fun _ => ⟨true, T.e_NoOrder_NoOrder, fun _ a _ => ?_, fun z => (by cases z)⟩⟩⟩⟩
    walk_at "rd"
    exact f2
  rcases List.mem_cons.mp m with rfl | m
  · refine ⟨false, T.e_FullBook_TooMuch, (fun z => by cases z), fun _ => ⟨false, T.e_FullBook_NoLine, (fun z => by cases z), fun _ => ⟨false, T.e_FullBook_SameOrder, (fun z => by cases z), fun _ => ⟨false, T.e_FullBook_NoOrder, (fun z => by cases z), fun _ => ⟨true, T.e_FullBook_FullBook, fun _ a _ => ?_, fun z => (by cases z)⟩⟩⟩⟩⟩
    walk_at "rd"
    exact f2
  rcases List.mem_cons.mp m with rfl | m
  · refine ⟨false, T.e_NoNumber_TooMuch, (fun z => by cases z), fun _ => ⟨false, T.e_NoNumber_NoLine, (fun z => by cases z), fun _ => ⟨false, T.e_NoNumber_SameOrder, (fun z => by cases z), fun _ => ⟨false, T.e_NoNumber_NoOrder, (fun z => by cases z), fun _ => ⟨false, T.e_NoNumber_FullBook, (fun z => by cases z), fun _ => ⟨true, T.e_NoNumber_NoNumber, fun _ a _ => ?_, fun z => (by cases z)⟩⟩⟩⟩⟩⟩
    walk_at "rd"
    exact f2
  rcases List.mem_cons.mp m with rfl | m
  · refine ⟨false, T.e_NoItem_TooMuch, (fun z => by cases z), fun _ => ⟨false, T.e_NoItem_NoLine, (fun z => by cases z), fun _ => ⟨false, T.e_NoItem_SameOrder, (fun z => by cases z), fun _ => ⟨false, T.e_NoItem_NoOrder, (fun z => by cases z), fun _ => ⟨false, T.e_NoItem_FullBook, (fun z => by cases z), fun _ => ⟨false, T.e_NoItem_NoNumber, (fun z => by cases z), fun _ => ⟨true, T.e_NoItem_NoItem, fun _ a _ => ?_, fun z => (by cases z)⟩⟩⟩⟩⟩⟩⟩
    walk_at "rd"
    exact f2
  rcases List.mem_cons.mp m with rfl | m
  · refine ⟨false, T.e_NoLines_TooMuch, (fun z => by cases z), fun _ => ⟨false, T.e_NoLines_NoLine, (fun z => by cases z), fun _ => ⟨false, T.e_NoLines_SameOrder, (fun z => by cases z), fun _ => ⟨false, T.e_NoLines_NoOrder, (fun z => by cases z), fun _ => ⟨false, T.e_NoLines_FullBook, (fun z => by cases z), fun _ => ⟨false, T.e_NoLines_NoNumber, (fun z => by cases z), fun _ => ⟨false, T.e_NoLines_NoItem, (fun z => by cases z), fun _ => ⟨true, T.e_NoLines_NoLines, fun _ a _ => ?_, fun z => (by cases z)⟩⟩⟩⟩⟩⟩⟩⟩
    walk_at "rd"
    exact f2
  rcases List.mem_cons.mp m with rfl | m
  · refine ⟨false, T.e_NoDeed_TooMuch, (fun z => by cases z), fun _ => ⟨false, T.e_NoDeed_NoLine, (fun z => by cases z), fun _ => ⟨false, T.e_NoDeed_SameOrder, (fun z => by cases z), fun _ => ⟨false, T.e_NoDeed_NoOrder, (fun z => by cases z), fun _ => ⟨false, T.e_NoDeed_FullBook, (fun z => by cases z), fun _ => ⟨false, T.e_NoDeed_NoNumber, (fun z => by cases z), fun _ => ⟨false, T.e_NoDeed_NoItem, (fun z => by cases z), fun _ => ⟨false, T.e_NoDeed_NoLines, (fun z => by cases z), fun _ => ⟨true, T.e_NoDeed_NoDeed, fun _ a _ => ?_, fun z => (by cases z)⟩⟩⟩⟩⟩⟩⟩⟩⟩
    walk_at "rd"
    exact f2
  · cases m
theorem step_ers {os : List Od} {d : Dd} {e : Er} (no : ∀ ls, d ≠ .ord ls) (h : step os d = .error e) : e ∈ lawErs := by
  cases e
  all_goals first | decide | skip
  exfalso
  cases d with
  | ord ls => exact no ls rfl
  | ln w o l n =>
    have h' : stepLn os w o l n = .error .nothingDone := h
    unfold stepLn at h'
    repeat' split at h'
    all_goals cases h'
  | mo w o n =>
    have h' : stepMo os w o n = .error .nothingDone := h
    unfold stepMo at h'
    repeat' split at h'
    all_goals cases h'
  | mv o p n =>
    have h' : stepMv os o p n = .error .nothingDone := h
    unfold stepMv at h'
    repeat' split at h'
    all_goals cases h'
def spLRefusedByAny (K : PySem.W.Frag) : Sp := fun vs H Q _ => ∃ (b : Addr) (B : Bk) (L : Lay) (v : V), vs = [.ref b, v] ∧ BookAt K H b B L ∧ B.ok ∧ B.trail.length < 100000 ∧
  ((∃ (d : Dd) (e : Er), DdAt (fun a => L.own a = .no) H v d ∧ d.good ∧ d.few ∧ step B.each d = .error e ∧ e ∈ lawErs) ∨ (∃ t xs, v = .ref t ∧ H t = some (.tup xs) ∧ Bad xs)) ∧ ∀ H', Same H H' → Q (.bl true) H'
theorem len_LRefusedByAny {K : PySem.W.Frag} {vs : List V} {H : Hp} {Q : VK} {E : XK} (h : spLRefusedByAny K vs H Q E) : vs.length = 2 := by
  obtain ⟨_, _, _, _, rfl, _⟩ := h; rfl
theorem ok_LRefusedByAny {P : Program} {w : World} {K : PySem.W.Frag} {mg : Str → Option Value} {base : Heap} (T : Tx w K mg) : FnOk P w K mg base CX0 8 (He.fAd K dLRefusedByAny.at_) (fdO K dLRefusedByAny.at_) P_LRefusedByAny (spLRefusedByAny K) := by
  refine T.f_LRefusedByAny.ok sc_LRefusedByAny (fun vs H Q E h => len_LRefusedByAny h) (fun cdv A outer s H vs Q E hr h => ⟨_, PSs.nox ((pss_cons (ps_try_as (i := 2) rfl rfl sc_LRefusedByAny.nd rfl rfl ⟨rfl, by decide, .inl T.g_FlowError⟩ takes0 (fun W pn xe tk po => (pss_one (ps_expr (pe_mX (pv 0) T.cl_Book T.m_Book_do (ok_BookDo T) (hr.mono (by decide)) T.b_BookDo (fun σ => passAt tk σ) (pa_cons (pv 1) pa_nil))))) (fun a oe cls d pn hz hf => (pss_one (ps_ret (pe_callX (k := 1) (K := K) (names := exNames) rfl List.mem_cons_self ⟨(hr.mono (j := 1) (by decide)).dp, (hr.mono (j := 1) (by decide)).un⟩ hz hf (fun n hn => ok_LOfOneClass T hn) rfl T.g_LOfOneClass T.f_LOfOneClass.kp T.b_LOfOneClass (pa_cons (pv 2) pa_nil))))))
      (pss_one (ps_ret pe_bl)))), ?_⟩)
  obtain ⟨b, B, L, v, rfl, h, ok, hz, hd, k⟩ := h
  obtain ⟨dx, hb⟩ := h.ob
  walk_at "rd"
  refine r_m hb (no_Book_do _ _) ?_
  walk_at "rd"
  rcases hd with ⟨d, e, hd, g, few, st, me⟩ | ⟨t, xs, rfl, ht, bad⟩
  rotate_left
  · refine ⟨b, B, L, .ref t, rfl, h, ok, hz, .inr ⟨t, xs, rfl, ht, bad, ?_⟩⟩
    refine ⟨true, T.e_NoDeed_FlowError, fun _ a na => ?_, fun z => by cases z⟩
    walk_at "rd"
    refine r_callX ?_
    walk_at "rd"
    exact ⟨"NoDeed", by decide +kernel, rfl, rfl, rfl, fun H2 s2 => k _ s2⟩
  refine ⟨b, B, L, v, rfl, h, ok, hz, .inl ⟨d, hd, g, few, fun e' q H' s => ?_, fun es cs q => by rw [st] at q; cases q⟩⟩
  rw [st] at q
  cases q
  have fin : PySem.W.exmOne K (.ref (He.ga K e.name)) (.ref (He.ga K "FlowError")) = some true ∧ e.name ∈ exNames := by
    cases e with
    | tooMuch => exact ⟨T.e_TooMuch_FlowError, by decide +kernel⟩
    | noLine => exact ⟨T.e_NoLine_FlowError, by decide +kernel⟩
    | sameOrder => exact ⟨T.e_SameOrder_FlowError, by decide +kernel⟩
    | noOrder => exact ⟨T.e_NoOrder_FlowError, by decide +kernel⟩
    | fullBook => exact ⟨T.e_FullBook_FlowError, by decide +kernel⟩
    | noNumber => exact ⟨T.e_NoNumber_FlowError, by decide +kernel⟩
    | noItem => exact ⟨T.e_NoItem_FlowError, by decide +kernel⟩
    | noLines => exact ⟨T.e_NoLines_FlowError, by decide +kernel⟩
    | noDeed => exact ⟨T.e_NoDeed_FlowError, by decide +kernel⟩
    | nothingDone => exact ⟨T.e_NothingDone_FlowError, by decide +kernel⟩
  refine ⟨true, fin.1, fun _ a na => ?_, fun z => by cases z⟩
  walk_at "rd"
  refine r_callX ?_
  walk_at "rd"
  exact ⟨e.name, fin.2, rfl, rfl, rfl, fun H2 s2 => k _ (s.trans s2)⟩

/-! ### as much as goes -/
def spLMost (K : PySem.W.Frag) : Sp := fun vs H Q _ => ∃ (t sl su : Addr) (s0 s1 s2 m0 m1 : Int), vs = [.ref t, .ref sl, .ref su] ∧ H sl = some (.lst [.int s0, .int s1, .int s2]) ∧ H su = some (.lst [.int m0, .int m1]) ∧
  ((∃ w o l n, H t = some (.tup [.str w, .int o, .int l, .int n]) ∧ wLn w ∧ (0 ≤ o ∧ o < 2) ∧ (0 ≤ l ∧ l ≤ o) ∧ ∀ H', Same H H' → Q (.int (mostLn w (o + l) s0 s1 s2)) H') ∨
   (∃ w o r, H t = some (.tup (.str w :: .int o :: r)) ∧ (w = "refund" ∨ w = "move") ∧ (0 ≤ o ∧ o < 2) ∧ ∀ H', Same H H' → Q (.int (over3 o s0 s1 s2 m0 m1)) H'))
theorem len_LMost {K : PySem.W.Frag} {vs : List V} {H : Hp} {Q : VK} {E : XK} (h : spLMost K vs H Q E) : vs.length = 3 := by
  obtain ⟨_, _, _, _, _, _, _, _, rfl, _⟩ := h; rfl
theorem ln_rm {w : Str} (h : wLn w) : ¬ w = "refund" ∧ ¬ w = "move" := ⟨fun z => (ln_not h).2 (.inr z), (ln_not h).1⟩
theorem ok_LMost {P : Program} {w : World} {K : PySem.W.Frag} {mg : Str → Option Value} {base : Heap} (T : Tx w K mg) : FnOk P w K mg base CX0 1 (He.fAd K dLMost.at_) (fdO K dLMost.at_) P_LMost (spLMost K) := by
  refine T.f_LMost.ok sc_LMost (fun vs H Q E h => len_LMost h) (fun cdv A outer s H vs Q E hr h => ⟨_, PSs.nox ((pss_cons (ps_set (i := 3) sc_LMost.nd rfl (Or.inl rfl) (pe_lst (pa_cons (pe_op op_sub (pe_ix ix_list (pv 2) pe_int (fun _ _ => rfl)) (pe_op op_mul (pe_ix ix_list (pv 1) pe_int (fun _ _ => rfl)) pe_int)) (pa_cons (pe_op op_sub (pe_op op_sub (pe_ix ix_list (pv 2) pe_int (fun _ _ => rfl)) (pe_op op_fdiv (pe_op op_mul (pe_ix ix_list (pv 1) pe_int (fun _ _ => rfl)) pe_int) pe_int)) (pe_op op_mul (pe_ix ix_list (pv 1) pe_int (fun _ _ => rfl)) pe_int)) pa_nil))))
      (pss_cons (ps_if (PW.pt (pw_or (pt_cmpR op_eq (pe_ix ix_tup (pv 0) pe_int (fun _ _ => rfl)) pe_str (nomark _)) (pw_or1 (pt_cmpR op_eq (pe_ix ix_tup (pv 0) pe_int (fun _ _ => rfl)) pe_str (nomark _))))) (pss_one (ps_ret (pe_ix ix_list (pv 3) (pe_ix ix_tup (pv 0) pe_int (fun _ _ => rfl)) (fun _ _ => rfl)))) pss_nil)
      (pss_cons (ps_set (i := 4) sc_LMost.nd rfl (Or.inl rfl) (pe_op op_add (pe_ix ix_tup (pv 0) pe_int (fun _ _ => rfl)) (pe_ix ix_tup (pv 0) pe_int (fun _ _ => rfl))))
      (pss_cons (ps_if (pt_cmpR op_eq (pe_ix ix_tup (pv 0) pe_int (fun _ _ => rfl)) pe_str (nomark _)) (pss_one (ps_ret (pe_op op_sub (pe_ix ix_list (pe_lst (pa_cons pe_int (pa_cons pe_int (pa_cons pe_int pa_nil)))) (pv 4) (fun _ _ => rfl)) (pe_ix ix_list (pv 1) (pv 4) (fun _ _ => rfl))))) pss_nil)
      (pss_cons (ps_if (pt_cmpR op_eq (pe_ix ix_tup (pv 0) pe_int (fun _ _ => rfl)) pe_str (nomark _)) (pss_one (ps_ret (pe_ix ix_list (pe_lst (pa_cons (pe_op op_mul (pe_ix ix_list (pv 1) pe_int (fun _ _ => rfl)) pe_int) (pa_cons (pe_op op_fdiv (pe_op op_mul (pe_ix ix_list (pv 1) pe_int (fun _ _ => rfl)) pe_int) pe_int) (pa_cons (pe_op op_mul (pe_ix ix_list (pv 1) pe_int (fun _ _ => rfl)) pe_int) pa_nil)))) (pv 4) (fun _ _ => rfl)))) pss_nil)
      (pss_one (ps_ret (pe_ix ix_list (pv 1) (pv 4) (fun _ _ => rfl)))))))))), ?_⟩)
  obtain ⟨t, sl, su, s0, s1, s2, m0, m1, rfl, es, em, k⟩ := h
  walk_at "rd"
  refine r_ixL (SqL.of em) (atI_get (j := 0) rfl rfl) ?_
  walk_at "rd"
  refine r_ixL (SqL.of es) (atI_get (j := 0) rfl rfl) ?_
  walk_at "rd"
  walk_at "ml"
  walk_at "rd"
  refine r_ixL (SqL.of em) (atI_get (j := 1) rfl rfl) ?_
  walk_at "rd"
  refine r_ixL (SqL.of es) (atI_get (j := 1) rfl rfl) ?_
  walk_at "rd"
  walk_at "ml"
  walk_at "rd"
  walk_at "md"
  walk_at "rd"
  refine r_ixL (SqL.of es) (atI_get (j := 2) rfl rfl) ?_
  walk_at "rd"
  walk_at "ml"
  walk_at "rd"
  refine r_mk (by simp) fun ov hov => ?_
  have sv := same_upd (o := .lst [.int (m0 - s0 * 100), .int (m1 - s1 * 50 / 2 - s2 * 7)]) hov
  have eov : upd H ov (.lst [.int (m0 - s0 * 100), .int (m1 - s1 * 50 / 2 - s2 * 7)]) ov = some (.lst [.int (m0 - s0 * 100), .int (m1 - s1 * 50 / 2 - s2 * 7)]) := upd_same
  revert sv eov
  generalize upd H ov _ = H1
  intro sv eov
  have es1 := sv _ _ es
  rcases k with ⟨w', o, l, n, ht, g, io, il, k⟩ | ⟨w', o, r, ht, hw, io, k⟩
  · have ht1 := sv _ _ ht
    walk_at "rd"
    refine r_ixT (SqT.of ht1) (atI_get (j := 0) rfl rfl) ?_
    walk_at "rd"
    refine r_itz (ln_rm g).1 ?_
    walk_at "rd"
    refine r_ixT (SqT.of ht1) (atI_get (j := 0) rfl rfl) ?_
    walk_at "rd"
    refine r_itz (ln_rm g).2 ?_
    walk_at "rd"
    refine r_ixT (SqT.of ht1) (atI_get (j := 1) rfl rfl) ?_
    walk_at "rd"
    refine r_ixT (SqT.of ht1) (atI_get (j := 2) rfl rfl) ?_
    walk_at "rd"
    refine r_ixT (SqT.of ht1) (atI_get (j := 0) rfl rfl) ?_
    walk_at "rd"
    have k3 : (o + l = ((0 : Nat) : Int)) ∨ (o + l = ((1 : Nat) : Int)) ∨ (o + l = ((2 : Nat) : Int)) := by omega
    revert k3 k
    generalize o + l = z
    intro k k3
    unfold mostLn at k
    refine r_itd (fun c1 => ?_) (fun c1 => ?_)
    · rw [if_pos c1] at k
      walk_at "rd"
      refine r_mk (by simp) fun p hp => ?_
      have s2 := same_upd (o := .lst [.int 6, .int 3, .int 2]) hp
      walk_at "rd"
      rcases k3 with rfl | rfl | rfl
      · refine r_ixL (SqL.of upd_same) (atI_get (j := 0) rfl rfl) ?_
        walk_at "rd"
        refine r_ixL (SqL.of (s2 _ _ es1)) (atI_get (j := 0) rfl rfl) ?_
        walk_at "rd"
        exact k _ (sv.trans s2)
      · refine r_ixL (SqL.of upd_same) (atI_get (j := 1) rfl rfl) ?_
        walk_at "rd"
        refine r_ixL (SqL.of (s2 _ _ es1)) (atI_get (j := 1) rfl rfl) ?_
        walk_at "rd"
        exact k _ (sv.trans s2)
      · refine r_ixL (SqL.of upd_same) (atI_get (j := 2) rfl rfl) ?_
        walk_at "rd"
        refine r_ixL (SqL.of (s2 _ _ es1)) (atI_get (j := 2) rfl rfl) ?_
        walk_at "rd"
        exact k _ (sv.trans s2)
    rw [if_neg c1] at k
    walk_at "rd"
    refine r_ixT (SqT.of ht1) (atI_get (j := 0) rfl rfl) ?_
    walk_at "rd"
    refine r_itd (fun c2 => ?_) (fun c2 => ?_)
    · rw [if_pos c2] at k
      walk_at "rd"
      refine r_ixL (SqL.of es1) (atI_get (j := 0) rfl rfl) ?_
      walk_at "rd"
      walk_at "ml"
      walk_at "rd"
      refine r_ixL (SqL.of es1) (atI_get (j := 1) rfl rfl) ?_
      walk_at "rd"
      walk_at "ml"
      walk_at "rd"
      walk_at "md"
      walk_at "rd"
      refine r_ixL (SqL.of es1) (atI_get (j := 2) rfl rfl) ?_
      walk_at "rd"
      walk_at "ml"
      walk_at "rd"
      refine r_mk (by simp) fun p hp => ?_
      have s2 := same_upd (o := .lst [.int (s0 * 100), .int (s1 * 50 / 2), .int (s2 * 7)]) hp
      walk_at "rd"
      rcases k3 with rfl | rfl | rfl
      · refine r_ixL (SqL.of upd_same) (atI_get (j := 0) rfl rfl) ?_
        exact k _ (sv.trans s2)
      · refine r_ixL (SqL.of upd_same) (atI_get (j := 1) rfl rfl) ?_
        exact k _ (sv.trans s2)
      · refine r_ixL (SqL.of upd_same) (atI_get (j := 2) rfl rfl) ?_
        exact k _ (sv.trans s2)
    · rw [if_neg c2] at k
      walk_at "rd"
      rcases k3 with rfl | rfl | rfl
      · refine r_ixL (SqL.of es1) (atI_get (j := 0) rfl rfl) ?_
        exact k _ sv
      · refine r_ixL (SqL.of es1) (atI_get (j := 1) rfl rfl) ?_
        exact k _ sv
      · refine r_ixL (SqL.of es1) (atI_get (j := 2) rfl rfl) ?_
        exact k _ sv
  · have ht1 := sv _ _ ht
    have fin : rIxL K (.ref ov) (.int o) H1 Q := by
      have o2 : o = ((0 : Nat) : Int) ∨ o = ((1 : Nat) : Int) := by omega
      rcases o2 with rfl | rfl
      · exact r_ixL (SqL.of eov) (atI_get (j := 0) rfl rfl) (k _ sv)
      · exact r_ixL (SqL.of eov) (atI_get (j := 1) rfl rfl) (k _ sv)
    walk_at "rd"
    refine r_ixT (SqT.of ht1) (atI_get (j := 0) rfl rfl) ?_
    walk_at "rd"
    refine r_itd (fun c1 => ?_) (fun c1 => ?_)
    · walk_at "rd"
      refine r_ixT (SqT.of ht1) (atI_get (j := 1) rfl rfl) ?_
      exact fin
    walk_at "rd"
    refine r_ixT (SqT.of ht1) (atI_get (j := 0) rfl rfl) ?_
    walk_at "rd"
    refine r_ity (hw.elim (fun z => absurd z c1) id) ?_
    walk_at "rd"
    refine r_ixT (SqT.of ht1) (atI_get (j := 1) rfl rfl) ?_
    exact fin
/-! ### what is due -/
theorem inV_no {w : Str} {ws : List Str} (h : w ∉ ws) : inV (.str w) (ws.map V.str) = false := by
  unfold inV
  rw [List.any_eq_false]
  intro v hv
  obtain ⟨z, hz, rfl⟩ := List.mem_map.mp hv
  show ¬ (z == w) = true
  intro e
  have : z = w := by simpa using e
  exact h (this ▸ hz)
theorem in_ln {w : Str} (g : wLn w) : inV (.str w) [.str "deliver", .str "back", .str "swap", .str "credit", .str "move", .str "pay", .str "refund"] = true ∧ inV (.str w) [.str "pay", .str "refund"] = false ∧ inV (.str w) [.str "deliver", .str "back", .str "swap", .str "credit"] = true := by
  rcases g with rfl | rfl | rfl | rfl <;> exact ⟨by decide +kernel, by decide +kernel, by decide +kernel⟩
theorem in_mo {w : Str} (g : w = "pay" ∨ w = "refund") : inV (.str w) [.str "deliver", .str "back", .str "swap", .str "credit", .str "move", .str "pay", .str "refund"] = true ∧ inV (.str w) [.str "pay", .str "refund"] = true ∧ inV (.str w) [.str "deliver", .str "back", .str "swap", .str "credit"] = false := by
  rcases g with rfl | rfl <;> exact ⟨by decide +kernel, by decide +kernel, by decide +kernel⟩
theorem in_mv : inV (.str "move") [.str "deliver", .str "back", .str "swap", .str "credit", .str "move", .str "pay", .str "refund"] = true ∧ inV (.str "move") [.str "pay", .str "refund"] = false ∧ inV (.str "move") [.str "deliver", .str "back", .str "swap", .str "credit"] = false := by
  exact ⟨by decide +kernel, by decide +kernel, by decide +kernel⟩
def spLDue (K : PySem.W.Frag) : Sp := fun vs H Q _ => ∃ (t sl su : Addr) (xs : List V) (es : List Od) (s0 s1 s2 m0 m1 : Int), vs = [.ref t, .ref sl, .ref su] ∧ H t = some (.tup xs) ∧ DForm xs ∧ H sl = some (.lst [.int s0, .int s1, .int s2]) ∧ H su = some (.lst [.int m0, .int m1]) ∧
  Two es s0 s1 s2 m0 m1 ∧ ∀ H', Same H H' → Q (.str (dueX es xs)) H'
theorem len_LDue {K : PySem.W.Frag} {vs : List V} {H : Hp} {Q : VK} {E : XK} (h : spLDue K vs H Q E) : vs.length = 3 := by
  obtain ⟨_, _, _, _, _, _, _, _, _, _, rfl, _⟩ := h; rfl
theorem df_scs {w : Str} {ns : List Int} (h : Zok w 60) : Scs (.str w :: ns.map V.int) := .cons (.inr ⟨_, rfl, h.1⟩) fun v hv => by
  obtain ⟨z, _, rfl⟩ := List.mem_map.mp hv
  exact .int
theorem ok_LDue {P : Program} {w : World} {K : PySem.W.Frag} {mg : Str → Option Value} {base : Heap} (T : Tx w K mg) : FnOk P w K mg base CX0 2 (He.fAd K dLDue.at_) (fdO K dLDue.at_) P_LDue (spLDue K) := by
  refine T.f_LDue.ok sc_LDue (fun vs H Q E h => len_LDue h) (fun cdv A outer s H vs Q E hr h => ⟨_, PSs.nox ((pss_cons (ps_set (i := 3) sc_LDue.nd rfl (Or.inl rfl) (pe_lst (pa_cons pe_str (pa_cons pe_str (pa_cons pe_str (pa_cons pe_str (pa_cons pe_str (pa_cons pe_str (pa_cons pe_str pa_nil)))))))))
      (pss_cons (ps_if (PW.pt (pw_or (pt_cmpR (op_eqD hr.units) (pv 0) (pe_tup pa_nil) (nomark _)) (pw_or (pt_cmpR op_notIn_seq (pe_ix ix_tup (pv 0) pe_int (fun _ _ => rfl)) (pv 3) (by rfl)) (pw_or1 (pt_cmpR op_ne (pe_callB call_len_seq (by rfl) T.b_len (by decide +kernel) (pa_cons (pv 0) pa_nil)) (pe_op op_sub pe_int (pe_callTy call_int1 (by rfl) T.b_int (by decide +kernel) (pa_cons (pe_cmpR op_in_seq (pe_ix ix_tup (pv 0) pe_int (fun _ _ => rfl)) (pe_slice sl_list (pv 3) (po_some pe_int) po_none) (by rfl)) pa_nil))) (nomark _)))))) (pss_one (ps_ret pe_str)) pss_nil)
      (pss_cons (ps_if (PW.pt (pw_or (pt_not (pt_chain op_le op_lt pe_int (pe_ix ix_tup (pv 0) pe_int (fun _ _ => rfl)) pe_int)) (pw_or1 (PW.pt (pw_and (pt_cmpR op_eq (pe_ix ix_tup (pv 0) pe_int (fun _ _ => rfl)) pe_str (nomark _)) (pw_and1 (pt_not (pt_chain op_le op_lt pe_int (pe_ix ix_tup (pv 0) pe_int (fun _ _ => rfl)) pe_int)))))))) (pss_one (ps_ret pe_str)) pss_nil)
      (pss_cons (ps_if (PW.pt (pw_and (pt_cmpR op_eq (pe_ix ix_tup (pv 0) pe_int (fun _ _ => rfl)) pe_str (nomark _)) (pw_and1 (pt_cmpR op_eq (pe_ix ix_tup (pv 0) pe_int (fun _ _ => rfl)) (pe_ix ix_tup (pv 0) pe_int (fun _ _ => rfl)) (nomark _))))) (pss_one (ps_ret pe_str)) pss_nil)
      (pss_cons (ps_if (PW.pt (pw_and (pt_cmpR op_in_seq (pe_ix ix_tup (pv 0) pe_int (fun _ _ => rfl)) (pe_slice sl_list (pv 3) po_none (po_some pe_int)) (by rfl)) (pw_and1 (pt_not (pt_chain op_le op_le pe_int (pe_ix ix_tup (pv 0) pe_int (fun _ _ => rfl)) (pe_ix ix_tup (pv 0) pe_int (fun _ _ => rfl))))))) (pss_one (ps_ret pe_str)) pss_nil)
      (pss_cons (ps_set (i := 4) sc_LDue.nd rfl (Or.inl rfl) (pe_ix ix_tup (pv 0) (pe_op op_sub (pe_callB call_len_seq (by rfl) T.b_len (by decide +kernel) (pa_cons (pv 0) pa_nil)) pe_int) (fun _ _ => rfl)))
      (pss_cons (ps_if (pt_cmpR op_lt (pv 4) pe_int (nomark _)) (pss_one (ps_ret pe_str)) pss_nil)
      (pss_cons (ps_if (PW.pt (pw_and (pt_cmpR op_ne (pe_ix ix_tup (pv 0) pe_int (fun _ _ => rfl)) pe_str (nomark _)) (pw_and1 (pt_cmpR op_gt (pv 4) (pe_call (ok_LMost T) (hr.mono (by decide)) rfl T.g_LMost T.f_LMost.kp T.b_LMost .nil pass0 (pa_cons (pv 0) (pa_cons (pv 1) (pa_cons (pv 2) pa_nil)))) (nomark _))))) (pss_one (ps_ret pe_str)) pss_nil)
      (pss_one (ps_ret pe_str))))))))))), ?_⟩)
  obtain ⟨t, sl, su, xs, es, s0, s1, s2, m0, m1, rfl, ht, df, esl, esu, tw, k⟩ := h
  walk_at "rd"
  refine r_mk (by simp) fun l1 hl1 => ?_
  have c1 := same_upd (o := .lst [.str "deliver", .str "back", .str "swap", .str "credit", .str "move", .str "pay", .str "refund"]) hl1
  have e1 : upd H l1 (.lst [.str "deliver", .str "back", .str "swap", .str "credit", .str "move", .str "pay", .str "refund"]) l1 = some (.lst [.str "deliver", .str "back", .str "swap", .str "credit", .str "move", .str "pay", .str "refund"]) := upd_same
  revert c1 e1
  generalize upd H l1 _ = H1
  intro c1 e1
  walk_at "rd"
  refine r_mk (by simp) fun t2 ht2 => ?_
  have c2 := c1.trans (same_upd (o := .tup []) ht2)
  have e2 : upd H1 t2 (.tup []) l1 = some (.lst [.str "deliver", .str "back", .str "swap", .str "credit", .str "move", .str "pay", .str "refund"]) := same_upd ht2 _ _ e1
  have et2 : upd H1 t2 (.tup []) t2 = some (.tup []) := upd_same
  revert c2 e2 et2
  generalize upd H1 t2 _ = H2
  intro c2 e2 et2
  clear e1 c1 hl1 ht2
  have ht' := c2 _ _ ht
  have esl' := c2 _ _ esl
  have esu' := c2 _ _ esu
  have fin : ∀ z H', dueX es xs = z → Same H2 H' → Q (.str z) H' := fun z H' e s => e ▸ k H' (c2.trans s)
  rcases df with rfl | ⟨w', ns, rfl, no, zk, n1, n5⟩
  · refine r_eqTT (SqT.of ht') (SqT.of et2) .nil .nil ?_
    walk_at "rd"
    refine r_ity rfl ?_
    walk_at "rd"
    exact fin _ _ rfl (Same.refl _)
  refine r_eqTT (SqT.of ht') (SqT.of et2) (df_scs zk) .nil ?_
  walk_at "rd"
  refine r_itz (fun z => by cases z) ?_
  walk_at "rd"
  refine r_ixT (SqT.of ht') (atI_get (j := 0) rfl rfl) ?_
  walk_at "rd"
  refine ⟨l1, _, rfl, .inl (SqL.of e2), rfl, rfl, ?_⟩
  have kinds : (¬ wLn w' ∧ w' ≠ "move" ∧ ¬ (w' = "pay" ∨ w' = "refund")) ∨ (inV (.str w') [.str "deliver", .str "back", .str "swap", .str "credit", .str "move", .str "pay", .str "refund"] = true ∧
      ∃ bw : Bool, inV (.str w') [.str "pay", .str "refund"] = bw ∧ ((bw = false ∧ (wLn w' ∨ w' = "move")) ∨ (bw = true ∧ (w' = "pay" ∨ w' = "refund")))) := by
    rcases parts_of no with ⟨_, a1, a2, a3⟩ | ⟨_, a⟩ | ⟨_, a⟩ | ⟨_, a⟩
    · exact .inl ⟨a1, a2, a3⟩
    · exact .inr ⟨(in_ln a).1, _, (in_ln a).2.1, .inl ⟨rfl, .inl a⟩⟩
    · exact .inr ⟨by rw [a]; exact in_mv.1, _, by rw [a]; exact in_mv.2.1, .inl ⟨rfl, .inr a⟩⟩
    · exact .inr ⟨(in_mo a).1, _, (in_mo a).2.1, .inr ⟨rfl, a⟩⟩
  rcases kinds with ⟨a1, a2, a3⟩ | ⟨iw, bw, ib, kinds⟩
  · have nin : inV (.str w') [.str "deliver", .str "back", .str "swap", .str "credit", .str "move", .str "pay", .str "refund"] = false := inV_no (ws := ["deliver", "back", "swap", "credit", "move", "pay", "refund"]) fun z => by
      simp only [List.mem_cons, List.not_mem_nil, or_false] at z
      rcases z with h | h | h | h | h | h | h
      · exact a1 (.inl h)
      · exact a1 (.inr (.inl h))
      · exact a1 (.inr (.inr (.inl h)))
      · exact a1 (.inr (.inr (.inr h)))
      · exact a2 h
      · exact a3 (.inl h)
      · exact a3 (.inr h)
    rw [nin]
    walk_at "rd"
    refine fin _ _ ?_ (Same.refl _)
    match ns, n1, n5 with
    | [o], _, _ => rfl
    | [o, n], _, _ => unfold dueX; rw [show dOfV (.str w' :: [o, n].map V.int) = none from if_neg a3]
    | [o, l, n], _, _ => unfold dueX; rw [show dOfV (.str w' :: [o, l, n].map V.int) = none from (if_neg a2).trans (if_neg a1)]
    | [o, l, n, m], _, _ => rfl
    | [o, l, n, m, k], _, _ => rfl
  rw [iw]
  walk_at "rd"
  refine r_itnT ?_
  walk_at "rd"
  refine ⟨t, _, rfl, .inr (SqT.of ht'), ?_⟩
  walk_at "rd"
  refine r_ixT (SqT.of ht') (atI_get (j := 0) rfl rfl) ?_
  walk_at "rd"
  refine r_sll (SqL.of e2) fun l3 hl3 => ?_
  rw [show cutV [V.str "deliver", .str "back", .str "swap", .str "credit", .str "move", .str "pay", .str "refund"] (some 5) none = [.str "pay", .str "refund"] from cut_from (k := 5)]
  have c3 := same_upd (o := .lst [.str "pay", .str "refund"]) hl3
  refine ⟨l3, _, rfl, .inl (SqL.of upd_same), rfl, rfl, ?_⟩
  rw [ib]
  revert c3
  generalize upd H2 l3 _ = H3
  intro c3
  have e3 := c3 _ _ e2
  have ht3 := c3 _ _ ht'
  have esl3 := c3 _ _ esl'
  have esu3 := c3 _ _ esu'
  walk_at "rd"
  refine .inr ⟨_, rfl, ?_⟩
  walk_at "rd"
  have lx : (((V.str w' :: ns.map V.int).length : Nat) : Int) = (ns.length : Int) + 1 := by simp
  have ix0 : ∀ {H' : Hp}, Same H3 H' → SqT K H' t (.str w' :: ns.map V.int) := fun s => SqT.of (s _ _ ht3)
  rcases kinds with ⟨rfl, kinds⟩ | ⟨rfl, a⟩
  · refine r_itn (fun ne => ?_) (fun e => ?_)
    · have ne' : ¬ ns.length = 3 := fun z => ne (by rw [lx, z]; rfl)
      walk_at "rd"
      refine fin _ _ ?_ c3
      have nk : ¬ (w' = "pay" ∨ w' = "refund") := kinds.elim (fun z => (ln_not z).2) fun z y => (money_ln y).2 z
      match ns, n1, n5, ne' with
      | [o], _, _, _ => rfl
      | [o, n], _, _, _ => unfold dueX; rw [show dOfV (.str w' :: [o, n].map V.int) = none from if_neg nk]
      | [o, l, n], _, _, z => exact absurd rfl z
      | [o, l, n, m], _, _, _ => rfl
      | [o, l, n, m, k], _, _, _ => rfl
    have e' : ns.length = 3 := by
      have e2 : (((V.str w' :: ns.map V.int).length : Nat) : Int) = 4 - 0 := e
      rw [lx] at e2
      omega
    match ns, e' with
    | [o, l, n], _ =>
    clear e lx n1 n5
    rcases kinds with a | hm
    · obtain ⟨d1, d2, d3, d4, d5⟩ := due_ln tw a o l n
      have dx : dueX es (.str w' :: [o, l, n].map V.int) = dueD es (.ln w' o l n) := by
        unfold dueX
        rw [show dOfV (.str w' :: [o, l, n].map V.int) = some (.ln w' o l n) from (if_neg (ln_not a).1).trans (if_pos a)]
      rw [dx] at fin
      walk_at "rd"
      refine r_ixT (ix0 (Same.refl _)) (atI_get (j := 1) rfl rfl) ?_
      walk_at "rd"
      refine r_itd (fun p1 => ?_) (fun p1 => ?_)
      rotate_left
      · walk_at "rd"
        exact fin _ _ (d1 fun z => p1 z.1) c3
      walk_at "rd"
      refine r_itn (fun p2 => ?_) (fun p2 => ?_)
      · walk_at "rd"
        exact fin _ _ (d1 fun z => p2 z.2) c3
      have io : 0 ≤ o ∧ o < 2 := ⟨p1, p2⟩
      walk_at "rd"
      refine r_ixT (ix0 (Same.refl _)) (atI_get (j := 0) rfl rfl) ?_
      walk_at "rd"
      refine r_itz (ln_not a).1 ?_
      walk_at "rd"
      refine r_ixT (ix0 (Same.refl _)) (atI_get (j := 0) rfl rfl) ?_
      walk_at "rd"
      refine r_itz (ln_not a).1 ?_
      walk_at "rd"
      refine r_ixT (ix0 (Same.refl _)) (atI_get (j := 0) rfl rfl) ?_
      walk_at "rd"
      refine r_sll (SqL.of e3) fun l4 hl4 => ?_
      rw [show cutV [V.str "deliver", .str "back", .str "swap", .str "credit", .str "move", .str "pay", .str "refund"] none (some 4) = [.str "deliver", .str "back", .str "swap", .str "credit"] by decide +kernel]
      have c4 := same_upd (o := .lst [.str "deliver", .str "back", .str "swap", .str "credit"]) hl4
      refine ⟨l4, _, rfl, .inl (SqL.of upd_same), rfl, rfl, ?_⟩
      rw [(in_ln a).2.2]
      revert c4
      generalize upd H3 l4 _ = H4
      intro c4
      have c34 := c3.trans c4
      walk_at "rd"
      refine r_itT ?_
      walk_at "rd"
      refine r_ixT (ix0 c4) (atI_get (j := 2) rfl rfl) ?_
      walk_at "rd"
      refine r_itd (fun p3 => ?_) (fun p3 => ?_)
      rotate_left
      · walk_at "rd"
        exact fin _ _ (d2 io fun z => p3 z.1) c34
      walk_at "rd"
      refine r_ixT (ix0 c4) (atI_get (j := 1) rfl rfl) ?_
      walk_at "rd"
      refine r_itn (fun p4 => ?_) (fun p4 => ?_)
      · walk_at "rd"
        exact fin _ _ (d2 io fun z => p4 z.2) c34
      have il : 0 ≤ l ∧ l ≤ o := ⟨p3, p4⟩
      walk_at "rd"
      refine ⟨t, _, rfl, .inr (ix0 c4), ?_⟩
      walk_at "rd"
      refine r_ixT (ix0 c4) (atI_get (j := 3) rfl rfl) ?_
      walk_at "rd"
      refine r_itd (fun p5 => ?_) (fun p5 => ?_)
      · walk_at "rd"
        exact fin _ _ (d3 io il p5) c34
      walk_at "rd"
      refine r_ixT (ix0 c4) (atI_get (j := 0) rfl rfl) ?_
      walk_at "rd"
      refine r_itn (fun _ => ?_) (fun z => absurd (.inl z) (ln_not a).2)
      walk_at "rd"
      refine ⟨t, sl, su, s0, s1, s2, m0, m1, rfl, c4 _ _ esl3, c4 _ _ esu3, .inl ⟨w', o, l, n, c4 _ _ ht3, a, io, il, fun H5 c5 => ?_⟩⟩
      have c35 := c34.trans c5
      walk_at "rd"
      refine r_itd (fun p6 => ?_) (fun p6 => ?_)
      · walk_at "rd"
        exact fin _ _ (d4 io il (by omega) p6) c35
      walk_at "rd"
      exact fin _ _ (d5 io il (by omega) p6) c35
    · obtain ⟨d1, d1', d2, d3, d4, d5⟩ := due_mv tw o l n
      have dx : dueX es (.str w' :: [o, l, n].map V.int) = dueD es (.mv o l n) := by
        unfold dueX
        rw [show dOfV (.str w' :: [o, l, n].map V.int) = some (.mv o l n) from if_pos hm]
      rw [dx] at fin
      subst hm
      walk_at "rd"
      refine r_ixT (ix0 (Same.refl _)) (atI_get (j := 1) rfl rfl) ?_
      walk_at "rd"
      refine r_itd (fun p1 => ?_) (fun p1 => ?_)
      rotate_left
      · walk_at "rd"
        exact fin _ _ (d1 fun z => p1 z.1) c3
      walk_at "rd"
      refine r_itn (fun p2 => ?_) (fun p2 => ?_)
      · walk_at "rd"
        exact fin _ _ (d1 fun z => p2 z.2) c3
      have io : 0 ≤ o ∧ o < 2 := ⟨p1, p2⟩
      walk_at "rd"
      refine r_ixT (ix0 (Same.refl _)) (atI_get (j := 0) rfl rfl) ?_
      walk_at "rd"
      refine r_ity rfl ?_
      walk_at "rd"
      refine r_ixT (ix0 (Same.refl _)) (atI_get (j := 2) rfl rfl) ?_
      walk_at "rd"
      refine r_itd (fun p3 => ?_) (fun p3 => ?_)
      rotate_left
      · walk_at "rd"
        exact fin _ _ (d1' fun z => p3 z.1) c3
      walk_at "rd"
      refine r_itn (fun p4 => ?_) (fun p4 => ?_)
      · walk_at "rd"
        exact fin _ _ (d1' fun z => p4 z.2) c3
      have il : 0 ≤ l ∧ l < 2 := ⟨p3, p4⟩
      walk_at "rd"
      refine r_ixT (ix0 (Same.refl _)) (atI_get (j := 0) rfl rfl) ?_
      walk_at "rd"
      refine r_ity rfl ?_
      walk_at "rd"
      refine r_ixT (ix0 (Same.refl _)) (atI_get (j := 1) rfl rfl) ?_
      walk_at "rd"
      refine r_ixT (ix0 (Same.refl _)) (atI_get (j := 2) rfl rfl) ?_
      walk_at "rd"
      refine r_itd (fun p5 => ?_) (fun p5 => ?_)
      · walk_at "rd"
        exact fin _ _ (d2 io il p5) c3
      walk_at "rd"
      refine r_ixT (ix0 (Same.refl _)) (atI_get (j := 0) rfl rfl) ?_
      walk_at "rd"
      refine r_sll (SqL.of e3) fun l4 hl4 => ?_
      rw [show cutV [V.str "deliver", .str "back", .str "swap", .str "credit", .str "move", .str "pay", .str "refund"] none (some 4) = [.str "deliver", .str "back", .str "swap", .str "credit"] by decide +kernel]
      have c4 := same_upd (o := .lst [.str "deliver", .str "back", .str "swap", .str "credit"]) hl4
      refine ⟨l4, _, rfl, .inl (SqL.of upd_same), rfl, rfl, ?_⟩
      rw [in_mv.2.2]
      revert c4
      generalize upd H3 l4 _ = H4
      intro c4
      have c34 := c3.trans c4
      walk_at "rd"
      refine r_itF ?_
      walk_at "rd"
      refine ⟨t, _, rfl, .inr (ix0 c4), ?_⟩
      walk_at "rd"
      refine r_ixT (ix0 c4) (atI_get (j := 3) rfl rfl) ?_
      walk_at "rd"
      refine r_itd (fun p6 => ?_) (fun p6 => ?_)
      · walk_at "rd"
        exact fin _ _ (d3 io il p5 p6) c34
      walk_at "rd"
      refine r_ixT (ix0 c4) (atI_get (j := 0) rfl rfl) ?_
      walk_at "rd"
      refine r_itn (fun _ => ?_) (fun z => absurd z (by decide +kernel))
      walk_at "rd"
      refine ⟨t, sl, su, s0, s1, s2, m0, m1, rfl, c4 _ _ esl3, c4 _ _ esu3, .inr ⟨"move", o, _, c4 _ _ ht3, .inr rfl, io, fun H5 c5 => ?_⟩⟩
      have c35 := c34.trans c5
      walk_at "rd"
      refine r_itd (fun p7 => ?_) (fun p7 => ?_)
      · walk_at "rd"
        exact fin _ _ (d4 io il p5 (by omega) p7) c35
      walk_at "rd"
      exact fin _ _ (d5 io il p5 (by omega) p7) c35
  · refine r_itn (fun ne => ?_) (fun e => ?_)
    · have ne' : ¬ ns.length = 2 := fun z => ne (by rw [lx, z]; rfl)
      walk_at "rd"
      refine fin _ _ ?_ c3
      match ns, n1, n5, ne' with
      | [o], _, _, _ => rfl
      | [o, n], _, _, z => exact absurd rfl z
      | [o, l, n], _, _, _ => unfold dueX; rw [show dOfV (.str w' :: [o, l, n].map V.int) = none from (if_neg (money_ln a).2).trans (if_neg (money_ln a).1)]
      | [o, l, n, m], _, _, _ => rfl
      | [o, l, n, m, k], _, _, _ => rfl
    have e' : ns.length = 2 := by
      have e2 : (((V.str w' :: ns.map V.int).length : Nat) : Int) = 4 - 1 := e
      rw [lx] at e2
      omega
    match ns, e' with
    | [o, n], _ =>
      clear e lx n1 n5
      obtain ⟨d1, d2, d3, d4, d5⟩ := due_mo tw (w := w') o n
      have dx : dueX es (.str w' :: [o, n].map V.int) = dueD es (.mo w' o n) := by
        unfold dueX
        rw [show dOfV (.str w' :: [o, n].map V.int) = some (.mo w' o n) from if_pos a]
      rw [dx] at fin
      walk_at "rd"
      refine r_ixT (ix0 (Same.refl _)) (atI_get (j := 1) rfl rfl) ?_
      walk_at "rd"
      refine r_itd (fun p1 => ?_) (fun p1 => ?_)
      rotate_left
      · walk_at "rd"
        exact fin _ _ (d1 fun z => p1 z.1) c3
      walk_at "rd"
      refine r_itn (fun p2 => ?_) (fun p2 => ?_)
      · walk_at "rd"
        exact fin _ _ (d1 fun z => p2 z.2) c3
      have io : 0 ≤ o ∧ o < 2 := ⟨p1, p2⟩
      walk_at "rd"
      refine r_ixT (ix0 (Same.refl _)) (atI_get (j := 0) rfl rfl) ?_
      walk_at "rd"
      refine r_itz (money_ln a).2 ?_
      walk_at "rd"
      refine r_ixT (ix0 (Same.refl _)) (atI_get (j := 0) rfl rfl) ?_
      walk_at "rd"
      refine r_itz (money_ln a).2 ?_
      walk_at "rd"
      refine r_ixT (ix0 (Same.refl _)) (atI_get (j := 0) rfl rfl) ?_
      walk_at "rd"
      refine r_sll (SqL.of e3) fun l4 hl4 => ?_
      rw [show cutV [V.str "deliver", .str "back", .str "swap", .str "credit", .str "move", .str "pay", .str "refund"] none (some 4) = [.str "deliver", .str "back", .str "swap", .str "credit"] by decide +kernel]
      have c4 := same_upd (o := .lst [.str "deliver", .str "back", .str "swap", .str "credit"]) hl4
      refine ⟨l4, _, rfl, .inl (SqL.of upd_same), rfl, rfl, ?_⟩
      rw [(in_mo a).2.2]
      revert c4
      generalize upd H3 l4 _ = H4
      intro c4
      have c34 := c3.trans c4
      walk_at "rd"
      refine r_itF ?_
      walk_at "rd"
      refine ⟨t, _, rfl, .inr (ix0 c4), ?_⟩
      walk_at "rd"
      refine r_ixT (ix0 c4) (atI_get (j := 2) rfl rfl) ?_
      walk_at "rd"
      refine r_itd (fun p6 => ?_) (fun p6 => ?_)
      · walk_at "rd"
        exact fin _ _ (d2 io p6) c34
      walk_at "rd"
      refine r_ixT (ix0 c4) (atI_get (j := 0) rfl rfl) ?_
      walk_at "rd"
      refine r_itn (fun np => ?_) (fun z => ?_)
      rotate_left
      · walk_at "rd"
        exact fin _ _ (d3 io (by omega) z) c34
      walk_at "rd"
      refine ⟨t, sl, su, s0, s1, s2, m0, m1, rfl, c4 _ _ esl3, c4 _ _ esu3, .inr ⟨w', o, _, c4 _ _ ht3, .inl (a.elim (fun z => absurd z np) id), io, fun H5 c5 => ?_⟩⟩
      have c35 := c34.trans c5
      walk_at "rd"
      refine r_itd (fun p7 => ?_) (fun p7 => ?_)
      · walk_at "rd"
        exact fin _ _ (d4 io (by omega) np p7) c35
      walk_at "rd"
      exact fin _ _ (d5 io (by omega) np p7) c35

/-! ### pairs that are held, each in a list of its own -/
structure Kq (H : Hp) (kr : Addr) (ps : List (Addr × Addr × Addr)) : Prop where
  at_ : H kr = some (.lst (ps.map fun u => V.ref u.1))
  pr : ∀ u, u ∈ ps → H u.1 = some (.lst [.ref u.2.1, .ref u.2.2]) ∧ ∃ rs, RowsAt H u.2.1 rs ∧ RowsAt H u.2.2 rs ∧ Rws rs
  ne : ∀ u, u ∈ ps → u.1 ≠ kr ∧ u.2.1 ≠ kr ∧ u.2.2 ≠ kr
def qfoot (kr : Addr) (ps : List (Addr × Addr × Addr)) (x : Addr) : Prop := x = kr ∨ ∃ u, u ∈ ps ∧ (x = u.1 ∨ x = u.2.1 ∨ x = u.2.2)
theorem Kq.keep {H H' : Hp} {kr : Addr} {ps : List (Addr × Addr × Addr)} {T : Addr → Prop} (h : Kq H kr ps) (b : But T H H') (n : ∀ x, qfoot kr ps x → ¬ T x) : Kq H' kr ps where
  at_ := b.keep _ _ h.at_ (n _ (.inl rfl))
  pr := fun u hu => by
    obtain ⟨e, rs, a, c, d⟩ := h.pr u hu
    exact ⟨b.keep _ _ e (n _ (.inr ⟨u, hu, .inl rfl⟩)), rs, a.keep b (n _ (.inr ⟨u, hu, .inr (.inl rfl)⟩)), c.keep b (n _ (.inr ⟨u, hu, .inr (.inr rfl)⟩)), d⟩
  ne := h.ne
theorem Kq.same {H H' : Hp} {kr : Addr} {ps : List (Addr × Addr × Addr)} (h : Kq H kr ps) (s : Same H H') : Kq H' kr ps := h.keep (But.of (S := fun _ => False) s) fun _ _ => id
theorem Kq.dom {H : Hp} {kr : Addr} {ps : List (Addr × Addr × Addr)} (h : Kq H kr ps) {x : Addr} (f : qfoot kr ps x) : ∃ o, H x = some o := by
  rcases f with rfl | ⟨u, hu, z⟩
  · exact ⟨_, h.at_⟩
  · obtain ⟨e, rs, ⟨xs, a, _⟩, ⟨ys, c, _⟩, _⟩ := h.pr u hu
    rcases z with rfl | rfl | rfl
    · exact ⟨_, e⟩
    · exact ⟨_, a⟩
    · exact ⟨_, c⟩
theorem Kq.fresh {H : Hp} {kr : Addr} {ps : List (Addr × Addr × Addr)} (h : Kq H kr ps) {x : Addr} (e : H x = none) : ¬ qfoot kr ps x := fun f => by
  obtain ⟨o, q⟩ := h.dom f
  rw [e] at q; cases q
theorem kq_push {H : Hp} {kr u l2 q : Addr} {ps : List (Addr × Addr × Addr)} {xs : List V} {rs : List (List V)} (k : Kq H kr ps) (hx : H u = some (.lst xs)) (p : Paired (TupAt H) xs rs) (ok : Rws rs) (ne : u ≠ kr) (h2 : H l2 = none) (hq : upd H l2 (.lst xs) q = none) :
    upd (upd H l2 (.lst xs)) q (.lst [.ref u, .ref l2]) kr = some (.lst (ps.map fun u => V.ref u.1)) ∧
    Kq (upd (upd (upd H l2 (.lst xs)) q (.lst [.ref u, .ref l2])) kr (.lst ((ps.map fun u => V.ref u.1) ++ [.ref q]))) kr (ps ++ [(q, u, l2)]) ∧
    But (· = kr) H (upd (upd (upd H l2 (.lst xs)) q (.lst [.ref u, .ref l2])) kr (.lst ((ps.map fun u => V.ref u.1) ++ [.ref q]))) ∧
    Stay H (upd (upd (upd H l2 (.lst xs)) q (.lst [.ref u, .ref l2])) kr (.lst ((ps.map fun u => V.ref u.1) ++ [.ref q]))) ∧ H q = none := by
  obtain ⟨ql, nq⟩ := upd_none hq
  have s1 := same_upd (o := .lst xs) h2
  have s2 := same_upd (o := .lst [.ref u, .ref l2]) hq
  have ek := s2 _ _ (s1 _ _ k.at_)
  have b : But (· = kr) H (upd (upd (upd H l2 (.lst xs)) q (.lst [.ref u, .ref l2])) kr (.lst ((ps.map fun u => V.ref u.1) ++ [.ref q]))) := ((But.of s1).trans (But.of s2)).trans (But.lst ek rfl)
  have lk : l2 ≠ kr := fun z => by rw [z, k.at_] at h2; cases h2
  have qk : q ≠ kr := fun z => by rw [z, k.at_] at nq; cases nq
  have e2 : upd (upd (upd H l2 (.lst xs)) q (.lst [.ref u, .ref l2])) kr (.lst ((ps.map fun u => V.ref u.1) ++ [.ref q])) l2 = some (.lst xs) := by
    rw [upd_ne lk, upd_ne (Ne.symm ql)]; exact upd_same
  have e3 : upd (upd (upd H l2 (.lst xs)) q (.lst [.ref u, .ref l2])) kr (.lst ((ps.map fun u => V.ref u.1) ++ [.ref q])) q = some (.lst [.ref u, .ref l2]) := by
    rw [upd_ne qk]; exact upd_same
  refine ⟨ek, ⟨by rw [upd_same, List.map_append]; rfl, fun w hw => ?_, fun w hw => ?_⟩, b, fun x e => (upd_none (upd_none (stay_lst ek x e)).2).2, nq⟩
  · rcases List.mem_append.mp hw with z | z
    · obtain ⟨e, rs', a, c, d⟩ := k.pr w z
      obtain ⟨n1, n2, n3⟩ := k.ne w z
      exact ⟨b.keep _ _ e n1, rs', a.keep b n2, c.keep b n3, d⟩
    · rw [List.mem_singleton.mp z]
      exact ⟨e3, rs, ⟨xs, b.keep _ _ hx ne, tup_keep b p⟩, ⟨xs, e2, tup_keep b p⟩, ok⟩
  · rcases List.mem_append.mp hw with z | z
    · exact k.ne w z
    · rw [List.mem_singleton.mp z]
      exact ⟨qk, ne, lk⟩
theorem qfoot_snoc {kr : Addr} {ps : List (Addr × Addr × Addr)} {u : Addr × Addr × Addr} {x : Addr} (h : qfoot kr (ps ++ [u]) x) : qfoot kr ps x ∨ x = u.1 ∨ x = u.2.1 ∨ x = u.2.2 := by
  rcases h with h | ⟨w, hw, z⟩
  · exact .inl (.inl h)
  · rcases List.mem_append.mp hw with y | y
    · exact .inl (.inr ⟨w, y, z⟩)
    · rw [List.mem_singleton.mp y] at z
      exact .inr z
def spLKeptWell (_ : PySem.W.Frag) : Sp := fun vs H Q _ => ∃ (kr : Addr) (ps : List (Addr × Addr × Addr)), vs = [.ref kr] ∧ Kq H kr ps ∧ Q (.bl true) H
theorem len_LKeptWell {K : PySem.W.Frag} {vs : List V} {H : Hp} {Q : VK} {E : XK} (h : spLKeptWell K vs H Q E) : vs.length = 1 := by
  obtain ⟨_, _, rfl, _⟩ := h; rfl
theorem ok_LKeptWell {P : Program} {w : World} {K : PySem.W.Frag} {mg : Str → Option Value} {base : Heap} (T : Tx w K mg) : FnOk P w K mg base CX0 1 (He.fAd K dLKeptWell.at_) (fdO K dLKeptWell.at_) P_LKeptWell (spLKeptWell K) := by
  refine T.f_LKeptWell.ok sc_LKeptWell (fun vs H Q E h => len_LKeptWell h) (fun cdv A outer s H vs Q E hr h => ⟨_, PSs.nox ((pss_cons (ps_for PassesOwn.never rfl (pi_list (pv 0)) (pg_name (i := 1) sc_LKeptWell.nd rfl (Or.inl rfl)) (pss_one (ps_if (pt_cmpR (op_neD hr.units) (pe_ix ix_list (pv 1) pe_int (fun _ _ => rfl)) (pe_ix ix_list (pv 1) pe_int (fun _ _ => rfl)) (nomark _)) (pss_one (ps_ret pe_bl)) pss_nil)))
      (pss_one (ps_ret pe_bl)))), ?_⟩)
  obtain ⟨kr, ps, rfl, kp, k⟩ := h
  walk_at "rd"
  refine ⟨kr, rfl, ⟨_, SqL.of kp.at_⟩, for_list (K := K) (a := kr) (xs := ps.map fun u => V.ref u.1) (fun i σ H' => ∃ v, σ = [some (.ref kr), v] ∧ H' = H) ⟨none, rfl, rfl⟩ (fun i σ H' _ ⟨_, _, e⟩ => by rw [e]; exact SqL.of kp.at_) ?_ ?_⟩
  · rintro i x σ H' hi ⟨v, rfl, rfl⟩
    rw [List.getElem?_map] at hi
    cases eu : ps[i]? with
    | none => rw [eu] at hi; cases hi
    | some u =>
      rw [eu] at hi
      cases hi
      obtain ⟨e, rs, ⟨xs, ex, px⟩, ⟨ys, ey, py⟩, ok⟩ := kp.pr u (List.mem_of_getElem? eu)
      walk_at "rd"
      refine r_ixL (SqL.of e) (atI_get (j := 0) rfl rfl) ?_
      walk_at "rd"
      refine r_ixL (SqL.of e) (atI_get (j := 1) rfl rfl) ?_
      refine r_neRR (SqL.of ex) (SqL.of ey) px py ok ok ?_
      walk_at "rd"
      refine r_itn (fun z => absurd rfl z) (fun _ => ?_)
      walk_at "rd"
      exact ⟨_, rfl, rfl⟩
  · rintro σ H' ⟨v, rfl, rfl⟩
    walk_at "rd"
    exact k

/-! ### what stands of lines, of orders -/
def Ln.base (l : Ln) : Lt := ⟨l.item, l.ordered, l.cents, l.pack⟩
structure Ln.inv (l : Ln) : Prop where
  it : isItem l.item = true
  ok : l.ok
  a : 0 ≤ l.again
  b : l.again ≤ l.home
  c : l.home ≤ l.sent
  d : l.sent ≤ l.ordered + l.again
  e : 0 ≤ l.credited
  f : l.credited ≤ l.worth
theorem worth_mono {k m c p : Int} (h : k ≤ m) (hc : 0 ≤ c) (hp : 0 < p) : k * c / p ≤ m * c / p := Int.ediv_le_ediv hp (Int.mul_le_mul_of_nonneg_right h hc)
theorem worth_pos {k c p : Int} (h : 0 ≤ k) (hc : 0 ≤ c) (hp : 0 < p) : 0 ≤ k * c / p := Int.ediv_nonneg (Int.mul_nonneg h hc) (Int.le_of_lt hp)
theorem Ln.turn_inv {l l' : Ln} {w : Str} {n : Int} (h : l.inv) (hn : 1 ≤ n) (e : l.turn w n = some l') : l'.inv ∧ l'.base = l.base := by
  have hc : 0 ≤ l.cents := h.ok.1.1
  have hp : 0 < l.pack := by have := h.ok.2.1; omega
  have ha := h.a
  have hb := h.b
  have hcc := h.c
  have hd := h.d
  have he := h.e
  have hf : l.credited ≤ (l.sent - l.home) * l.cents / l.pack := h.f
  unfold Ln.turn at e
  split at e
  · unfold Ln.deliver at e
    split at e
    · cases e
    rename_i q
    have q' : ¬ n > l.ordered - l.sent + l.again := q
    cases e
    refine ⟨⟨h.it, h.ok, h.a, h.b, ?_, ?_, h.e, ?_⟩, rfl⟩
    · show l.home ≤ l.sent + n
      omega
    · show l.sent + n ≤ l.ordered + l.again
      omega
    · show l.credited ≤ (l.sent + n - l.home) * l.cents / l.pack
      exact Int.le_trans hf (worth_mono (by omega) hc hp)
  · split at e
    · unfold Ln.reduce at e
      split at e
      · cases e
      rename_i q
      have q' : ¬ n > (l.sent - l.home) * l.cents / l.pack - l.credited := q
      cases e
      refine ⟨⟨h.it, h.ok, h.a, h.b, h.c, h.d, ?_, ?_⟩, rfl⟩
      · show 0 ≤ l.credited + n
        omega
      · show l.credited + n ≤ (l.sent - l.home) * l.cents / l.pack
        omega
    · unfold Ln.bring at e
      split at e
      · cases e
      rename_i q
      have q' : ¬ n > l.sent - l.home := q
      have cut : ∀ m : Ln, isItem m.item = true → m.ok → 0 ≤ m.again → m.again ≤ m.home → m.home ≤ m.sent → m.sent ≤ m.ordered + m.again → 0 ≤ m.credited → 0 ≤ m.worth → m.cut.inv ∧ m.cut.base = m.base := fun m h1 h2 h3 h4 h5 h6 h7 h8 => by
        refine ⟨⟨h1, h2, h3, h4, h5, h6, ?_, ?_⟩, rfl⟩
        · show 0 ≤ (if m.worth < m.credited then m.worth else m.credited)
          split <;> omega
        · show (if m.worth < m.credited then m.worth else m.credited) ≤ m.worth
          split <;> omega
      cases e
      split
      · refine cut _ h.it h.ok ?_ ?_ ?_ ?_ h.e (worth_pos ?_ hc hp)
        · show 0 ≤ l.again + n
          omega
        · show l.again + n ≤ l.home + n
          omega
        · show l.home + n ≤ l.sent
          omega
        · show l.sent ≤ l.ordered + (l.again + n)
          omega
        · show 0 ≤ l.sent - (l.home + n)
          omega
      · refine cut _ h.it h.ok h.a ?_ ?_ h.d h.e (worth_pos ?_ hc hp)
        · show l.again ≤ l.home + n
          omega
        · show l.home + n ≤ l.sent
          omega
        · show 0 ≤ l.sent - (l.home + n)
          omega
structure Od.inv (o : Od) : Prop where
  ln : ∀ l, l ∈ o.lines → l.inv
  mo : 0 ≤ o.money
  su : (o.marks.map (·.2)).sum = o.owing
  st : ∀ m, m ∈ o.marks → PyData.strOk m.1 = true
  few : o.lines.length ≤ 20
theorem charges_pos : ∀ {ls : List Ln}, (∀ l, l ∈ ls → l.inv) → 0 ≤ (ls.map Ln.charge).sum
  | [], _ => Int.le_refl _
  | l :: ls, h => by
    have h1 := (h l List.mem_cons_self).f
    have h2 := charges_pos (ls := ls) fun x hx => h x (List.mem_cons_of_mem _ hx)
    show 0 ≤ l.charge + (ls.map Ln.charge).sum
    have h3 : l.charge = l.worth - l.credited := rfl
    omega
theorem Od.inv.marked {o : Od} {w : Str} {c : Int} (ln : ∀ l, l ∈ o.lines → l.inv) (mo : 0 ≤ o.money) (st : ∀ m, m ∈ o.marks → PyData.strOk m.1 = true) (few : o.lines.length ≤ 20) (hw : PyData.strOk w = true) (su : (o.marks.map (·.2)).sum + c = o.owing) : (o.mark w c).inv where
  ln := ln
  mo := mo
  su := by
    show ((o.marks ++ [(w, c)]).map (·.2)).sum = Od.owing o
    rw [List.map_append, List.sum_append]
    simp
    exact su
  st := fun m hm => by
    rcases List.mem_append.mp hm with h | h
    · exact st m h
    · rw [List.mem_singleton.mp h]; exact hw
  few := few
theorem charge_zero : ∀ ls : List Lt, ((ls.map Lt.ln).map Ln.charge).sum = 0
  | [] => rfl
  | t :: r => by
    have ih := charge_zero r
    have cz : t.ln.charge = 0 := by
      show ((0 - 0) * t.cents) / t.pack - 0 = 0
      simp
    show t.ln.charge + ((r.map Lt.ln).map Ln.charge).sum = 0
    omega
/-- what a step did of each order -/
structure Chg (d : Dd) (os es : List Od) (cs : List (Int × Int)) : Prop where
  at_ : ∀ (j : Nat) a b, os[j]? = some a → es[j]? = some b → ((cs.filter fun c => decide (c.1 = (j : Int))).length ≤ 1 ∧ b.owing - a.owing = ((cs.filter fun c => decide (c.1 = (j : Int))).map (·.2)).sum ∧
    ((cs.filter fun c => decide (c.1 = (j : Int))) = [] → b = a) ∧ (wLn (word d) → b.money = a.money) ∧ (¬ wLn (word d) → b.lines = a.lines) ∧ b.lines.map Ln.base = a.lines.map Ln.base)
  sum : (cs.map (·.2)).sum = (es.map Od.owing).sum - (os.map Od.owing).sum
  inv : (∀ o, o ∈ os → o.inv) → ∀ o, o ∈ es → o.inv
theorem sum_set {os : List Od} {j : Nat} {a b : Od} (ea : os[j]? = some a) : ((os.set j b).map Od.owing).sum = (os.map Od.owing).sum + (b.owing - a.owing) := by
  induction os generalizing j with
  | nil => simp at ea
  | cons o r ih =>
    cases j with
    | zero =>
      have e : o = a := Option.some.inj ea
      subst e
      show b.owing + (r.map Od.owing).sum = o.owing + (r.map Od.owing).sum + _
      omega
    | succ j =>
      have q := ih (j := j) (by simpa using ea)
      show o.owing + ((r.set j b).map Od.owing).sum = o.owing + (r.map Od.owing).sum + _
      omega
theorem set_at {os : List Od} {j k : Nat} {a b x y : Od} (ea : os[j]? = some a) (ex : os[k]? = some x) (ey : (os.set j b)[k]? = some y) : (k = j ∧ x = a ∧ y = b) ∨ (k ≠ j ∧ y = x) := by
  have hj := (List.getElem?_eq_some_iff.mp ea).1
  by_cases c : k = j
  · subst c
    rw [List.getElem?_set_self hj] at ey
    rw [ea] at ex
    exact .inl ⟨rfl, (Option.some.inj ex).symm, (Option.some.inj ey).symm⟩
  · rw [List.getElem?_set_ne (Ne.symm c), ex] at ey
    exact .inr ⟨c, (Option.some.inj ey).symm⟩
theorem chg_one {d : Dd} {os : List Od} {j : Nat} {a b : Od} (ea : os[j]? = some a) (h1 : wLn (word d) → b.money = a.money) (h2 : ¬ wLn (word d) → b.lines = a.lines) (h3 : b.lines.map Ln.base = a.lines.map Ln.base) (h4 : a.inv → b.inv) :
    Chg d os (os.set j b) [((j : Int), b.owing - a.owing)] where
  at_ := fun k x y ex ey => by
    rcases set_at ea ex ey with ⟨rfl, rfl, rfl⟩ | ⟨n, rfl⟩
    · have e : ([((k : Int), y.owing - x.owing)].filter fun c => decide (c.1 = (k : Int))) = [((k : Int), y.owing - x.owing)] := by simp
      rw [e]
      exact ⟨Nat.le_refl _, by simp, fun z => (by cases z), h1, h2, h3⟩
    · have e : ([((j : Int), b.owing - a.owing)].filter fun c => decide (c.1 = (k : Int))) = [] := by
        have : ¬ (j : Int) = (k : Int) := by omega
        simp [this]
      rw [e]
      exact ⟨Nat.zero_le _, by simp, fun _ => rfl, fun _ => rfl, fun _ => rfl, rfl⟩
  sum := by
    rw [sum_set ea]
    simp
    omega
  inv := fun h o ho => by
    rcases set_mem ho with q | q
    · exact h o q
    · rw [q]; exact h4 (h a (List.mem_of_getElem? ea))
theorem step_chg {os es : List Od} {d : Dd} {cs : List (Int × Int)} (g : d.good) (gd : ∀ ls, d = .ord ls → Good ls) (st : step os d = .ok (es, cs)) : Chg d os es cs := by
  cases d with
  | ord ls =>
    have G := gd ls rfl
    have e' : stepOrd os ls = .ok (es, cs) := st
    unfold stepOrd at e'
    split at e'
    · cases e'
    cases e'
    have oz : Od.owing ⟨ls.map Lt.ln, 0, []⟩ = 0 := by
      have := charge_zero ls
      show ((ls.map Lt.ln).map Ln.charge).sum - 0 = 0
      omega
    refine ⟨fun j a b ea eb => ?_, ?_, fun h o ho => ?_⟩
    · rw [List.getElem?_append_left (List.getElem?_eq_some_iff.mp ea).1, ea] at eb
      cases eb
      exact ⟨Nat.zero_le _, by simp, fun _ => rfl, fun _ => rfl, fun _ => rfl, rfl⟩
    · rw [List.map_append, List.sum_append]
      simp [oz]
    · rcases List.mem_append.mp ho with q | q
      · exact h o q
      · rw [List.mem_singleton.mp q]
        refine ⟨fun l hl => ?_, Int.le_refl _, by rw [oz]; rfl, fun m hm => (by cases hm), by simpa using G.1.2⟩
        obtain ⟨t, ht, rfl⟩ := List.mem_map.mp hl
        obtain ⟨hi, n1, n2, n3⟩ := G.2 t ht
        refine ⟨hi, ⟨n2, n3⟩, Int.le_refl _, Int.le_refl _, Int.le_refl _, ?_, Int.le_refl _, ?_⟩
        · show (0 : Int) ≤ t.pieces + 0
          omega
        · show (0 : Int) ≤ ((0 - 0) * t.cents) / t.pack
          simp
  | ln w o l n =>
    have e' : stepLn os w o l n = .ok (es, cs) := st
    unfold stepLn at e'
    rcases at_or os o with ⟨q, _⟩ | ⟨j, od, rfl, eo, q⟩
    · rw [q] at e'; cases e'
    rw [q] at e'
    dsimp only at e'
    rcases at_or od.lines l with ⟨q, _⟩ | ⟨i, x, rfl, el, q⟩
    · rw [q] at e'; cases e'
    rw [q] at e'
    dsimp only at e'
    split at e'
    · cases e'
    rename_i hn
    cases et : x.turn w n with
    | none => rw [et] at e'; cases e'
    | some x' =>
      rw [et] at e'
      cases e'
      have hwl : wLn (word (.ln w j i n)) := g
      have bs : x.inv → x'.inv ∧ x'.base = x.base := fun h => Ln.turn_inv h (by omega) et
      have bb : x'.base = x.base := by
        rcases turn_def g et with ⟨_, rfl⟩ | ⟨_, rfl⟩ | ⟨_, _, rfl⟩
        · rfl
        · rfl
        · rfl
      have ob : (od.lines.set i x').map Ln.base = od.lines.map Ln.base := by
        rw [List.map_set, bb]
        have hi := (List.getElem?_eq_some_iff.mp el).1
        have : (od.lines.map Ln.base)[i]? = some x.base := by rw [List.getElem?_map, el]; rfl
        apply List.ext_getElem?
        intro k
        by_cases c : i = k
        · subst c
          rw [List.getElem?_set_self (by simpa using hi), this]
        · rw [List.getElem?_set_ne c]
      refine chg_one (b := Od.mark { od with lines := od.lines.set i x' } w (Od.owing { od with lines := od.lines.set i x' } - od.owing)) eo (fun _ => rfl) (fun z => absurd hwl z) ob fun h => ?_
      refine Od.inv.marked (fun y hy => ?_) h.mo h.st (by show (od.lines.set i x').length ≤ 20; rw [List.length_set]; exact h.few) (word_str (d := .ln w j i n) g) ?_
      · rcases List.mem_or_eq_of_mem_set hy with z | z
        · exact h.ln y z
        · rw [z]; exact (bs (h.ln x (List.mem_of_getElem? el))).1
      · show (od.marks.map (·.2)).sum + _ = _
        rw [h.su]
        omega
  | mo w o n =>
    have e' : stepMo os w o n = .ok (es, cs) := st
    unfold stepMo at e'
    rcases at_or os o with ⟨q, _⟩ | ⟨j, od, rfl, eo, q⟩
    · rw [q] at e'; cases e'
    rw [q] at e'
    dsimp only at e'
    have nw : ¬ wLn (word (.mo w j n)) := fun z => by
      have z' : wLn w := z
      rcases g with rfl | rfl
      · exact (gln z').2.2.1 rfl
      · exact (gln z').2.2.2 rfl
    have fin : ∀ m : Int, (od.inv → 0 ≤ od.money + m) → Chg (.mo w j n) os (os.set j (Od.mark (od.pay m) w ((od.pay m).owing - od.owing))) [((j : Int), (od.pay m).owing - od.owing)] := fun m hm =>
      chg_one (b := Od.mark (od.pay m) w ((od.pay m).owing - od.owing)) eo (fun z => absurd z nw) (fun _ => rfl) rfl fun h => Od.inv.marked h.ln (hm h) h.st h.few (word_str (d := .mo w j n) g) (by
        show (od.marks.map (·.2)).sum + _ = _
        rw [h.su]
        omega)
    split at e'
    · cases e'
    rename_i hn
    split at e'
    · cases e'
      exact fin n fun h => by have := h.mo; omega
    split at e'
    · cases e'
    rename_i ho
    cases e'
    refine fin (-n) fun h => ?_
    have c := charges_pos h.ln
    have ow : od.owing = (od.lines.map Ln.charge).sum - od.money := rfl
    omega
  | mv o p n =>
    have e' : stepMv os o p n = .ok (es, cs) := st
    unfold stepMv at e'
    rcases at_or os o with ⟨q, _⟩ | ⟨i, a, rfl, ea, q⟩
    · rw [q] at e'; cases e'
    rw [q] at e'
    dsimp only at e'
    rcases at_or os p with ⟨q, _⟩ | ⟨j, b, rfl, eb, q⟩
    · rw [q] at e'; cases e'
    rw [q] at e'
    dsimp only at e'
    split at e'
    · cases e'
    rename_i hij
    split at e'
    · cases e'
    rename_i hn
    split at e'
    · cases e'
    rename_i ho
    cases e'
    have ij : i ≠ j := fun z => hij (by rw [z])
    have nw : ¬ wLn (word (.mv i j n)) := fun z => by
      have z' : wLn ("move" : Str) := z
      exact (gln z').2.1 rfl
    have ms : PyData.strOk ("move" : Str) = true := by decide +kernel
    have a2 : a.inv → (Od.mark (a.pay (-n)) "move" ((a.pay (-n)).owing - a.owing)).inv := fun h => Od.inv.marked h.ln (by
      have c := charges_pos h.ln
      have ow : a.owing = (a.lines.map Ln.charge).sum - a.money := rfl
      show 0 ≤ a.money + -n
      omega) h.st h.few ms (by
      show (a.marks.map (·.2)).sum + _ = _
      rw [h.su]
      omega)
    have b2 : b.inv → (Od.mark (b.pay n) "move" ((b.pay n).owing - b.owing)).inv := fun h => Od.inv.marked h.ln (by
      have := h.mo
      show 0 ≤ b.money + n
      omega) h.st h.few ms (by
      show (b.marks.map (·.2)).sum + _ = _
      rw [h.su]
      omega)
    have c1 := chg_one (d := .mv i j n) (b := Od.mark (a.pay (-n)) "move" ((a.pay (-n)).owing - a.owing)) ea (fun z => absurd z nw) (fun _ => rfl) rfl a2
    have eb' : (os.set i (Od.mark (a.pay (-n)) "move" ((a.pay (-n)).owing - a.owing)))[j]? = some b := by rw [List.getElem?_set_ne ij]; exact eb
    have c2 := chg_one (d := .mv i j n) (b := Od.mark (b.pay n) "move" ((b.pay n).owing - b.owing)) eb' (fun z => absurd z nw) (fun _ => rfl) rfl b2
    have app : ∀ k : Int, ([((i : Int), (a.pay (-n)).owing - a.owing), ((j : Int), (b.pay n).owing - b.owing)].filter fun c => decide (c.1 = k)) = ([((i : Int), (a.pay (-n)).owing - a.owing)].filter fun c => decide (c.1 = k)) ++ ([((j : Int), (b.pay n).owing - b.owing)].filter fun c => decide (c.1 = k)) := fun k => List.filter_append (p := fun c : Int × Int => decide (c.1 = k)) [_] [_]
    refine ⟨fun k x z ex ez => ?_, ?_, fun h => c2.inv (c1.inv h)⟩
    · obtain ⟨y, ey⟩ : ∃ y, (os.set i (Od.mark (a.pay (-n)) "move" ((a.pay (-n)).owing - a.owing)))[k]? = some y := by
        have := (List.getElem?_eq_some_iff.mp ex).1
        exact ⟨_, List.getElem?_eq_getElem (by rw [List.length_set]; exact this)⟩
      have q1 : ([((i : Int), (a.pay (-n)).owing - a.owing)].filter fun c => decide (c.1 = (k : Int))).length ≤ 1 ∧ y.owing - x.owing = (([((i : Int), (a.pay (-n)).owing - a.owing)].filter fun c => decide (c.1 = (k : Int))).map (·.2)).sum ∧ _ := c1.at_ k x y ex ey
      have q2 : ([((j : Int), (b.pay n).owing - b.owing)].filter fun c => decide (c.1 = (k : Int))).length ≤ 1 ∧ z.owing - y.owing = (([((j : Int), (b.pay n).owing - b.owing)].filter fun c => decide (c.1 = (k : Int))).map (·.2)).sum ∧ _ := c2.at_ k y z ey ez
      rw [app]
      obtain ⟨u1, u2, u3, u4, u5, u6⟩ := q1
      obtain ⟨v1, v2, v3, v4, v5, v6⟩ := q2
      refine ⟨?_, by rw [List.map_append, List.sum_append]; omega, fun w => ?_, fun w => absurd w nw, fun w => (v5 w).trans (u5 w), v6.trans u6⟩
      · rw [List.length_append]
        by_cases ki : (i : Int) = (k : Int)
        · have : ¬ (j : Int) = (k : Int) := by omega
          have e2 : ([((j : Int), (b.pay n).owing - b.owing)].filter fun c => decide (c.1 = (k : Int))) = [] := by simp [this]
          rw [e2]
          simpa using u1
        · have e2 : ([((i : Int), (a.pay (-n)).owing - a.owing)].filter fun c => decide (c.1 = (k : Int))) = [] := by simp [ki]
          rw [e2]
          simpa using v1
      · obtain ⟨w1, w2⟩ := List.append_eq_nil_iff.mp w
        exact (v3 w2).trans (u3 w1)
    · have s1 := c1.sum
      have s2 := c2.sum
      have s1' : (a.pay (-n)).owing - a.owing + 0 = _ := s1
      have s2' : (b.pay n).owing - b.owing + 0 = _ := s2
      show (a.pay (-n)).owing - a.owing + ((b.pay n).owing - b.owing + 0) = _
      omega

/-! ### what is seen of all orders -/
theorem td_rows {H : Hp} : ∀ {xs : List V} {ls : List Ln}, Paired (TdAt H) xs ls → Paired (TupAt H) xs (ls.map lnTold)
  | _, _, .nil => .nil
  | _, _, .cons ⟨t, e, h⟩ r => .cons ⟨t, e, h⟩ (td_rows r)
theorem told_ok {ls : List Ln} (h : ∀ l, l ∈ ls → isItem l.item = true) : Rws (ls.map lnTold) := fun r hr => by
  obtain ⟨l, hl, rfl⟩ := List.mem_map.mp hr
  exact .cons (.inr ⟨_, rfl, item_str (h l hl)⟩) (.cons .int (.cons .int (.cons .int (.cons .int (.cons .int .nil)))))
structure SeenAt (S : Addr → Prop) (H : Hp) (r : Addr) (os : List Od) : Prop where
  sr : S r
  ex : ∃ fs : List Addr, H r = some (.lst (fs.map V.ref)) ∧ fs.length = os.length ∧ ∀ (j : Nat) f o, fs[j]? = some f → os[j]? = some o → S f ∧ ∃ l w, S l ∧ S w ∧ H f = some (.lst [.ref l, .int o.money, .int o.owing, .ref w]) ∧ RowsAt H l (o.lines.map lnTold) ∧ RowsAt H w (o.marks.map mkRow)
theorem SeenAt.keep {S T : Addr → Prop} {H H' : Hp} {r : Addr} {os : List Od} (h : SeenAt S H r os) (b : But T H H') (n : ∀ x, S x → ¬ T x) : SeenAt S H' r os := by
  obtain ⟨sr, fs, e, l, at_⟩ := h
  refine ⟨sr, fs, b.keep _ _ e (n _ sr), l, fun j f o e1 e2 => ?_⟩
  obtain ⟨sf, l, w, sl, sw, ef, rl, rw_⟩ := at_ j f o e1 e2
  exact ⟨sf, l, w, sl, sw, b.keep _ _ ef (n _ sf), rl.keep b (n _ sl), rw_.keep b (n _ sw)⟩
theorem SeenAt.same {S : Addr → Prop} {H H' : Hp} {r : Addr} {os : List Od} (h : SeenAt S H r os) (s : Same H H') : SeenAt S H' r os := h.keep (But.of (S := fun _ => False) s) fun _ _ => id
theorem inv_told {o : Od} (h : o.inv) : Rws (o.lines.map lnTold) := told_ok fun l hl => (h.ln l hl).it
theorem inv_mks {o : Od} (h : o.inv) : Rws (o.marks.map mkRow) := mk_rws h.st
structure Loop (H1 : Hp) (fr kr : Addr) (os : List Od) (n0 i : Nat) (H' : Hp) (fs : List Addr) (ps : List (Addr × Addr × Addr)) : Prop where
  ef : H' fr = some (.lst (fs.map V.ref))
  lf : fs.length = i
  at_ : ∀ (j : Nat) f o, fs[j]? = some f → os[j]? = some o → H1 f = none ∧ ∃ l w, H1 l = none ∧ H1 w = none ∧ H' f = some (.lst [.ref l, .int o.money, .int o.owing, .ref w]) ∧ RowsAt H' l (o.lines.map lnTold) ∧ RowsAt H' w (o.marks.map mkRow)
  kq : Kq H' kr ps
  lp : ps.length ≤ n0 + 2 * i
  but : But (fun x => x = kr ∨ x = fr) H1 H'
  st : Stay H1 H'
  gr : ∀ x, qfoot kr ps x → (∃ o, H1 x = some o ∧ x ≠ fr) ∨ H1 x = none
def spLSeen (K : PySem.W.Frag) : Sp := fun vs H Q _ => ∃ (b : Addr) (B : Bk) (L : Lay) (kr : Addr) (ps : List (Addr × Addr × Addr)), vs = [.ref b, .ref kr] ∧ BookAt K H b B L ∧ B.each.length = 2 ∧ B.ok ∧ (∀ o, o ∈ B.each → o.inv) ∧ B.trail.length ≤ 10000 ∧ Kq H kr ps ∧ (∀ x, L.own x ≠ .no → ¬ qfoot kr ps x) ∧ ps.length < 80000 ∧
  ∀ r ps' H', SeenAt (fun x => H x = none ∧ ∃ o, H' x = some o) H' r B.each → Kq H' kr ps' → ps'.length ≤ ps.length + 2 * B.each.length → But (· = kr) H H' → Stay H H' → (∀ x, qfoot kr ps' x → qfoot kr ps x ∨ H x = none) → Q (.ref r) H'
theorem len_LSeen {K : PySem.W.Frag} {vs : List V} {H : Hp} {Q : VK} {E : XK} (h : spLSeen K vs H Q E) : vs.length = 2 := by
  obtain ⟨_, _, _, _, _, rfl, _⟩ := h; rfl
theorem ok_LSeen {P : Program} {w : World} {K : PySem.W.Frag} {mg : Str → Option Value} {base : Heap} (T : Tx w K mg) : FnOk P w K mg base CX0 6 (He.fAd K dLSeen.at_) (fdO K dLSeen.at_) P_LSeen (spLSeen K) := by
  refine T.f_LSeen.ok sc_LSeen (fun vs H Q E h => len_LSeen h) (fun cdv A outer s H vs Q E hr h => ⟨_, PSs.nox ((pss_cons (ps_set (i := 2) sc_LSeen.nd rfl (Or.inl rfl) (pe_lst pa_nil))
      (pss_cons (ps_for PassesOwn.never rfl (pi_range1 (by rfl) T.b_range (pa_cons pe_int pa_nil)) (pg_name (i := 3) sc_LSeen.nd rfl (Or.inl rfl)) (pss_cons (ps_set (i := 4) sc_LSeen.nd rfl (Or.inl rfl) (pe_meth (pv 0) T.cl_Book T.m_Book_told (ok_BookTold T) (hr.mono (by decide)) T.b_BookTold .nil passL (pa_cons (pv 3) pa_nil)))
      (pss_cons (ps_set (i := 5) sc_LSeen.nd rfl (Or.inl rfl) (pe_meth (pv 0) T.cl_Book T.m_Book_rows (ok_BookRows T) (hr.mono (by decide)) T.b_BookRows .nil passL (pa_cons (pv 3) pa_nil)))
      (pss_cons (ps_expr (pe_bm PySem.F.plainAttrs_list PySem.F.slot_list_append PySem.F.type_list_append mt_append (pv 1) (pa_cons (pe_lst (pa_cons (pv 4) (pa_cons (pe_callTy call_list_of (by rfl) T.b_list (by decide +kernel) (pa_cons (pv 4) pa_nil)) pa_nil))) pa_nil)))
      (pss_cons (ps_expr (pe_bm PySem.F.plainAttrs_list PySem.F.slot_list_append PySem.F.type_list_append mt_append (pv 1) (pa_cons (pe_lst (pa_cons (pv 5) (pa_cons (pe_callTy call_list_of (by rfl) T.b_list (by decide +kernel) (pa_cons (pv 5) pa_nil)) pa_nil))) pa_nil)))
      (pss_one (ps_expr (pe_bm PySem.F.plainAttrs_list PySem.F.slot_list_append PySem.F.type_list_append mt_append (pv 2) (pa_cons (pe_lst (pa_cons (pe_callTy call_list_of (by rfl) T.b_list (by decide +kernel) (pa_cons (pv 4) pa_nil)) (pa_cons (pe_meth (pv 0) T.cl_Book T.m_Book_paid (ok_BookPaid T) (hr.mono (by decide)) T.b_BookPaid .nil passL (pa_cons (pv 3) pa_nil)) (pa_cons (pe_meth (pv 0) T.cl_Book T.m_Book_owed (ok_BookOwed T) (hr.mono (by decide)) T.b_BookOwed .nil passL (pa_cons (pv 3) pa_nil)) (pa_cons (pe_callTy call_list_of (by rfl) T.b_list (by decide +kernel) (pa_cons (pv 5) pa_nil)) pa_nil))))) pa_nil)))))))))
      (pss_one (ps_ret (pv 2)))))), ?_⟩)
  obtain ⟨b, B, L, kr, ps, rfl, h, two, ok, inv, tr, kq, ap, hz, k⟩ := h
  have f40 := ok.few
  walk_at "rd"
  refine r_mk (by simp) fun fr hfr => ?_
  have s0 := same_upd (o := .lst []) hfr
  have e0 : upd H fr (.lst []) fr = some (.lst []) := upd_same
  have only : ∀ x o, upd H fr (.lst []) x = some o → x ≠ fr → H x = some o := fun x o e n => by rw [upd_ne n] at e; exact e
  have free0 : ∀ x, upd H fr (.lst []) x = none → H x = none := fun x e => (upd_none e).2
  revert s0 e0 only free0
  generalize upd H fr (.lst []) = H1
  intro s0 e0 only free0
  have h1 := h.same s0
  have kf : kr ≠ fr := ne_of_none kq.at_ hfr
  have nkr : ¬ L.own kr ≠ .no := fun z => ap kr z (.inl rfl)
  have nfr : ¬ L.own fr ≠ .no := fun z => z (h.fresh hfr)
  walk_at "rd"
  refine ⟨(B.each.length : Int), by rw [two]; rfl, by omega, by omega, for_range (lo := 0) (n := B.each.length) (fun i σ H' => ∃ (v4 v5 v6 : Option V) (fs : List Addr) (ps' : List (Addr × Addr × Addr)), σ = [some (.ref b), some (.ref kr), some (.ref fr), v4, v5, v6] ∧ Loop H1 fr kr B.each ps.length i H' fs ps' ∧ ∀ x, qfoot kr ps' x → qfoot kr ps x ∨ H x = none)
    ⟨none, none, none, [], ps, rfl, ⟨e0, rfl, (fun j f o e => by simp at e), kq.same s0, Nat.le_refl _, But.refl, fun _ e => e, fun x z => ?_⟩, fun x z => .inl z⟩ ?_ ?_⟩
  · obtain ⟨o, e⟩ := kq.dom z
    exact .inl ⟨o, s0 _ _ e, ne_of_none e hfr⟩
  · rintro j σ H2 hj ⟨v4, v5, v6, fs, ps1, rfl, N, gr1⟩
    rw [Int.zero_add]
    have lp1 := N.lp
    have eo : B.each[j]? = some B.each[j] := List.getElem?_eq_getElem hj
    have om := List.getElem_mem hj
    have mk := ok.mks _ om
    have oi := inv _ om
    revert eo oi mk
    generalize B.each[j] = o
    intro eo mk oi
    have f20 := oi.few
    have bad : ∀ {P : Prop}, ¬ (0 ≤ (j : Int) ∧ (j : Int) < B.each.length) → P := fun z => absurd ⟨by omega, by omega⟩ z
    have eq : ∀ {j' : Nat} {o' : Od}, (j : Int) = (j' : Int) → B.each[j']? = some o' → o' = o := fun {j' o'} e1 e2 => by
      have : j = j' := by omega
      subst this
      rw [eo] at e2
      exact (Option.some.inj e2).symm
    have nT : ∀ x, L.own x ≠ .no → ¬ (x = kr ∨ x = fr) := fun x z w => w.elim (fun q => nkr (by rw [← q]; exact z)) fun q => nfr (by rw [← q]; exact z)
    have h2 := h1.keep N.but nT
    obtain ⟨d2, hb2⟩ := h2.ob
    walk_at "rd"
    refine r_m hb2 (no_Book_told _ _) ?_
    walk_at "rd"
    refine ⟨b, B, L, _, rfl, h2, ok, fun z => bad z, fun j' o1 e1 e2 r1 H3 x1 s3 nr1 er1 pr1 => ?_⟩
    obtain rfl := eq e1 e2
    have h3 := h2.same s3
    walk_at "rd"
    refine r_m (s3 _ _ hb2) (no_Book_rows _ _) ?_
    walk_at "rd"
    refine ⟨b, B, L, _, rfl, h3, ok, fun z => bad z, fun j' o2 e1 e2 r2 H4 x2 s4 nr2 er2 pr2 => ?_⟩
    obtain rfl := eq e1 e2
    have h4 := h3.same s4
    have s34 := s3.trans s4
    have t1 : Paired (TupAt H4) x1 (o2.lines.map lnTold) := tup_keep (But.of (S := fun _ => False) s4) (td_rows pr1)
    have t2 : Paired (TupAt H4) x2 (o2.marks.map mkRow) := mk_rows pr2
    have w1 := inv_told oi
    have w2 := inv_mks oi
    have kq4 := N.kq.same s34
    have er14 := s4 _ _ er1
    have k1 : r1 ≠ kr := fun z => N.kq.fresh nr1 (.inl z)
    have k2 : r2 ≠ kr := fun z => (N.kq.same s3).fresh nr2 (.inl z)
    have z1 : H1 r1 = none := N.st _ nr1
    have z2 : H1 r2 = none := N.st _ (Same.free s3 nr2)
    have f1 : r1 ≠ fr := fun z => by rw [z, e0] at z1; cases z1
    have f2 : r2 ≠ fr := fun z => by rw [z, e0] at z2; cases z2
    have st4 : Stay H1 H4 := fun x e => N.st _ (Same.free s34 e)
    have l1 : x1.length = o2.lines.length := by rw [t1.length, List.length_map]
    have l2 : x2.length = o2.marks.length := by rw [t2.length, List.length_map]
    walk_at "rd"
    refine r_tyL (SqL.of kq4.at_) ?_
    walk_at "rd"
    refine ⟨r1, x1, rfl, .inl (SqL.of er14), fun l1' hl1 => ?_⟩
    walk_at "rd"
    refine r_mk (by simp) fun q1 hq1 => ?_
    obtain ⟨pe1, kq5, bp1, sp1, nq1⟩ := kq_push kq4 er14 t1 w1 k1 hl1 hq1
    walk_at "rd"
    refine r_app pe1 (by simp; exact sz5l (by omega)) ?_
    have u1 : upd H4 l1' (.lst x1) q1 = none → q1 ≠ l1' ∧ H4 q1 = none := upd_none
    revert kq5 bp1 sp1
    generalize upd (upd (upd H4 l1' (.lst x1)) q1 (.lst [.ref r1, .ref l1'])) kr _ = H5
    intro kq5 bp1 sp1
    have er15 := bp1.keep _ _ er14 k1
    have er25 := bp1.keep _ _ er2 k2
    have t15 := tup_keep bp1 t1
    have t25 := tup_keep bp1 t2
    walk_at "rd"
    refine r_tyL (SqL.of kq5.at_) ?_
    walk_at "rd"
    refine ⟨r2, x2, rfl, .inl (SqL.of er25), fun l2' hl2 => ?_⟩
    walk_at "rd"
    refine r_mk (by simp) fun q2 hq2 => ?_
    obtain ⟨pe2, kq6, bp2, sp2, nq2⟩ := kq_push kq5 er25 t25 w2 k2 hl2 hq2
    walk_at "rd"
    refine r_app pe2 (by simp; exact sz5l (by omega)) ?_
    revert kq6 bp2 sp2
    generalize upd (upd (upd H5 l2' (.lst x2)) q2 (.lst [.ref r2, .ref l2'])) kr _ = H6
    intro kq6 bp2 sp2
    have bp := bp1.trans bp2
    have er16 := bp2.keep _ _ er15 k1
    have er26 := bp2.keep _ _ er25 k2
    have t16 := tup_keep bp t1
    have t26 := tup_keep bp t2
    have h6 := h4.keep bp fun x z w => nkr (by rw [← show x = kr from w]; exact z)
    have st6 : Stay H1 H6 := fun x e => st4 _ (sp1 _ (sp2 _ e))
    have b6 : But (fun x => x = kr ∨ x = fr) H1 H6 := (N.but.trans (But.of s34)).trans (bp.mono fun x z => .inl z)
    have ef6 : H6 fr = some (.lst (fs.map V.ref)) := bp.keep _ _ (s34 _ _ N.ef) (Ne.symm kf)
    have at6 : ∀ (j : Nat) f o, fs[j]? = some f → B.each[j]? = some o → H1 f = none ∧ ∃ l w, H1 l = none ∧ H1 w = none ∧ H6 f = some (.lst [.ref l, .int o.money, .int o.owing, .ref w]) ∧ RowsAt H6 l (o.lines.map lnTold) ∧ RowsAt H6 w (o.marks.map mkRow) := fun j f o e1 e2 => by
      obtain ⟨a1, l, w, a2, a3, a4, a5, a6⟩ := N.at_ j f o e1 e2
      have nk : ∀ x, H1 x = none → ¬ x = kr := fun x e z => by rw [z, s0 _ _ kq.at_] at e; cases e
      exact ⟨a1, l, w, a2, a3, bp.keep _ _ (s34 _ _ a4) (nk f a1), (a5.same s34).keep bp (nk l a2), (a6.same s34).keep bp (nk w a3)⟩
    have gr6 : ∀ x, qfoot kr (ps1 ++ [(q1, r1, l1')] ++ [(q2, r2, l2')]) x → qfoot kr ps1 x ∨ H1 x = none := fun x z => by
      rcases qfoot_snoc z with z | z
      · rcases qfoot_snoc z with z | z
        · exact .inl z
        · refine .inr ?_
          rcases z with rfl | rfl | rfl
          · exact st4 _ nq1
          · exact z1
          · exact st4 _ hl1
      · refine .inr ?_
        rcases z with rfl | rfl | rfl
        · exact st4 _ (sp1 _ nq2)
        · exact z2
        · exact st4 _ (sp1 _ hl2)
    obtain ⟨d6, hb6⟩ := h6.ob
    walk_at "rd"
    refine r_tyL (SqL.of ef6) ?_
    walk_at "rd"
    refine ⟨r1, x1, rfl, .inl (SqL.of er16), fun l hl => ?_⟩
    have s7 := same_upd (o := .lst x1) hl
    have h7 := h6.same s7
    walk_at "rd"
    refine r_m (s7 _ _ hb6) (no_Book_paid _ _) ?_
    walk_at "rd"
    refine ⟨b, B, L, _, rfl, h7, ok, fun z => bad z, fun j' o3 e1 e2 => ?_⟩
    obtain rfl := eq e1 e2
    walk_at "rd"
    refine r_m (s7 _ _ hb6) (no_Book_owed _ _) ?_
    walk_at "rd"
    refine ⟨b, B, L, _, rfl, h7, ok, fun z => bad z, fun j' o4 e1 e2 H8 s8 => ?_⟩
    obtain rfl := eq e1 e2
    have s68 := s7.trans s8
    walk_at "rd"
    refine ⟨r2, x2, rfl, .inl (SqL.of (s68 _ _ er26)), fun w hw => ?_⟩
    have s9 := same_upd (o := .lst x2) hw
    walk_at "rd"
    refine r_mk (by simp) fun f hf => ?_
    have s10 := same_upd (o := .lst [.ref l, .int o4.money, .int o4.owing, .ref w]) hf
    have s610 := (s68.trans s9).trans s10
    have el : upd (upd H8 w (.lst x2)) f (.lst [.ref l, .int o4.money, .int o4.owing, .ref w]) l = some (.lst x1) := s10 _ _ (s9 _ _ (s8 _ _ upd_same))
    have ew : upd (upd H8 w (.lst x2)) f (.lst [.ref l, .int o4.money, .int o4.owing, .ref w]) w = some (.lst x2) := s10 _ _ upd_same
    have eff : upd (upd H8 w (.lst x2)) f (.lst [.ref l, .int o4.money, .int o4.owing, .ref w]) f = some (.lst [.ref l, .int o4.money, .int o4.owing, .ref w]) := upd_same
    have nl : H6 l = none := hl
    have nw : H6 w = none := Same.free s68 hw
    have nf : H6 f = none := Same.free s68 (upd_none hf).2
    revert s610 el ew eff
    generalize upd (upd H8 w (.lst x2)) f (.lst [.ref l, .int o4.money, .int o4.owing, .ref w]) = H10
    intro s610 el ew eff
    have ef10 := s610 _ _ ef6
    walk_at "rd"
    refine r_app ef10 (by rw [List.length_map, N.lf]; exact sz5l (by omega)) ?_
    have b11 : But (· = fr) H10 (upd H10 fr (.lst (fs.map V.ref ++ [.ref f]))) := But.lst ef10 rfl
    have nfr2 : ∀ x, H6 x = none → ¬ x = fr := fun x e z => by rw [z, ef6] at e; cases e
    have nfr1 : ∀ x, H1 x = none → ¬ x = fr := fun x e z => by rw [z, e0] at e; cases e
    walk_at "rd"
    refine ⟨_, _, _, fs ++ [f], ps1 ++ [(q1, r1, l1')] ++ [(q2, r2, l2')], rfl, ⟨by rw [upd_same, List.map_append]; rfl, by simp [N.lf], fun i g o e1 e2 => ?_, ?_, by simp; omega, (b6.trans (But.of s610)).trans (b11.mono fun x z => .inr z), fun x e => st6 _ (Same.free s610 (upd_none e).2), fun x z => ?_⟩, fun x z => ?_⟩
    · by_cases hi : i < fs.length
      · rw [List.getElem?_append_left hi] at e1
        obtain ⟨a1, l, w, a2, a3, a4, a5, a6⟩ := at6 i g o e1 e2
        exact ⟨a1, l, w, a2, a3, b11.keep _ _ (s610 _ _ a4) (nfr1 g a1), (a5.same s610).keep b11 (nfr1 l a2), (a6.same s610).keep b11 (nfr1 w a3)⟩
      · have hi2 : i = fs.length := by
          have := (List.getElem?_eq_some_iff.mp e1).1
          simp at this
          omega
        subst hi2
        rw [List.getElem?_append_right (Nat.le_refl _), Nat.sub_self] at e1
        cases e1
        rw [N.lf, eo] at e2
        cases e2
        exact ⟨st6 _ nf, l, w, st6 _ nl, st6 _ nw, b11.keep _ _ eff (nfr2 _ nf), ⟨x1, b11.keep _ _ el (nfr2 l nl), tup_keep b11 (tup_keep (But.of (S := fun _ => False) s610) t16)⟩, ⟨x2, b11.keep _ _ ew (nfr2 w nw), tup_keep b11 (tup_keep (But.of (S := fun _ => False) s610) t26)⟩⟩
    · exact (kq6.same s610).keep b11 fun x z w => by
        rcases gr6 x z with q | q
        · rcases N.gr x q with ⟨_, _, n⟩ | n
          · exact n w
          · exact nfr1 x n w
        · exact nfr1 x q w
    · exact (gr6 x z).elim (N.gr x) .inr
    · exact (gr6 x z).elim (gr1 x) fun q => .inr (free0 x q)
  · rintro σ H2 ⟨v4, v5, v6, fs, ps1, rfl, N, gr1⟩
    have al : ∀ {x : Addr} {o : HO}, H1 x = none → H2 x = some o → (H x = none ∧ ∃ o, H2 x = some o) := fun {x o} e q => ⟨free0 x e, o, q⟩
    walk_at "rd"
    refine k fr ps1 H2 ⟨⟨hfr, _, N.ef⟩, fs, N.ef, N.lf, fun j f o e1 e2 => ?_⟩ N.kq N.lp ⟨fun x o e n => ?_, fun x o e => N.but.tup _ _ (s0 _ _ e)⟩ (fun x e => free0 _ (N.st _ e)) gr1
    · obtain ⟨a1, l, w, a2, a3, a4, a5, a6⟩ := N.at_ j f o e1 e2
      obtain ⟨y1, b1, _⟩ := id a5
      obtain ⟨y2, b2, _⟩ := id a6
      exact ⟨al a1 a4, l, w, al a2 b1, al a3 b2, a4, a5, a6⟩
    · exact N.but.keep _ _ (s0 _ _ e) fun z => z.elim n (ne_of_none e hfr)

/-! ### what changed -/
def dOne (o : Od) : PyData := .list [dRows (o.lines.map lnTold), .int o.money, .int o.owing, dRows (o.marks.map mkRow)]
theorem dOne_lay {o : Od} (h : o.inv) : PyData.canLay0 (dOne o) = true ∧ PyData.depth (dOne o) ≤ 3 := by
  obtain ⟨a, b⟩ := dRows_lay (inv_told h)
  obtain ⟨c, d⟩ := dRows_lay (inv_mks h)
  refine ⟨?_, ?_⟩
  · simp only [dOne, PyData.canLay0, PyData.canLayAll0, a, c, Bool.and_self]
  · simp only [dOne, PyData.depth, PyData.depthAll]
    omega
theorem one_dp {K : PySem.W.Frag} {H : Hp} {f l w : Addr} {o : Od} (h : o.inv) (ef : H f = some (.lst [.ref l, .int o.money, .int o.owing, .ref w])) (rl : RowsAt H l (o.lines.map lnTold)) (rw_ : RowsAt H w (o.marks.map mkRow)) : Dp K H (.ref f) (dOne o) := by
  obtain ⟨xs, e1, p1⟩ := rl
  obtain ⟨ys, e2, p2⟩ := rw_
  exact .lst (SqL.of ef) (.cons (dRows_dp (SqL.of e1) p1 (inv_told h)) (.cons (.int _) (.cons (.int _) (.cons (dRows_dp (SqL.of e2) p2 (inv_mks h)) .nil))))
def dSeen (os : List Od) : PyData := .list (os.map dOne)
theorem dSeen_lay0 : ∀ {os : List Od}, (∀ o, o ∈ os → o.inv) → PyData.canLayAll0 (os.map dOne) = true ∧ PyData.depthAll (os.map dOne) ≤ 3
  | [], _ => ⟨by simp only [List.map_nil, PyData.canLayAll0], by simp only [List.map_nil, PyData.depthAll]; omega⟩
  | o :: r, h => by
    obtain ⟨a, b⟩ := dOne_lay (h o List.mem_cons_self)
    obtain ⟨c, d⟩ := dSeen_lay0 (os := r) fun x hx => h x (List.mem_cons_of_mem _ hx)
    refine ⟨?_, ?_⟩
    · simp only [List.map_cons, PyData.canLayAll0, a, c, Bool.and_self]
    · simp only [List.map_cons, PyData.depthAll]; omega
theorem seen_all {K : PySem.W.Frag} {H : Hp} : ∀ {fs : List Addr} {os : List Od}, fs.length = os.length → (∀ o, o ∈ os → o.inv) → (∀ (j : Nat) f o, fs[j]? = some f → os[j]? = some o → Dp K H (.ref f) (dOne o)) → DpAll K H (fs.map V.ref) (os.map dOne)
  | [], [], _, _, _ => .nil
  | [], o :: r, h, _, _ => by simp at h
  | a :: s, [], h, _, _ => by simp at h
  | a :: s, o :: r, h, hi, at_ => .cons (at_ 0 a o rfl rfl) (seen_all (by simpa using h) (fun x hx => hi x (List.mem_cons_of_mem _ hx)) fun j l o' e1 e2 => at_ (j + 1) l o' e1 e2)
theorem seen_dp {K : PySem.W.Frag} {S : Addr → Prop} {H : Hp} {r : Addr} {os : List Od} (hi : ∀ o, o ∈ os → o.inv) (h : SeenAt S H r os) : Dp K H (.ref r) (dSeen os) ∧ SeqAt.shaped (dSeen os) = true := by
  obtain ⟨_, fs, e, l, at_⟩ := h
  refine ⟨.lst (SqL.of e) (seen_all l hi fun j f o e1 e2 => ?_), ?_⟩
  · obtain ⟨_, l, w, _, _, a, b, c⟩ := at_ j f o e1 e2
    exact one_dp (hi o (List.mem_of_getElem? e2)) a b c
  · obtain ⟨a, b⟩ := dSeen_lay0 hi
    have a1 : PyData.canLay0 (dSeen os) = true := by simp only [dSeen, PyData.canLay0]; exact a
    have b1 : PyData.depth (dSeen os) ≤ 4 := by simp only [dSeen, PyData.depth]; omega
    unfold SeqAt.shaped
    rw [a1, decide_eq_true (by omega)]
    rfl
theorem r_neSeen {K : PySem.W.Frag} {S S' : Addr → Prop} {H : Hp} {Q : VK} {r q : Addr} {os : List Od} (hi : ∀ o, o ∈ os → o.inv) (h : SeenAt S H r os) (h' : SeenAt S' H q os) (k : Q (.bl false) H) : rNeD K (.ref r) (.ref q) H Q := by
  obtain ⟨a, s⟩ := seen_dp (K := K) hi h
  obtain ⟨b, _⟩ := seen_dp (K := K) hi h'
  refine ⟨_, _, a, b, s, s, ?_⟩
  rw [SeqAt.eqv_refl _ (SeqAt.canLay_of_shaped s)]
  exact k
theorem r_neOne {K : PySem.W.Frag} {H : Hp} {Q : VK} {f g : Addr} {o : Od} (hi : o.inv) (h : Dp K H (.ref f) (dOne o)) (h' : Dp K H (.ref g) (dOne o)) (k : Q (.bl false) H) : rNeD K (.ref f) (.ref g) H Q := by
  have s : SeqAt.shaped (dOne o) = true := by
    obtain ⟨a, b⟩ := dOne_lay hi
    unfold SeqAt.shaped
    rw [a, decide_eq_true (by omega)]
    rfl
  refine ⟨_, _, h, h', s, s, ?_⟩
  rw [SeqAt.eqv_refl _ (SeqAt.canLay_of_shaped s)]
  exact k

/-! ### the book that is begun -/
structure Bgn (K : PySem.W.Frag) (H0 H : Hp) (b : Addr) (n : Nat) (B : Bk) (L : Lay) : Prop where
  bk : BookAt K H b B L
  ok : B.ok
  inv : ∀ o, o ∈ B.each → o.inv
  tr : B.trail.length ≤ n
  same : Same H0 H
  out : ∀ x, L.own x ≠ .no → H0 x = none
theorem Bgn.next {K : PySem.W.Frag} {H0 H H2 H4 : Hp} {b : Addr} {n : Nat} {B : Bk} {L L' : Lay} {es : List Od} {d : Dd} {cs : List (Int × Int)} (G : Bgn K H0 H b n B L) (s : Same H H2) (bk : BookAt K H4 b ⟨es, B.trail ++ [d]⟩ L') (m : Mod L L' H2 H4) (st : step B.each d = .ok (es, cs)) (g : d.good) (gd : ∀ ls, d = .ord ls → Good ls) :
    Bgn K H0 H4 b (n + 1) ⟨es, B.trail ++ [d]⟩ L' where
  bk := bk
  ok := step_ok G.ok g st
  inv := (step_chg g gd st).inv G.inv
  tr := by
    have := G.tr
    show (B.trail ++ [d]).length ≤ n + 1
    simp
    exact this
  same := fun x o e => m.but.keep _ _ (s _ _ (G.same _ _ e)) fun z => by rw [G.out x z] at e; cases e
  out := fun x z => by
    rcases m.grow x z with q | q
    · exact G.out x q
    · exact Same.free G.same (Same.free s q)
theorem own_keep {L L' : Lay} {H H' : Hp} {x : Addr} {o : HO} (m : Mod L L' H H') (e : H x = some o) (n : L.own x = .no) : H' x = some o ∧ L'.own x = .no := by
  refine ⟨m.but.keep _ _ e fun z => z n, Classical.byContradiction fun z => ?_⟩
  rcases m.grow x z with q | q
  · exact q n
  · rw [e] at q; cases q
abbrev penT : Lt := ⟨"pen", 6, 100, 1⟩
abbrev cupT : Lt := ⟨"cup", 3, 50, 2⟩
abbrev boxT : Lt := ⟨"box", 2, 7, 1⟩
theorem ord_done {os : List Od} {ls : List Lt} (G : Good ls) (h : os.length < 40) : step os (.ord ls) = .ok (os ++ [⟨ls.map Lt.ln, 0, []⟩], []) := by
  have f : firstErr ls = none := firstErr_none fun j u _ hu => by
    obtain ⟨a, b⟩ := G.2 u (List.mem_of_getElem? hu)
    unfold ltCheck
    rw [if_pos a, if_pos b]
  have e : ordErr os.length ls = none := by
    unfold ordErr
    rw [if_neg (fun z => z G.1), f]
    show (if os.length = 40 then some Er.fullBook else none) = none
    rw [if_neg (by omega)]
  show stepOrd os ls = _
  unfold stepOrd
  rw [e]
theorem good_pen : Good [penT] := ⟨by decide, fun t ht => by
  rw [List.mem_singleton.mp ht]
  exact ⟨by show isItem "pen" = true; decide +kernel, by decide⟩⟩
theorem good_cup : Good [cupT, boxT] := ⟨by decide, fun t ht => by
  rcases List.mem_cons.mp ht with rfl | ht
  · exact ⟨by show isItem "cup" = true; decide +kernel, by decide⟩
  · rw [List.mem_singleton.mp ht]
    exact ⟨by show isItem "box" = true; decide +kernel, by decide⟩⟩
theorem two_dlv {es : List Od} {x0 x1 x2 m0 m1 : Int} (h : Two es x0 x1 x2 m0 m1) (n : Int) (hn : 1 ≤ n) :
    (n ≤ 6 - x0 → ∃ es' cs, step es (.ln "deliver" 0 0 n) = .ok (es', cs) ∧ Two es' (x0 + n) x1 x2 m0 m1) ∧ (n ≤ 3 - x1 → ∃ es' cs, step es (.ln "deliver" 1 0 n) = .ok (es', cs) ∧ Two es' x0 (x1 + n) x2 m0 m1) ∧
    (n ≤ 2 - x2 → ∃ es' cs, step es (.ln "deliver" 1 1 n) = .ok (es', cs) ∧ Two es' x0 x1 (x2 + n) m0 m1) := by
  obtain ⟨k0, k1, rfl⟩ := h
  have tu : ∀ l : Ln, ¬ n > l.toCome → l.turn "deliver" n = some { l with sent := l.sent + n } := fun l z => by
    unfold Ln.turn Ln.deliver
    rw [if_pos rfl, if_neg z]
  refine ⟨fun c => ?_, fun c => ?_, fun c => ?_⟩
  · have e : step [o0 x0 m0 k0, o1 x1 x2 m1 k1] (.ln "deliver" 0 0 n) = stepLn [o0 x0 m0 k0, o1 x1 x2 m1 k1] "deliver" 0 0 n := rfl
    rw [e]
    unfold stepLn
    rw [at_0]
    dsimp only
    rw [show at_ (o0 x0 m0 k0).lines 0 = some (0, ⟨"pen", 6, 100, 1, x0, 0, 0, 0⟩) from at_0]
    dsimp only
    rw [if_neg (by omega), tu _ (by show ¬ n > 6 - x0 + 0; omega)]
    exact ⟨_, _, rfl, _, k1, rfl⟩
  · have e : step [o0 x0 m0 k0, o1 x1 x2 m1 k1] (.ln "deliver" 1 0 n) = stepLn [o0 x0 m0 k0, o1 x1 x2 m1 k1] "deliver" 1 0 n := rfl
    rw [e]
    unfold stepLn
    rw [show at_ [o0 x0 m0 k0, o1 x1 x2 m1 k1] 1 = some (1, o1 x1 x2 m1 k1) from at_some (j := 1) rfl]
    dsimp only
    rw [show at_ (o1 x1 x2 m1 k1).lines 0 = some (0, ⟨"cup", 3, 50, 2, x1, 0, 0, 0⟩) from at_0]
    dsimp only
    rw [if_neg (by omega), tu _ (by show ¬ n > 3 - x1 + 0; omega)]
    exact ⟨_, _, rfl, k0, _, rfl⟩
  · have e : step [o0 x0 m0 k0, o1 x1 x2 m1 k1] (.ln "deliver" 1 1 n) = stepLn [o0 x0 m0 k0, o1 x1 x2 m1 k1] "deliver" 1 1 n := rfl
    rw [e]
    unfold stepLn
    rw [show at_ [o0 x0 m0 k0, o1 x1 x2 m1 k1] 1 = some (1, o1 x1 x2 m1 k1) from at_some (j := 1) rfl]
    dsimp only
    rw [show at_ (o1 x1 x2 m1 k1).lines 1 = some (1, ⟨"box", 2, 7, 1, x2, 0, 0, 0⟩) from at_some (j := 1) rfl]
    dsimp only
    rw [if_neg (by omega), tu _ (by show ¬ n > 2 - x2 + 0; omega)]
    exact ⟨_, _, rfl, k0, _, rfl⟩
theorem two_pay {es : List Od} {x0 x1 x2 m0 m1 : Int} (h : Two es x0 x1 x2 m0 m1) (n : Int) (hn : 1 ≤ n) :
    (∃ es' cs, step es (.mo "pay" 0 n) = .ok (es', cs) ∧ Two es' x0 x1 x2 (m0 + n) m1) ∧ (∃ es' cs, step es (.mo "pay" 1 n) = .ok (es', cs) ∧ Two es' x0 x1 x2 m0 (m1 + n)) := by
  obtain ⟨k0, k1, rfl⟩ := h
  refine ⟨?_, ?_⟩
  · have e : step [o0 x0 m0 k0, o1 x1 x2 m1 k1] (.mo "pay" 0 n) = stepMo [o0 x0 m0 k0, o1 x1 x2 m1 k1] "pay" 0 n := rfl
    rw [e]
    unfold stepMo
    rw [at_0]
    dsimp only
    rw [if_neg (by omega), if_pos rfl]
    exact ⟨_, _, rfl, _, k1, rfl⟩
  · have e : step [o0 x0 m0 k0, o1 x1 x2 m1 k1] (.mo "pay" 1 n) = stepMo [o0 x0 m0 k0, o1 x1 x2 m1 k1] "pay" 1 n := rfl
    rw [e]
    unfold stepMo
    rw [show at_ [o0 x0 m0 k0, o1 x1 x2 m1 k1] 1 = some (1, o1 x1 x2 m1 k1) from at_some (j := 1) rfl]
    dsimp only
    rw [if_neg (by omega), if_pos rfl]
    exact ⟨_, _, rfl, k0, _, rfl⟩
def spLBegun (K : PySem.W.Frag) : Sp := fun vs H Q _ => ∃ (s : Addr) (m : Int), vs = [.ref s, .int m] ∧ Script K H s ∧ 0 ≤ m ∧ ∀ (r b sl su : Addr) (B : Bk) (L : Lay) (x0 x1 x2 m0 m1 : Int) (H' : Hp), H' r = some (.lst [.ref b, .ref sl, .ref su]) → H' sl = some (.lst [.int x0, .int x1, .int x2]) → H' su = some (.lst [.int m0, .int m1]) →
  Bgn K H H' b 10 B L → Two B.each x0 x1 x2 m0 m1 → (0 ≤ x0 ∧ 0 ≤ x1 ∧ 0 ≤ x2 ∧ 0 ≤ m0 ∧ 0 ≤ m1) → (x0 ≤ 6 ∧ x1 ≤ 3 ∧ x2 ≤ 2) → L.own sl = .no → L.own su = .no → L.own r = .no → Q (.ref r) H'
theorem len_LBegun {K : PySem.W.Frag} {vs : List V} {H : Hp} {Q : VK} {E : XK} (h : spLBegun K vs H Q E) : vs.length = 2 := by
  obtain ⟨_, _, rfl, _⟩ := h; rfl
theorem ok_LBegun {P : Program} {w : World} {K : PySem.W.Frag} {mg : Str → Option Value} {base : Heap} (T : Tx w K mg) : FnOk P w K mg base CX0 8 (He.fAd K dLBegun.at_) (fdO K dLBegun.at_) P_LBegun (spLBegun K) := by
  refine T.f_LBegun.ok sc_LBegun (fun vs H Q E h => len_LBegun h) (fun cdv A outer s H vs Q E hr h => ⟨_, PSs.nox ((pss_cons (ps_set (i := 2) sc_LBegun.nd rfl (Or.inl rfl) (pe_make0 T.mk_Book (ok_BookInit T) (hr.mono (by decide)) rfl T.g_Book T.b_BookInit .nil pass0))
      (pss_cons (ps_expr (pe_meth (pv 2) T.cl_Book T.m_Book_do (ok_BookDo T) (hr.mono (by decide)) T.b_BookDo .nil passL (pa_cons (pe_tup (pa_cons pe_str (pa_cons (pe_lst (pa_cons (pe_tup (pa_cons pe_str (pa_cons pe_int (pa_cons pe_int (pa_cons pe_int pa_nil))))) pa_nil)) pa_nil))) pa_nil)))
      (pss_cons (ps_expr (pe_meth (pv 2) T.cl_Book T.m_Book_do (ok_BookDo T) (hr.mono (by decide)) T.b_BookDo .nil passL (pa_cons (pe_tup (pa_cons pe_str (pa_cons (pe_lst (pa_cons (pe_tup (pa_cons pe_str (pa_cons pe_int (pa_cons pe_int (pa_cons pe_int pa_nil))))) (pa_cons (pe_tup (pa_cons pe_str (pa_cons pe_int (pa_cons pe_int (pa_cons pe_int pa_nil))))) pa_nil))) pa_nil))) pa_nil)))
      (pss_cons (ps_set (i := 3) sc_LBegun.nd rfl (Or.inl rfl) (pe_lst (pa_cons (pe_op op_mod (pe_call (ok_LCellAt T) (hr.mono (by decide)) rfl T.g_LCellAt T.f_LCellAt.kp T.b_LCellAt .nil pass0 (pa_cons (pv 0) (pa_cons (pv 1) pa_nil))) pe_int) (pa_cons (pe_op op_mod (pe_call (ok_LCellAt T) (hr.mono (by decide)) rfl T.g_LCellAt T.f_LCellAt.kp T.b_LCellAt .nil pass0 (pa_cons (pv 0) (pa_cons (pe_op op_add (pv 1) pe_int) pa_nil))) pe_int) (pa_cons (pe_op op_mod (pe_call (ok_LCellAt T) (hr.mono (by decide)) rfl T.g_LCellAt T.f_LCellAt.kp T.b_LCellAt .nil pass0 (pa_cons (pv 0) (pa_cons (pe_op op_add (pv 1) pe_int) pa_nil))) pe_int) pa_nil)))))
      (pss_cons (ps_for PassesOwn.never rfl (pi_range1 (by rfl) T.b_range (pa_cons pe_int pa_nil)) (pg_name (i := 4) sc_LBegun.nd rfl (Or.inl rfl)) (pss_one (ps_if (pt_cmpR op_gt (pe_ix ix_list (pv 3) (pv 4) (fun _ _ => rfl)) pe_int (nomark _)) (pss_one (ps_expr (pe_meth (pv 2) T.cl_Book T.m_Book_do (ok_BookDo T) (hr.mono (by decide)) T.b_BookDo .nil passL (pa_cons (pe_tup (pa_cons pe_str (pa_cons (pe_callB (call_min2 rfl) (by rfl) T.b_min (by decide +kernel) (pa_cons (pv 4) (pa_cons pe_int pa_nil))) (pa_cons (pe_callB (call_max2 rfl) (by rfl) T.b_max (by decide +kernel) (pa_cons pe_int (pa_cons (pe_op op_sub (pv 4) pe_int) pa_nil))) (pa_cons (pe_ix ix_list (pv 3) (pv 4) (fun _ _ => rfl)) pa_nil))))) pa_nil)))) pss_nil)))
      (pss_cons (ps_set (i := 5) sc_LBegun.nd rfl (Or.inl rfl) (pe_lst (pa_cons (pe_op op_mod (pe_op op_fdiv (pe_call (ok_LCellAt T) (hr.mono (by decide)) rfl T.g_LCellAt T.f_LCellAt.kp T.b_LCellAt .nil pass0 (pa_cons (pv 0) (pa_cons (pe_op op_add (pv 1) pe_int) pa_nil))) pe_int) pe_int) (pa_cons (pe_op op_mod (pe_op op_fdiv (pe_call (ok_LCellAt T) (hr.mono (by decide)) rfl T.g_LCellAt T.f_LCellAt.kp T.b_LCellAt .nil pass0 (pa_cons (pv 0) (pa_cons (pe_op op_add (pv 1) pe_int) pa_nil))) pe_int) pe_int) pa_nil))))
      (pss_cons (ps_for PassesOwn.never rfl (pi_range1 (by rfl) T.b_range (pa_cons pe_int pa_nil)) (pg_name (i := 6) sc_LBegun.nd rfl (Or.inl rfl)) (pss_one (ps_if (pt_cmpR op_gt (pe_ix ix_list (pv 5) (pv 6) (fun _ _ => rfl)) pe_int (nomark _)) (pss_one (ps_expr (pe_meth (pv 2) T.cl_Book T.m_Book_do (ok_BookDo T) (hr.mono (by decide)) T.b_BookDo .nil passL (pa_cons (pe_tup (pa_cons pe_str (pa_cons (pv 6) (pa_cons (pe_ix ix_list (pv 5) (pv 6) (fun _ _ => rfl)) pa_nil)))) pa_nil)))) pss_nil)))
      (pss_one (ps_ret (pe_lst (pa_cons (pv 2) (pa_cons (pv 3) (pa_cons (pv 5) pa_nil)))))))))))))), ?_⟩)
  obtain ⟨s, m, rfl, scr, hm, k⟩ := h
  walk_at "rd"
  intro b dx nb ndx ne
  refine ⟨b, dx, rfl, upd_same, fun L2 H2 h2 bt2 own2 _ => ⟨rfl, ?_⟩⟩
  have N2 : New L2 H H2 := ⟨bt2.made (made_same nb ndx) nb, made_own own2 nb⟩
  have G2 : Bgn K H H2 b 0 ⟨[], []⟩ L2 := ⟨h2, ok0, (fun o ho => by cases ho), Nat.le_refl _, N2.same, N2.own⟩
  obtain ⟨d2, hb2⟩ := h2.ob
  walk_at "rd"
  refine r_m hb2 (no_Book_do _ _) ?_
  walk_at "rd"
  refine r_mk (by simp) fun t1 ht1 => ?_
  have s1 := same_upd (o := .tup [.str "pen", .int 6, .int 100, .int 1]) ht1
  walk_at "rd"
  refine r_mk (by simp) fun t2 ht2 => ?_
  have s2 := same_upd (o := .lst [.ref t1]) ht2
  walk_at "rd"
  refine r_mk (by simp) fun t3 ht3 => ?_
  have s3 := same_upd (o := .tup [.str "order", .ref t2]) ht3
  have s13 := (s1.trans s2).trans s3
  have st1 := ord_done (os := []) good_pen (by decide)
  walk_at "rd"
  refine ⟨b, _, L2, .ref t3, rfl, h2.same s13, ok0, by decide, .inl ⟨.ord [penT], ⟨t3, t2, [.ref t1], rfl, upd_same, s3 _ _ upd_same, h2.fresh (upd_none ht2).2, .cons ⟨t1, rfl, s3 _ _ (s2 _ _ upd_same)⟩ .nil⟩, trivial, step_few st1, fun e q => (by rw [st1] at q; cases q), fun es cs q r L3 H3 bk3 m3 _ _ _ _ => ?_⟩⟩
  rw [st1] at q
  cases q
  have G3 := G2.next s13 bk3 m3 st1 trivial fun ls e => by cases e; exact good_pen
  clear s1 s2 s3 s13 m3
  obtain ⟨d3, hb3⟩ := bk3.ob
  walk_at "rd"
  refine r_m hb3 (no_Book_do _ _) ?_
  walk_at "rd"
  refine r_mk (by simp) fun t1 ht1 => ?_
  have s1 := same_upd (o := .tup [.str "cup", .int 3, .int 50, .int 2]) ht1
  walk_at "rd"
  refine r_mk (by simp) fun t4 ht4 => ?_
  have s4 := same_upd (o := .tup [.str "box", .int 2, .int 7, .int 1]) ht4
  walk_at "rd"
  refine r_mk (by simp) fun t2 ht2 => ?_
  have s2 := same_upd (o := .lst [.ref t1, .ref t4]) ht2
  walk_at "rd"
  refine r_mk (by simp) fun t3 ht3 => ?_
  have s3 := same_upd (o := .tup [.str "order", .ref t2]) ht3
  have s13 := ((s1.trans s4).trans s2).trans s3
  have st2 := ord_done (os := [] ++ [(⟨[penT].map Lt.ln, 0, []⟩ : Od)]) good_cup (by decide)
  walk_at "rd"
  refine ⟨b, _, L3, .ref t3, rfl, bk3.same s13, G3.ok, by decide, .inl ⟨.ord [cupT, boxT], ⟨t3, t2, [.ref t1, .ref t4], rfl, upd_same, s3 _ _ upd_same, bk3.fresh (upd_none (upd_none ht2).2).2, .cons ⟨t1, rfl, s3 _ _ (s2 _ _ (s4 _ _ upd_same))⟩ (.cons ⟨t4, rfl, s3 _ _ (s2 _ _ upd_same)⟩ .nil)⟩, trivial, step_few st2, fun e q => (by rw [st2] at q; cases q), fun es cs q r L4 H4 bk4 m4 _ _ _ _ => ?_⟩⟩
  rw [st2] at q
  cases q
  have G4 := G3.next s13 bk4 m4 st2 trivial fun ls e => by cases e; exact good_cup
  clear s1 s2 s3 s4 s13 m4
  have W4 : Two (([] ++ [(⟨[penT].map Lt.ln, 0, []⟩ : Od)]) ++ [(⟨[cupT, boxT].map Lt.ln, 0, []⟩ : Od)]) 0 0 0 0 0 := ⟨[], [], rfl⟩
  walk_at "rd"
  refine ⟨s, _, rfl, scr.same G4.same, hm, fun c0 => ?_⟩
  walk_at "rd"
  walk_at "md"
  walk_at "rd"
  refine ⟨s, _, rfl, scr.same G4.same, by omega, fun c1 => ?_⟩
  walk_at "rd"
  walk_at "md"
  walk_at "rd"
  refine ⟨s, _, rfl, scr.same G4.same, by omega, fun c2 => ?_⟩
  walk_at "rd"
  walk_at "md"
  walk_at "rd"
  obtain ⟨a0, ea0, a0l⟩ : ∃ a0, c0 % 7 = a0 ∧ 0 ≤ a0 ∧ a0 ≤ 6 := ⟨_, rfl, by omega, by omega⟩
  obtain ⟨a1, ea1, a1l⟩ : ∃ a1, c1 % 4 = a1 ∧ 0 ≤ a1 ∧ a1 ≤ 3 := ⟨_, rfl, by omega, by omega⟩
  obtain ⟨a2, ea2, a2l⟩ : ∃ a2, c2 % 3 = a2 ∧ 0 ≤ a2 ∧ a2 ≤ 2 := ⟨_, rfl, by omega, by omega⟩
  rw [ea0, ea1, ea2]
  refine r_mk (by simp) fun sl hsl => ?_
  have s5 := same_upd (o := .lst [.int a0, .int a1, .int a2]) hsl
  have e5 : upd H4 sl (.lst [.int a0, .int a1, .int a2]) sl = some (.lst [.int a0, .int a1, .int a2]) := upd_same
  have osl := bk4.fresh hsl
  revert s5 e5
  generalize upd H4 sl _ = H5
  intro s5 e5
  have G5 : Bgn K H H5 b 2 _ L4 := ⟨bk4.same s5, G4.ok, G4.inv, G4.tr, G4.same.trans s5, G4.out⟩
  walk_at "rd"
  refine ⟨3, rfl, by decide, by decide, for_range (lo := 0) (n := 3) (fun i σ H' => ∃ (v4 : Option V) (B : Bk) (L : Lay) (x0 x1 x2 : Int), σ = [some (.ref s), some (.int m), some (.ref b), some (.ref sl), v4, none, none] ∧ Bgn K H H' b (2 + i) B L ∧ Two B.each x0 x1 x2 0 0 ∧ (x0 = if 0 < i then a0 else 0) ∧ (x1 = if 1 < i then a1 else 0) ∧ (x2 = if 2 < i then a2 else 0) ∧
    H' sl = some (.lst [.int a0, .int a1, .int a2]) ∧ L.own sl = .no) ⟨none, _, L4, 0, 0, 0, rfl, G5, W4, rfl, rfl, rfl, e5, osl⟩ ?_ ?_⟩
  · rintro i σ H6 hi ⟨v4, B, L, x0, x1, x2, rfl, G, W, ex0, ex1, ex2, e6, ol⟩
    rw [Int.zero_add]
    have i3 : i = 0 ∨ i = 1 ∨ i = 2 := by omega
    rcases i3 with rfl | rfl | rfl
    · obtain rfl : x0 = 0 := ex0
      obtain rfl : x1 = 0 := ex1
      obtain rfl : x2 = 0 := ex2
      walk_at "rd"
      refine r_ixL (SqL.of e6) (atI_get (j := 0) rfl rfl) ?_
      walk_at "rd"
      refine r_itd (fun p => ?_) (fun p => ?_)
      · obtain ⟨es', cs', st, W'⟩ := (two_dlv W a0 (by omega)).1 (by omega)
        walk_at "rd"
        obtain ⟨dd, hb⟩ := G.bk.ob
        refine r_m hb (no_Book_do _ _) ?_
        walk_at "rd"
        refine ⟨_, _, rfl, ?_⟩
        walk_at "rd"
        refine ⟨_, _, rfl, ?_⟩
        walk_at "rd"
        refine r_ixL (SqL.of e6) (atI_get (j := 0) rfl rfl) ?_
        walk_at "rd"
        refine r_mk (by simp) fun t ht => ?_
        have s7 := same_upd (o := .tup [.str "deliver", .int 0, .int 0, .int a0]) ht
        have tr := G.tr
        walk_at "rd"
        refine ⟨b, B, L, .ref t, rfl, G.bk.same s7, G.ok, by omega, .inl ⟨.ln "deliver" 0 0 a0, ⟨t, rfl, upd_same⟩, .inl rfl, trivial, fun e q => (by rw [st] at q; cases q), fun es cs q r L7 H7 bk7 m7 _ _ _ _ => ?_⟩⟩
        rw [st] at q
        cases q
        have G7 := G.next s7 bk7 m7 st (.inl rfl) fun ls e => by cases e
        obtain ⟨e7, o7⟩ := own_keep m7 (s7 _ _ e6) ol
        walk_at "rd"
        exact ⟨_, _, L7, _, _, _, rfl, G7, W', Int.zero_add _, rfl, rfl, e7, o7⟩
      · have z : a0 = 0 := by omega
        walk_at "rd"
        refine ⟨_, B, L, _, _, _, rfl, ⟨G.bk, G.ok, G.inv, by have := G.tr; omega, G.same, G.out⟩, W, z.symm, rfl, rfl, e6, ol⟩
    · obtain rfl : x0 = a0 := ex0
      obtain rfl : x1 = 0 := ex1
      obtain rfl : x2 = 0 := ex2
      walk_at "rd"
      refine r_ixL (SqL.of e6) (atI_get (j := 1) rfl rfl) ?_
      walk_at "rd"
      refine r_itd (fun p => ?_) (fun p => ?_)
      · obtain ⟨es', cs', st, W'⟩ := (two_dlv W a1 (by omega)).2.1 (by omega)
        walk_at "rd"
        obtain ⟨dd, hb⟩ := G.bk.ob
        refine r_m hb (no_Book_do _ _) ?_
        walk_at "rd"
        refine ⟨_, _, rfl, ?_⟩
        walk_at "rd"
        refine ⟨_, _, rfl, ?_⟩
        walk_at "rd"
        refine r_ixL (SqL.of e6) (atI_get (j := 1) rfl rfl) ?_
        walk_at "rd"
        refine r_mk (by simp) fun t ht => ?_
        have s7 := same_upd (o := .tup [.str "deliver", .int 1, .int 0, .int a1]) ht
        have tr := G.tr
        walk_at "rd"
        refine ⟨b, B, L, .ref t, rfl, G.bk.same s7, G.ok, by omega, .inl ⟨.ln "deliver" 1 0 a1, ⟨t, rfl, upd_same⟩, .inl rfl, trivial, fun e q => (by rw [st] at q; cases q), fun es cs q r L7 H7 bk7 m7 _ _ _ _ => ?_⟩⟩
        rw [st] at q
        cases q
        have G7 := G.next s7 bk7 m7 st (.inl rfl) fun ls e => by cases e
        obtain ⟨e7, o7⟩ := own_keep m7 (s7 _ _ e6) ol
        walk_at "rd"
        exact ⟨_, _, L7, _, _, _, rfl, G7, W', rfl, Int.zero_add _, rfl, e7, o7⟩
      · have z : a1 = 0 := by omega
        walk_at "rd"
        refine ⟨_, B, L, _, _, _, rfl, ⟨G.bk, G.ok, G.inv, by have := G.tr; omega, G.same, G.out⟩, W, rfl, z.symm, rfl, e6, ol⟩
    · obtain rfl : x0 = a0 := ex0
      obtain rfl : x1 = a1 := ex1
      obtain rfl : x2 = 0 := ex2
      walk_at "rd"
      refine r_ixL (SqL.of e6) (atI_get (j := 2) rfl rfl) ?_
      walk_at "rd"
      refine r_itd (fun p => ?_) (fun p => ?_)
      · obtain ⟨es', cs', st, W'⟩ := (two_dlv W a2 (by omega)).2.2 (by omega)
        walk_at "rd"
        obtain ⟨dd, hb⟩ := G.bk.ob
        refine r_m hb (no_Book_do _ _) ?_
        walk_at "rd"
        refine ⟨_, _, rfl, ?_⟩
        walk_at "rd"
        refine ⟨_, _, rfl, ?_⟩
        walk_at "rd"
        refine r_ixL (SqL.of e6) (atI_get (j := 2) rfl rfl) ?_
        walk_at "rd"
        refine r_mk (by simp) fun t ht => ?_
        have s7 := same_upd (o := .tup [.str "deliver", .int 1, .int 1, .int a2]) ht
        have tr := G.tr
        walk_at "rd"
        refine ⟨b, B, L, .ref t, rfl, G.bk.same s7, G.ok, by omega, .inl ⟨.ln "deliver" 1 1 a2, ⟨t, rfl, upd_same⟩, .inl rfl, trivial, fun e q => (by rw [st] at q; cases q), fun es cs q r L7 H7 bk7 m7 _ _ _ _ => ?_⟩⟩
        rw [st] at q
        cases q
        have G7 := G.next s7 bk7 m7 st (.inl rfl) fun ls e => by cases e
        obtain ⟨e7, o7⟩ := own_keep m7 (s7 _ _ e6) ol
        walk_at "rd"
        exact ⟨_, _, L7, _, _, _, rfl, G7, W', rfl, rfl, Int.zero_add _, e7, o7⟩
      · have z : a2 = 0 := by omega
        walk_at "rd"
        refine ⟨_, B, L, _, _, _, rfl, ⟨G.bk, G.ok, G.inv, by have := G.tr; omega, G.same, G.out⟩, W, rfl, rfl, z.symm, e6, ol⟩
  rintro σ H6 ⟨v4, B, L, x0, x1, x2, rfl, G, W, ex0, ex1, ex2, e6, ol⟩
  obtain rfl : x0 = a0 := ex0
  obtain rfl : x1 = a1 := ex1
  obtain rfl : x2 = a2 := ex2
  clear e5 s5 G5 G4 bk4 hb3 G3 bk3 hb2 G2 h2
  walk_at "rd"
  refine ⟨s, _, rfl, scr.same G.same, by omega, fun c3 => ?_⟩
  walk_at "rd"
  walk_at "md"
  walk_at "rd"
  walk_at "md"
  walk_at "rd"
  refine ⟨s, _, rfl, scr.same G.same, by omega, fun c4 => ?_⟩
  walk_at "rd"
  walk_at "md"
  walk_at "rd"
  walk_at "md"
  walk_at "rd"
  obtain ⟨p0, ep0, p0l⟩ : ∃ p0, c3 / 8 % 700 = p0 ∧ 0 ≤ p0 := ⟨_, rfl, by omega⟩
  obtain ⟨p1, ep1, p1l⟩ : ∃ p1, c4 / 8 % 120 = p1 ∧ 0 ≤ p1 := ⟨_, rfl, by omega⟩
  rw [ep0, ep1]
  refine r_mk (by simp) fun su hsu => ?_
  have s8 := same_upd (o := .lst [.int p0, .int p1]) hsu
  have e8 : upd H6 su (.lst [.int p0, .int p1]) su = some (.lst [.int p0, .int p1]) := upd_same
  have osu := G.bk.fresh hsu
  revert s8 e8
  generalize upd H6 su _ = H8
  intro s8 e8
  have tr6 := G.tr
  have G8 : Bgn K H H8 b 5 _ L := ⟨G.bk.same s8, G.ok, G.inv, G.tr, G.same.trans s8, G.out⟩
  walk_at "rd"
  refine ⟨2, rfl, by decide, by decide, for_range (lo := 0) (n := 2) (fun i σ H' => ∃ (v4 v6 : Option V) (B : Bk) (L : Lay) (m0 m1 : Int), σ = [some (.ref s), some (.int m), some (.ref b), some (.ref sl), v4, some (.ref su), v6] ∧ Bgn K H H' b (5 + i) B L ∧ Two B.each x0 x1 x2 m0 m1 ∧ (m0 = if 0 < i then p0 else 0) ∧ (m1 = if 1 < i then p1 else 0) ∧
    H' sl = some (.lst [.int x0, .int x1, .int x2]) ∧ L.own sl = .no ∧ H' su = some (.lst [.int p0, .int p1]) ∧ L.own su = .no) ⟨_, none, _, L, 0, 0, rfl, G8, W, rfl, rfl, s8 _ _ e6, ol, e8, osu⟩ ?_ ?_⟩
  · clear G8 e8 s8 tr6 G W e6 ol osu
    rintro i σ H9 hi ⟨v4, v6, B, L, m0, m1, rfl, G, W, em0, em1, e6, ol, e8, osu⟩
    rw [Int.zero_add]
    have i2 : i = 0 ∨ i = 1 := by omega
    rcases i2 with rfl | rfl
    · obtain rfl : m0 = 0 := em0
      obtain rfl : m1 = 0 := em1
      walk_at "rd"
      refine r_ixL (SqL.of e8) (atI_get (j := 0) rfl rfl) ?_
      walk_at "rd"
      refine r_itd (fun p => ?_) (fun p => ?_)
      · obtain ⟨es', cs', st, W'⟩ := (two_pay W p0 (by omega)).1
        walk_at "rd"
        obtain ⟨dd, hb⟩ := G.bk.ob
        refine r_m hb (no_Book_do _ _) ?_
        walk_at "rd"
        refine r_ixL (SqL.of e8) (atI_get (j := 0) rfl rfl) ?_
        walk_at "rd"
        refine r_mk (by simp) fun t ht => ?_
        have s7 := same_upd (o := .tup [.str "pay", .int 0, .int p0]) ht
        have tr := G.tr
        walk_at "rd"
        refine ⟨b, B, L, .ref t, rfl, G.bk.same s7, G.ok, by omega, .inl ⟨.mo "pay" 0 p0, ⟨t, rfl, upd_same⟩, .inl rfl, trivial, fun e q => (by rw [st] at q; cases q), fun es cs q r L7 H7 bk7 m7 _ _ _ _ => ?_⟩⟩
        rw [st] at q
        cases q
        have G7 := G.next s7 bk7 m7 st (.inl rfl) fun ls e => by cases e
        obtain ⟨e7, o7⟩ := own_keep m7 (s7 _ _ e6) ol
        obtain ⟨e9, o9⟩ := own_keep m7 (s7 _ _ e8) osu
        walk_at "rd"
        exact ⟨_, _, _, L7, _, _, rfl, G7, W', Int.zero_add _, rfl, e7, o7, e9, o9⟩
      · have z : p0 = 0 := by omega
        walk_at "rd"
        refine ⟨_, _, B, L, _, _, rfl, ⟨G.bk, G.ok, G.inv, by have := G.tr; omega, G.same, G.out⟩, W, z.symm, rfl, e6, ol, e8, osu⟩
    · obtain rfl : m0 = p0 := em0
      obtain rfl : m1 = 0 := em1
      walk_at "rd"
      refine r_ixL (SqL.of e8) (atI_get (j := 1) rfl rfl) ?_
      walk_at "rd"
      refine r_itd (fun p => ?_) (fun p => ?_)
      · obtain ⟨es', cs', st, W'⟩ := (two_pay W p1 (by omega)).2
        walk_at "rd"
        obtain ⟨dd, hb⟩ := G.bk.ob
        refine r_m hb (no_Book_do _ _) ?_
        walk_at "rd"
        refine r_ixL (SqL.of e8) (atI_get (j := 1) rfl rfl) ?_
        walk_at "rd"
        refine r_mk (by simp) fun t ht => ?_
        have s7 := same_upd (o := .tup [.str "pay", .int 1, .int p1]) ht
        have tr := G.tr
        walk_at "rd"
        refine ⟨b, B, L, .ref t, rfl, G.bk.same s7, G.ok, by omega, .inl ⟨.mo "pay" 1 p1, ⟨t, rfl, upd_same⟩, .inl rfl, trivial, fun e q => (by rw [st] at q; cases q), fun es cs q r L7 H7 bk7 m7 _ _ _ _ => ?_⟩⟩
        rw [st] at q
        cases q
        have G7 := G.next s7 bk7 m7 st (.inl rfl) fun ls e => by cases e
        obtain ⟨e7, o7⟩ := own_keep m7 (s7 _ _ e6) ol
        obtain ⟨e9, o9⟩ := own_keep m7 (s7 _ _ e8) osu
        walk_at "rd"
        exact ⟨_, _, _, L7, _, _, rfl, G7, W', rfl, Int.zero_add _, e7, o7, e9, o9⟩
      · have z : p1 = 0 := by omega
        walk_at "rd"
        refine ⟨_, _, B, L, _, _, rfl, ⟨G.bk, G.ok, G.inv, by have := G.tr; omega, G.same, G.out⟩, W, rfl, z.symm, e6, ol, e8, osu⟩
  clear G8 e8 s8 tr6 G W e6 ol osu
  rintro σ H9 ⟨v4, v6, B, L, m0, m1, rfl, G, W, em0, em1, e6, ol, e8, osu⟩
  obtain rfl : m0 = p0 := em0
  obtain rfl : m1 = p1 := em1
  walk_at "rd"
  refine r_mk (by simp) fun r hr => ?_
  have s9 := same_upd (o := .lst [.ref b, .ref sl, .ref su]) hr
  exact k r b sl su B L x0 x1 x2 m0 m1 _ upd_same (s9 _ _ e6) (s9 _ _ e8) ⟨G.bk.same s9, G.ok, G.inv, by have := G.tr; omega, G.same.trans s9, G.out⟩ W ⟨a0l.1, a1l.1, a2l.1, p0l, p1l⟩ ⟨a0l.2, a1l.2, a2l.2⟩ ol osu (G.bk.fresh hr)

/-! ### made good -/
/-- what the book does not own stays -/
def KeepNo (L : Lay) (H H' : Hp) : Prop := ∀ a o, H a = some o → L.own a = .no → H' a = some o
theorem KeepNo.of {L : Lay} {H H' : Hp} (s : Same H H') : KeepNo L H H' := fun a o e _ => s a o e
theorem KeepNo.mod {L L' : Lay} {H H' : Hp} (m : Mod L L' H H') : KeepNo L H H' := fun a o e n => m.but.keep a o e fun z => z n
theorem KeepNo.step {L L' : Lay} {H H2 H3 H' : Hp} (s : Same H H2) (m : Mod L L' H2 H3) (kn : KeepNo L' H3 H') : KeepNo L H H' := fun a o e n => by
  obtain ⟨e3, n3⟩ := own_keep m (s _ _ e) n
  exact kn a o e3 n3
theorem tried_done {K : PySem.W.Frag} {b : Addr} {B : Bk} {L : Lay} {v : V} {d : Dd} {H : Hp} {es : List Od} {cs : List (Int × Int)} {Q : VK} {E : XK} (h : BookAt K H b B L) (ok : B.ok) (hz : B.trail.length < 100000) (hd : DdAt (fun a => L.own a = .no) H v d) (g : d.good) (few : d.few) (st : step B.each d = .ok (es, cs))
    (k : ∀ r xs H', H' r = some (.lst xs) → KeepNo L H H' → Q (.ref r) H') : spLTried K [.ref b, v] H Q E := by
  refine ⟨b, B, L, v, rfl, h, ok, hz, .inl ⟨d, hd, g, few, fun e q => (by rw [st] at q; cases q), fun es cs q r L' H' _ m _ _ _ ch => ?_⟩⟩
  obtain ⟨ys, ey, _⟩ := ch
  exact k r ys H' ey (.mod m)
theorem step_ln_ok {es : List Od} {w : Str} {j i : Nat} {n : Int} {od : Od} {x x' : Ln} (eo : es[j]? = some od) (el : od.lines[i]? = some x) (hn : 1 ≤ n) (et : x.turn w n = some x') :
    ∃ es' cs od', step es (.ln w j i n) = .ok (es', cs) ∧ es'[j]? = some od' ∧ od'.lines[i]? = some x' := by
  have e : step es (.ln w j i n) = stepLn es w j i n := rfl
  rw [e]
  unfold stepLn
  rw [at_some eo]
  dsimp only
  rw [at_some el]
  dsimp only
  rw [if_neg (by omega), et]
  exact ⟨_, _, _, rfl, List.getElem?_set_self (List.getElem?_eq_some_iff.mp eo).1, List.getElem?_set_self (List.getElem?_eq_some_iff.mp el).1⟩
theorem step_pay_ok {es : List Od} {j : Nat} {n : Int} {od : Od} (eo : es[j]? = some od) (hn : 1 ≤ n) : ∃ es' cs od', step es (.mo "pay" j n) = .ok (es', cs) ∧ es'[j]? = some od' ∧ od'.owing = od.owing - n ∧ ∀ k, k ≠ j → es'[k]? = es[k]? := by
  have e : step es (.mo "pay" j n) = stepMo es "pay" j n := rfl
  rw [e]
  unfold stepMo
  rw [at_some eo]
  dsimp only
  rw [if_neg (by omega), if_pos rfl]
  refine ⟨_, _, _, rfl, List.getElem?_set_self (List.getElem?_eq_some_iff.mp eo).1, ?_, fun k hk => List.getElem?_set_ne (Ne.symm hk)⟩
  show (od.lines.map Ln.charge).sum - (od.money + n) = (od.lines.map Ln.charge).sum - od.money - n
  omega
theorem step_refund_ok {es : List Od} {j : Nat} {n : Int} {od : Od} (eo : es[j]? = some od) (hn : 1 ≤ n) (h : ¬ n > -od.owing) : ∃ r, step es (.mo "refund" j n) = .ok r := by
  have e : step es (.mo "refund" j n) = stepMo es "refund" j n := rfl
  rw [e]
  unfold stepMo
  rw [at_some eo]
  dsimp only
  rw [if_neg (by omega), if_neg (by decide +kernel), if_neg h]
  exact ⟨_, rfl⟩
theorem step_move_ok {es : List Od} {j p : Nat} {n : Int} {od o2 : Od} (eo : es[j]? = some od) (ep : es[p]? = some o2) (ne : p ≠ j) (hn : 1 ≤ n) (h : ¬ n > -od.owing) : ∃ r, step es (.mv j p n) = .ok r := by
  have e : step es (.mv j p n) = stepMv es j p n := rfl
  rw [e]
  unfold stepMv
  rw [at_some eo]
  dsimp only
  rw [at_some ep]
  dsimp only
  rw [if_neg (by omega), if_neg (by omega), if_neg h]
  exact ⟨_, rfl⟩
/-- what is to be made good -/
inductive MG (B : Bk) : List V → Prop
  | order (n : Int) (h : B.each.length = 2) (hn : 1 ≤ n) : MG B [.str "pay", .int 2, .int n]
  | none (o n : Int) (h : o ≠ 2) : MG B [.str "pay", .int o, .int n]
  | credit (r : List V) : MG B (.str "credit" :: r)
  | ln (w : Str) (j i : Nat) (n : Int) (od : Od) (x : Ln) (hw : w = "deliver" ∨ w = "back" ∨ w = "swap") (eo : B.each[j]? = some od) (el : od.lines[i]? = some x) (z : x.home = 0 ∧ x.again = 0 ∧ x.credited = 0) (p : 0 ≤ x.sent) (hn : n > if w = "deliver" then x.ordered - x.sent else x.sent) (h1 : 1 ≤ n) : MG B [.str w, .int j, .int i, .int n]
  | refund (j : Nat) (n : Int) (od : Od) (eo : B.each[j]? = some od) (hn : 1 ≤ n) : MG B [.str "refund", .int j, .int n]
  | move (j p : Nat) (n : Int) (od o2 : Od) (eo : B.each[j]? = some od) (ep : B.each[p]? = some o2) (ne : p ≠ j) (hn : 1 ≤ n) : MG B [.str "move", .int j, .int p, .int n]
def spLMadeGood (K : PySem.W.Frag) : Sp := fun vs H Q _ => ∃ (b : Addr) (B : Bk) (L : Lay) (t : Addr) (xs : List V), vs = [.ref b, .ref t] ∧ BookAt K H b B L ∧ B.ok ∧ B.trail.length < 90000 ∧ H t = some (.tup xs) ∧ MG B xs ∧ ∀ H', KeepNo L H H' → Q (.bl true) H'
theorem len_LMadeGood {K : PySem.W.Frag} {vs : List V} {H : Hp} {Q : VK} {E : XK} (h : spLMadeGood K vs H Q E) : vs.length = 2 := by
  obtain ⟨_, _, _, _, _, rfl, _⟩ := h; rfl
abbrev pen9 : Lt := ⟨"pen", 9, 100, 1⟩
theorem good_pen9 : Good [pen9] := ⟨by decide, fun t ht => by
  rw [List.mem_singleton.mp ht]
  exact ⟨by show isItem "pen" = true; decide +kernel, by decide⟩⟩
theorem ok_LMadeGood {P : Program} {w : World} {K : PySem.W.Frag} {mg : Str → Option Value} {base : Heap} (T : Tx w K mg) : FnOk P w K mg base CX0 9 (He.fAd K dLMadeGood.at_) (fdO K dLMadeGood.at_) P_LMadeGood (spLMadeGood K) := by
  refine T.f_LMadeGood.ok sc_LMadeGood (fun vs H Q E h => len_LMadeGood h) (fun cdv A outer s H vs Q E hr h => ⟨_, PSs.nox ((pss_cons (ps_if (PW.pt (pw_and (pt_cmpR op_eq (pe_ix ix_tup (pv 1) pe_int (fun _ _ => rfl)) pe_str (nomark _)) (pw_and1 (pt_cmpR op_eq (pe_ix ix_tup (pv 1) pe_int (fun _ _ => rfl)) pe_int (nomark _))))) (pss_one (ps_expr (pe_meth (pv 0) T.cl_Book T.m_Book_do (ok_BookDo T) (hr.mono (by decide)) T.b_BookDo .nil passL (pa_cons (pe_tup (pa_cons pe_str (pa_cons (pe_lst (pa_cons (pe_tup (pa_cons pe_str (pa_cons pe_int (pa_cons pe_int (pa_cons pe_int pa_nil))))) pa_nil)) pa_nil))) pa_nil)))) (pss_one (ps_if (PW.pt (pw_or (pt_cmpR op_eq (pe_ix ix_tup (pv 1) pe_int (fun _ _ => rfl)) pe_str (nomark _)) (pw_or1 (pt_cmpR op_eq (pe_ix ix_tup (pv 1) pe_int (fun _ _ => rfl)) pe_str (nomark _))))) (pss_one (ps_expr (pe_meth (pv 0) T.cl_Book T.m_Book_do (ok_BookDo T) (hr.mono (by decide)) T.b_BookDo .nil passL (pa_cons (pe_tup (pa_cons pe_str (pa_cons (pe_ix ix_tup (pv 1) pe_int (fun _ _ => rfl)) (pa_cons (pe_op op_add (pe_ix ix_tup (pv 1) (pe_op op_sub (pe_callB call_len_seq (by rfl) T.b_len (by decide +kernel) (pa_cons (pv 1) pa_nil)) pe_int) (fun _ _ => rfl)) (pe_callB call_abs (by rfl) T.b_abs (by decide +kernel) (pa_cons (pe_meth (pv 0) T.cl_Book T.m_Book_owed (ok_BookOwed T) (hr.mono (by decide)) T.b_BookOwed .nil passL (pa_cons (pe_ix ix_tup (pv 1) pe_int (fun _ _ => rfl)) pa_nil)) pa_nil))) pa_nil)))) pa_nil)))) (pss_one (ps_if (pt_cmpR op_in_seq (pe_ix ix_tup (pv 1) pe_int (fun _ _ => rfl)) (pe_lst (pa_cons pe_str (pa_cons pe_str (pa_cons pe_str pa_nil)))) (by rfl)) (pss_cons (ps_set (i := 2) sc_LMadeGood.nd rfl (Or.inl rfl) (pe_ix ix_list (pe_meth (pv 0) T.cl_Book T.m_Book_told (ok_BookTold T) (hr.mono (by decide)) T.b_BookTold .nil passL (pa_cons (pe_ix ix_tup (pv 1) pe_int (fun _ _ => rfl)) pa_nil)) (pe_ix ix_tup (pv 1) pe_int (fun _ _ => rfl)) (fun _ _ => rfl)))
      (pss_cons (ps_set (i := 3) sc_LMadeGood.nd rfl (Or.inl rfl) (pe_op op_add (pe_op op_sub (pe_ix ix_tup (pv 2) pe_int (fun _ _ => rfl)) (pe_ix ix_tup (pv 2) pe_int (fun _ _ => rfl))) (pe_ix ix_tup (pv 2) pe_int (fun _ _ => rfl))))
      (pss_cons (ps_set (i := 4) sc_LMadeGood.nd rfl (Or.inl rfl) (pe_op op_sub (pe_ix ix_tup (pv 1) pe_int (fun _ _ => rfl)) (pv 3)))
      (pss_cons (ps_if (pt_cmpR op_ne (pe_ix ix_tup (pv 1) pe_int (fun _ _ => rfl)) pe_str (nomark _)) (pss_one (ps_set (i := 4) sc_LMadeGood.nd rfl (Or.inl rfl) (pe_op op_add (pe_op op_sub (pe_ix ix_tup (pv 1) pe_int (fun _ _ => rfl)) (pe_ix ix_tup (pv 2) pe_int (fun _ _ => rfl))) (pe_ix ix_tup (pv 2) pe_int (fun _ _ => rfl))))) pss_nil)
      (pss_cons (ps_if (pt_cmpR op_gt (pv 4) (pe_ix ix_list (pe_lst (pa_cons (pv 3) (pa_cons (pe_op op_sub (pe_ix ix_tup (pv 2) pe_int (fun _ _ => rfl)) (pe_ix ix_tup (pv 2) pe_int (fun _ _ => rfl))) pa_nil))) (pe_callTy call_int1 (by rfl) T.b_int (by decide +kernel) (pa_cons (pe_cmpR op_eq (pe_ix ix_tup (pv 1) pe_int (fun _ _ => rfl)) pe_str (nomark _)) pa_nil)) (fun _ _ => rfl)) (nomark _)) (pss_one (ps_ret pe_bl)) pss_nil)
      (pss_one (ps_expr (pe_meth (pv 0) T.cl_Book T.m_Book_do (ok_BookDo T) (hr.mono (by decide)) T.b_BookDo .nil passL (pa_cons (pe_tup (pa_cons (pe_ix ix_list (pe_lst (pa_cons pe_str (pa_cons pe_str pa_nil))) (pe_callTy call_int1 (by rfl) T.b_int (by decide +kernel) (pa_cons (pe_cmpR op_eq (pe_ix ix_tup (pv 1) pe_int (fun _ _ => rfl)) pe_str (nomark _)) pa_nil)) (fun _ _ => rfl)) (pa_cons (pe_ix ix_tup (pv 1) pe_int (fun _ _ => rfl)) (pa_cons (pe_ix ix_tup (pv 1) pe_int (fun _ _ => rfl)) (pa_cons (pv 4) pa_nil))))) pa_nil))))))))) (pss_one (ps_ret pe_bl)))))))
      (pss_one (ps_ret (pe_callB call_isi (by rfl) T.b_isinstance (by decide +kernel) (pa_cons (pe_call (ok_LTried T) (hr.mono (by decide)) rfl T.g_LTried T.f_LTried.kp T.b_LTried .nil pass0 (pa_cons (pv 0) (pa_cons (pv 1) pa_nil))) (pa_cons (pe_bltn (v := .ty "list") (by rfl) T.b_list (by decide +kernel) rfl) pa_nil))))))), ?_⟩)
  obtain ⟨b, B, L, t, xs, rfl, h, ok, hz, ht, mg, k⟩ := h
  obtain ⟨dx, hb⟩ := h.ob
  walk_at "rd"
  have ix : ∀ {H' : Hp} {xs : List V}, H' t = some (.tup xs) → SqT K H' t xs := fun e => SqT.of e
  cases mg with
  | order n l2 hn =>
    refine r_ixT (ix ht) (atI_get (j := 0) rfl rfl) ?_
    walk_at "rd"
    refine r_ity rfl ?_
    walk_at "rd"
    refine r_ixT (ix ht) (atI_get (j := 1) rfl rfl) ?_
    walk_at "rd"
    refine r_ity rfl ?_
    walk_at "rd"
    refine r_m hb (no_Book_do _ _) ?_
    walk_at "rd"
    refine r_mk (by simp) fun t1 ht1 => ?_
    have s1 := same_upd (o := .tup [.str "pen", .int 9, .int 100, .int 1]) ht1
    walk_at "rd"
    refine r_mk (by simp) fun t2 ht2 => ?_
    have s2 := same_upd (o := .lst [.ref t1]) ht2
    walk_at "rd"
    refine r_mk (by simp) fun t3 ht3 => ?_
    have s3 := same_upd (o := .tup [.str "order", .ref t2]) ht3
    have s13 := (s1.trans s2).trans s3
    have st1 := ord_done (os := B.each) good_pen9 (by omega)
    walk_at "rd"
    refine ⟨b, B, L, .ref t3, rfl, h.same s13, ok, by omega, .inl ⟨.ord [pen9], ⟨t3, t2, [.ref t1], rfl, upd_same, s3 _ _ upd_same, h.fresh (upd_none ht2).2, .cons ⟨t1, rfl, s3 _ _ (s2 _ _ upd_same)⟩ .nil⟩, trivial, step_few st1, fun e q => (by rw [st1] at q; cases q), fun es cs q r L3 H3 bk3 m3 _ _ _ _ => ?_⟩⟩
    have ok3 := step_ok ok (d := .ord [pen9]) trivial q
    rw [st1] at q
    cases q
    have ht3' := m3.but.tup _ _ (s13 _ _ ht)
    have e3 : (B.each ++ [(⟨[pen9].map Lt.ln, 0, []⟩ : Od)])[2]? = some ⟨[pen9].map Lt.ln, 0, []⟩ := by
      rw [List.getElem?_append_right (by omega), l2]; rfl
    obtain ⟨es', cs', _, st2, _⟩ := step_pay_ok (n := n) e3 hn
    walk_at "rd"
    refine tried_done bk3 ok3 (by show (B.trail ++ [_]).length < 100000; simp; omega) (d := .mo "pay" 2 n) ⟨t, rfl, ht3'⟩ (.inl rfl) trivial st2 fun r xs H' er kn => ?_
    walk_at "rd"
    refine r_is_lst_list er ?_
    exact k _ (.step s13 m3 kn)
  | none o n no2 =>
    refine r_ixT (ix ht) (atI_get (j := 0) rfl rfl) ?_
    walk_at "rd"
    refine r_ity rfl ?_
    walk_at "rd"
    refine r_ixT (ix ht) (atI_get (j := 1) rfl rfl) ?_
    walk_at "rd"
    refine r_itz no2 ?_
    walk_at "rd"
    refine r_ixT (ix ht) (atI_get (j := 0) rfl rfl) ?_
    walk_at "rd"
    refine r_itz (by decide +kernel) ?_
    walk_at "rd"
    refine r_ixT (ix ht) (atI_get (j := 0) rfl rfl) ?_
    walk_at "rd"
    refine r_itz (by decide +kernel) ?_
    walk_at "rd"
    refine r_ixT (ix ht) (atI_get (j := 0) rfl rfl) ?_
    walk_at "rd"
    refine r_mk (by simp) fun l1 hl1 => ?_
    walk_at "rd"
    refine ⟨l1, _, rfl, .inl (SqL.of upd_same), rfl, rfl, ?_⟩
    rw [show inV (.str "pay") [.str "deliver", .str "back", .str "swap"] = false by decide +kernel]
    walk_at "rd"
    refine r_itF ?_
    walk_at "rd"
    exact k _ (.of (same_upd hl1))
  | credit r =>
    refine r_ixT (ix ht) (atI_get (j := 0) rfl rfl) ?_
    walk_at "rd"
    refine r_itz (by decide +kernel) ?_
    walk_at "rd"
    refine r_ixT (ix ht) (atI_get (j := 0) rfl rfl) ?_
    walk_at "rd"
    refine r_itz (by decide +kernel) ?_
    walk_at "rd"
    refine r_ixT (ix ht) (atI_get (j := 0) rfl rfl) ?_
    walk_at "rd"
    refine r_itz (by decide +kernel) ?_
    walk_at "rd"
    refine r_ixT (ix ht) (atI_get (j := 0) rfl rfl) ?_
    walk_at "rd"
    refine r_mk (by simp) fun l1 hl1 => ?_
    walk_at "rd"
    refine ⟨l1, _, rfl, .inl (SqL.of upd_same), rfl, rfl, ?_⟩
    rw [show inV (.str "credit") [.str "deliver", .str "back", .str "swap"] = false by decide +kernel]
    walk_at "rd"
    refine r_itF ?_
    walk_at "rd"
    exact k _ (.of (same_upd hl1))
  | refund j n od eo hn =>
    refine r_ixT (ix ht) (atI_get (j := 0) rfl rfl) ?_
    walk_at "rd"
    refine r_itz (by decide +kernel) ?_
    walk_at "rd"
    refine r_ixT (ix ht) (atI_get (j := 0) rfl rfl) ?_
    walk_at "rd"
    refine r_ity rfl ?_
    walk_at "rd"
    refine r_m hb (no_Book_do _ _) ?_
    walk_at "rd"
    refine r_ixT (ix ht) (atI_get (j := 1) rfl rfl) ?_
    walk_at "rd"
    refine ⟨t, _, rfl, .inr (ix ht), ?_⟩
    walk_at "rd"
    refine r_ixT (ix ht) (atI_get (j := 2) rfl rfl) ?_
    walk_at "rd"
    refine r_m hb (no_Book_owed _ _) ?_
    walk_at "rd"
    refine r_ixT (ix ht) (atI_get (j := 1) rfl rfl) ?_
    walk_at "rd"
    have hj := (List.getElem?_eq_some_iff.mp eo).1
    refine ⟨b, B, L, _, rfl, h, ok, fun z => absurd ⟨by omega, by omega⟩ z, fun j' o' ej eo' H1 s1 => ?_⟩
    have : j' = j := by omega
    subst this
    rw [eo] at eo'
    cases eo'
    walk_at "rd"
    refine ⟨_, rfl, ?_⟩
    walk_at "rd"
    obtain ⟨m, em, m1, m2⟩ : ∃ m, n + (if od.owing < 0 then -od.owing else od.owing) = m ∧ 1 ≤ m ∧ ¬ n > -(od.owing - m) := ⟨_, rfl, by split <;> omega, by split <;> omega⟩
    rw [em]
    refine r_mk (by simp) fun t2 ht2 => ?_
    have s2 := s1.trans (same_upd (o := .tup [.str "pay", .int j', .int m]) ht2)
    have e2 : upd H1 t2 (.tup [.str "pay", .int j', .int m]) t2 = _ := upd_same
    revert s2 e2
    generalize upd H1 t2 _ = H2
    intro s2 e2
    obtain ⟨es', cs', od', st1, eo1, ow1, _⟩ := step_pay_ok (n := m) eo m1
    walk_at "rd"
    refine ⟨b, B, L, .ref t2, rfl, h.same s2, ok, by omega, .inl ⟨.mo "pay" j' m, ⟨t2, rfl, e2⟩, .inl rfl, trivial, fun e q => (by rw [st1] at q; cases q), fun es cs q r L3 H3 bk3 m3 _ _ _ _ => ?_⟩⟩
    have ok3 := step_ok ok (d := .mo "pay" j' m) (.inl rfl) q
    rw [st1] at q
    cases q
    have ht3' := m3.but.tup _ _ (s2 _ _ ht)
    obtain ⟨⟨es2, cs2⟩, st2⟩ := step_refund_ok (n := n) eo1 hn (by rw [ow1]; exact m2)
    walk_at "rd"
    refine tried_done bk3 ok3 (by show (B.trail ++ [_]).length < 100000; simp; omega) (d := .mo "refund" j' n) ⟨t, rfl, ht3'⟩ (.inr rfl) trivial st2 fun r xs H' er kn => ?_
    walk_at "rd"
    refine r_is_lst_list er ?_
    exact k _ (.step s2 m3 kn)
  | move j p n od o2 eo ep ne hn =>
    refine r_ixT (ix ht) (atI_get (j := 0) rfl rfl) ?_
    walk_at "rd"
    refine r_itz (by decide +kernel) ?_
    walk_at "rd"
    refine r_ixT (ix ht) (atI_get (j := 0) rfl rfl) ?_
    walk_at "rd"
    refine r_itz (by decide +kernel) ?_
    walk_at "rd"
    refine r_ixT (ix ht) (atI_get (j := 0) rfl rfl) ?_
    walk_at "rd"
    refine r_ity rfl ?_
    walk_at "rd"
    refine r_m hb (no_Book_do _ _) ?_
    walk_at "rd"
    refine r_ixT (ix ht) (atI_get (j := 1) rfl rfl) ?_
    walk_at "rd"
    refine ⟨t, _, rfl, .inr (ix ht), ?_⟩
    walk_at "rd"
    refine r_ixT (ix ht) (atI_get (j := 3) rfl rfl) ?_
    walk_at "rd"
    refine r_m hb (no_Book_owed _ _) ?_
    walk_at "rd"
    refine r_ixT (ix ht) (atI_get (j := 1) rfl rfl) ?_
    walk_at "rd"
    have hj := (List.getElem?_eq_some_iff.mp eo).1
    refine ⟨b, B, L, _, rfl, h, ok, fun z => absurd ⟨by omega, by omega⟩ z, fun j' o' ej eo' H1 s1 => ?_⟩
    have : j' = j := by omega
    subst this
    rw [eo] at eo'
    cases eo'
    walk_at "rd"
    refine ⟨_, rfl, ?_⟩
    walk_at "rd"
    obtain ⟨m, em, m1, m2⟩ : ∃ m, n + (if od.owing < 0 then -od.owing else od.owing) = m ∧ 1 ≤ m ∧ ¬ n > -(od.owing - m) := ⟨_, rfl, by split <;> omega, by split <;> omega⟩
    rw [em]
    refine r_mk (by simp) fun t2 ht2 => ?_
    have s2 := s1.trans (same_upd (o := .tup [.str "pay", .int j', .int m]) ht2)
    have e2 : upd H1 t2 (.tup [.str "pay", .int j', .int m]) t2 = _ := upd_same
    revert s2 e2
    generalize upd H1 t2 _ = H2
    intro s2 e2
    obtain ⟨es', cs', od', st1, eo1, ow1, oth⟩ := step_pay_ok (n := m) eo m1
    walk_at "rd"
    refine ⟨b, B, L, .ref t2, rfl, h.same s2, ok, by omega, .inl ⟨.mo "pay" j' m, ⟨t2, rfl, e2⟩, .inl rfl, trivial, fun e q => (by rw [st1] at q; cases q), fun es cs q r L3 H3 bk3 m3 _ _ _ _ => ?_⟩⟩
    have ok3 := step_ok ok (d := .mo "pay" j' m) (.inl rfl) q
    rw [st1] at q
    cases q
    have ht3' := m3.but.tup _ _ (s2 _ _ ht)
    obtain ⟨⟨es2, cs2⟩, st2⟩ := step_move_ok (n := n) eo1 (by rw [oth p ne]; exact ep) ne hn (by rw [ow1]; exact m2)
    walk_at "rd"
    refine tried_done bk3 ok3 (by show (B.trail ++ [_]).length < 100000; simp; omega) (d := .mv j' p n) ⟨t, rfl, ht3'⟩ trivial trivial st2 fun r xs H' er kn => ?_
    walk_at "rd"
    refine r_is_lst_list er ?_
    exact k _ (.step s2 m3 kn)
  | ln w' j i n od x hw eo el z sp hn h1 =>
    have nw : w' ≠ "pay" ∧ w' ≠ "refund" ∧ w' ≠ "move" ∧ inV (.str w') [.str "deliver", .str "back", .str "swap"] = true := by
      rcases hw with rfl | rfl | rfl <;> exact ⟨by decide +kernel, by decide +kernel, by decide +kernel, by decide +kernel⟩
    have hj := (List.getElem?_eq_some_iff.mp eo).1
    have hi := (List.getElem?_eq_some_iff.mp el).1
    refine r_ixT (ix ht) (atI_get (j := 0) rfl rfl) ?_
    walk_at "rd"
    refine r_itz nw.1 ?_
    walk_at "rd"
    refine r_ixT (ix ht) (atI_get (j := 0) rfl rfl) ?_
    walk_at "rd"
    refine r_itz nw.2.1 ?_
    walk_at "rd"
    refine r_ixT (ix ht) (atI_get (j := 0) rfl rfl) ?_
    walk_at "rd"
    refine r_itz nw.2.2.1 ?_
    walk_at "rd"
    refine r_ixT (ix ht) (atI_get (j := 0) rfl rfl) ?_
    walk_at "rd"
    refine r_mk (by simp) fun l1 hl1 => ?_
    have c1 := same_upd (o := .lst [.str "deliver", .str "back", .str "swap"]) hl1
    walk_at "rd"
    refine ⟨l1, _, rfl, .inl (SqL.of upd_same), rfl, rfl, ?_⟩
    rw [nw.2.2.2]
    revert c1
    generalize upd H l1 _ = H1
    intro c1
    walk_at "rd"
    refine r_itT ?_
    walk_at "rd"
    refine r_m (c1 _ _ hb) (no_Book_told _ _) ?_
    walk_at "rd"
    refine r_ixT (ix (c1 _ _ ht)) (atI_get (j := 1) rfl rfl) ?_
    walk_at "rd"
    refine ⟨b, B, L, _, rfl, h.same c1, ok, fun z => absurd ⟨by omega, by omega⟩ z, fun j' o' ej eo' r1 H2 x1 s2 nr1 er1 pr1 => ?_⟩
    have : j' = j := by omega
    subst this
    rw [eo] at eo'
    cases eo'
    have c2 := c1.trans s2
    obtain ⟨v, ev⟩ : ∃ v, x1[i]? = some v := ⟨_, List.getElem?_eq_getElem (by rw [pr1.length]; exact hi)⟩
    obtain ⟨x', ex', u, rfl, hu⟩ := pr_ex pr1 ev
    rw [el] at ex'
    cases ex'
    obtain ⟨z1, z2, z3⟩ := z
    walk_at "rd"
    refine r_ixT (ix (c2 _ _ ht)) (atI_get (j := 2) rfl rfl) ?_
    walk_at "rd"
    refine r_ixL (SqL.of er1) (atI_get rfl ev) ?_
    walk_at "rd"
    refine r_ixT (SqT.of hu) (atI_get (j := 1) rfl rfl) ?_
    walk_at "rd"
    refine r_ixT (SqT.of hu) (atI_get (j := 2) rfl rfl) ?_
    walk_at "rd"
    refine r_ixT (SqT.of hu) (atI_get (j := 4) rfl rfl) ?_
    walk_at "rd"
    refine r_ixT (ix (c2 _ _ ht)) (atI_get (j := 3) rfl rfl) ?_
    walk_at "rd"
    refine r_ixT (ix (c2 _ _ ht)) (atI_get (j := 0) rfl rfl) ?_
    walk_at "rd"
    refine r_itn (fun cd => ?_) (fun cd => ?_)
    · rw [if_neg cd] at hn
      walk_at "rd"
      refine r_ixT (ix (c2 _ _ ht)) (atI_get (j := 3) rfl rfl) ?_
      walk_at "rd"
      refine r_ixT (SqT.of hu) (atI_get (j := 2) rfl rfl) ?_
      walk_at "rd"
      refine r_ixT (SqT.of hu) (atI_get (j := 3) rfl rfl) ?_
      walk_at "rd"
      refine r_ixT (SqT.of hu) (atI_get (j := 2) rfl rfl) ?_
      walk_at "rd"
      refine r_ixT (SqT.of hu) (atI_get (j := 3) rfl rfl) ?_
      walk_at "rd"
      refine r_mk (by simp) fun l3 hl3 => ?_
      have c3 := same_upd (o := .lst [.int (x.ordered - x.sent + x.again), .int (x.sent - x.home)]) hl3
      walk_at "rd"
      refine r_ixT (ix (c3 _ _ (c2 _ _ ht))) (atI_get (j := 0) rfl rfl) ?_
      walk_at "rd"
      refine .inr ⟨_, rfl, ?_⟩
      rw [decide_eq_false cd]
      refine r_ixL (SqL.of upd_same) (atI_get (j := 0) rfl rfl) ?_
      revert c3
      generalize upd H2 l3 _ = H3
      intro c3
      have c23 := c2.trans c3
      walk_at "rd"
      refine r_itd (fun _ => ?_) (fun p1 => ?_)
      · walk_at "rd"
        exact k _ (.of c23)
      walk_at "rd"
      refine r_m (c23 _ _ hb) (no_Book_do _ _) ?_
      walk_at "rd"
      refine r_mk (by simp) fun l4 hl4 => ?_
      have c4 := same_upd (o := .lst [.str "deliver", .str "swap"]) hl4
      walk_at "rd"
      refine r_ixT (ix (c4 _ _ (c23 _ _ ht))) (atI_get (j := 0) rfl rfl) ?_
      walk_at "rd"
      refine .inr ⟨_, rfl, ?_⟩
      rw [decide_eq_false cd]
      refine r_ixL (SqL.of upd_same) (atI_get (j := 0) rfl rfl) ?_
      revert c4
      generalize upd H3 l4 _ = H4
      intro c4
      have c24 := c23.trans c4
      walk_at "rd"
      refine r_ixT (ix (c24 _ _ ht)) (atI_get (j := 1) rfl rfl) ?_
      walk_at "rd"
      refine r_ixT (ix (c24 _ _ ht)) (atI_get (j := 2) rfl rfl) ?_
      walk_at "rd"
      revert p1
      obtain ⟨lk, elk⟩ : ∃ lk, lk = n - x.sent + x.home := ⟨_, rfl⟩
      rw [← elk]
      intro p1
      refine r_mk (by simp) fun t5 ht5 => ?_
      have c5 := c24.trans (same_upd (o := .tup [.str "deliver", .int j', .int i, .int lk]) ht5)
      have e5 : upd H4 t5 (.tup [.str "deliver", .int j', .int i, .int lk]) t5 = _ := upd_same
      revert c5 e5
      generalize upd H4 t5 _ = H5
      intro c5 e5
      have q1 : x.turn "deliver" lk = some { x with sent := x.sent + lk } := by
        unfold Ln.turn Ln.deliver
        rw [if_pos rfl, if_neg (by show ¬ lk > x.ordered - x.sent + x.again; omega)]
      obtain ⟨es', cs', od', st1, eo1, el1⟩ := step_ln_ok eo el (n := lk) (by omega) q1
      have q2 : ∃ y, ({ x with sent := x.sent + lk } : Ln).turn w' n = some y := by
        unfold Ln.turn Ln.bring
        rw [if_neg cd, if_neg (by rcases hw with rfl | rfl | rfl <;> decide +kernel), if_neg (by show ¬ n > x.sent + lk - x.home; omega)]
        exact ⟨_, rfl⟩
      obtain ⟨y, q2⟩ := q2
      have g1 : Dd.good (.ln "deliver" j' i lk) := .inl rfl
      walk_at "rd"
      refine ⟨b, B, L, .ref t5, rfl, h.same c5, ok, by omega, .inl ⟨.ln "deliver" j' i lk, ⟨t5, rfl, e5⟩, g1, trivial, fun e q => (by rw [st1] at q; cases q), fun es cs q r L6 H6 bk6 m6 _ _ _ _ => ?_⟩⟩
      have ok6 := step_ok ok g1 q
      rw [st1] at q
      cases q
      have ht6 := m6.but.tup _ _ (c5 _ _ ht)
      obtain ⟨es2, cs2, _, st2, _, _⟩ := step_ln_ok eo1 el1 (n := n) h1 q2
      walk_at "rd"
      refine tried_done bk6 ok6 (by show (B.trail ++ [_]).length < 100000; simp; omega) (d := .ln w' j' i n) ⟨t, rfl, ht6⟩ (by rcases hw with z | z | z; exact .inl z; exact .inr (.inl z); exact .inr (.inr (.inl z))) trivial st2 fun r xs H' er kn => ?_
      walk_at "rd"
      refine r_is_lst_list er ?_
      exact k _ (.step c5 m6 kn)
    · rw [if_pos cd] at hn
      walk_at "rd"
      refine r_ixT (SqT.of hu) (atI_get (j := 2) rfl rfl) ?_
      walk_at "rd"
      refine r_ixT (SqT.of hu) (atI_get (j := 3) rfl rfl) ?_
      walk_at "rd"
      refine r_mk (by simp) fun l3 hl3 => ?_
      have c3 := same_upd (o := .lst [.int (x.ordered - x.sent + x.again), .int (x.sent - x.home)]) hl3
      walk_at "rd"
      refine r_ixT (ix (c3 _ _ (c2 _ _ ht))) (atI_get (j := 0) rfl rfl) ?_
      walk_at "rd"
      refine .inr ⟨_, rfl, ?_⟩
      rw [decide_eq_true cd]
      refine r_ixL (SqL.of upd_same) (atI_get (j := 1) rfl rfl) ?_
      revert c3
      generalize upd H2 l3 _ = H3
      intro c3
      have c23 := c2.trans c3
      walk_at "rd"
      refine r_itd (fun _ => ?_) (fun p1 => ?_)
      · walk_at "rd"
        exact k _ (.of c23)
      walk_at "rd"
      refine r_m (c23 _ _ hb) (no_Book_do _ _) ?_
      walk_at "rd"
      refine r_mk (by simp) fun l4 hl4 => ?_
      have c4 := same_upd (o := .lst [.str "deliver", .str "swap"]) hl4
      walk_at "rd"
      refine r_ixT (ix (c4 _ _ (c23 _ _ ht))) (atI_get (j := 0) rfl rfl) ?_
      walk_at "rd"
      refine .inr ⟨_, rfl, ?_⟩
      rw [decide_eq_true cd]
      refine r_ixL (SqL.of upd_same) (atI_get (j := 1) rfl rfl) ?_
      revert c4
      generalize upd H3 l4 _ = H4
      intro c4
      have c24 := c23.trans c4
      walk_at "rd"
      refine r_ixT (ix (c24 _ _ ht)) (atI_get (j := 1) rfl rfl) ?_
      walk_at "rd"
      refine r_ixT (ix (c24 _ _ ht)) (atI_get (j := 2) rfl rfl) ?_
      walk_at "rd"
      revert p1
      obtain ⟨lk, elk⟩ : ∃ lk, lk = n - (x.ordered - x.sent + x.again) := ⟨_, rfl⟩
      rw [← elk]
      intro p1
      refine r_mk (by simp) fun t5 ht5 => ?_
      have c5 := c24.trans (same_upd (o := .tup [.str "swap", .int j', .int i, .int lk]) ht5)
      have e5 : upd H4 t5 (.tup [.str "swap", .int j', .int i, .int lk]) t5 = _ := upd_same
      revert c5 e5
      generalize upd H4 t5 _ = H5
      intro c5 e5
      have q1 : x.turn "swap" lk = some (Ln.cut { x with home := x.home + lk, again := x.again + lk }) := by
        unfold Ln.turn Ln.bring
        rw [if_neg (by decide +kernel), if_neg (by decide +kernel), if_neg (by show ¬ lk > x.sent - x.home; omega), decide_eq_true rfl, if_pos rfl]
      obtain ⟨es', cs', od', st1, eo1, el1⟩ := step_ln_ok eo el (n := lk) (by omega) q1
      have q2 : ∃ y, (Ln.cut { x with home := x.home + lk, again := x.again + lk }).turn w' n = some y := by
        rw [cd]
        unfold Ln.turn Ln.deliver
        rw [if_pos rfl, if_neg (by show ¬ n > x.ordered - x.sent + (x.again + lk); omega)]
        exact ⟨_, rfl⟩
      obtain ⟨y, q2⟩ := q2
      have g1 : Dd.good (.ln "swap" j' i lk) := .inr (.inr (.inl rfl))
      walk_at "rd"
      refine ⟨b, B, L, .ref t5, rfl, h.same c5, ok, by omega, .inl ⟨.ln "swap" j' i lk, ⟨t5, rfl, e5⟩, g1, trivial, fun e q => (by rw [st1] at q; cases q), fun es cs q r L6 H6 bk6 m6 _ _ _ _ => ?_⟩⟩
      have ok6 := step_ok ok g1 q
      rw [st1] at q
      cases q
      have ht6 := m6.but.tup _ _ (c5 _ _ ht)
      obtain ⟨es2, cs2, _, st2, _, _⟩ := step_ln_ok eo1 el1 (n := n) h1 q2
      walk_at "rd"
      refine tried_done bk6 ok6 (by show (B.trail ++ [_]).length < 100000; simp; omega) (d := .ln w' j' i n) ⟨t, rfl, ht6⟩ (by rcases hw with z | z | z; exact .inl z; exact .inr (.inl z); exact .inr (.inr (.inl z))) trivial st2 fun r xs H' er kn => ?_
      walk_at "rd"
      refine r_is_lst_list er ?_
      exact k _ (.step c5 m6 kn)

/-! ### good later -/
theorem dOfV_inv {xs : List V} {d : Dd} (h : DForm xs) (e : dOfV xs = some d) : (∃ w o l n, d = .ln w o l n ∧ xs = [.str w, .int o, .int l, .int n] ∧ wLn w) ∨ (∃ w o n, d = .mo w o n ∧ xs = [.str w, .int o, .int n] ∧ (w = "pay" ∨ w = "refund")) ∨ ∃ w o p n, d = .mv o p n ∧ xs = [.str w, .int o, .int p, .int n] ∧ w = "move" := by
  rcases h with rfl | ⟨w, ns, rfl, no, _, l1, l5⟩
  · cases e
  match ns, l1, l5 with
  | [o], _, _ => cases e
  | [o, n], _, _ =>
    have e' : (if w = "pay" ∨ w = "refund" then some (Dd.mo w o n) else none) = some d := e
    split at e'
    · rename_i c
      cases e'
      exact .inr (.inl ⟨w, o, n, rfl, rfl, c⟩)
    · cases e'
  | [o, l, n], _, _ =>
    have e' : (if w = "move" then some (Dd.mv o l n) else if w = "deliver" ∨ w = "back" ∨ w = "swap" ∨ w = "credit" then some (Dd.ln w o l n) else none) = some d := e
    split at e'
    · rename_i c
      cases e'
      exact .inr (.inr ⟨w, o, l, n, rfl, rfl, c⟩)
    · split at e'
      · rename_i c
        cases e'
        exact .inl ⟨w, o, l, n, rfl, rfl, c⟩
      · cases e'
  | [o, l, n, m], _, _ => cases e
  | [o, l, n, m, k], _, _ => cases e
theorem tm_ln {es : List Od} {s0 s1 s2 m0 m1 : Int} (h : Two es s0 s1 s2 m0 m1) {w : Str} (g : wLn w) {o l n : Int} (e : dueD es (.ln w o l n) = "TooMuch") : (0 ≤ o ∧ o < 2) ∧ (0 ≤ l ∧ l ≤ o) ∧ 1 ≤ n ∧ n > mostLn w (o + l) s0 s1 s2 := by
  obtain ⟨d1, d2, d3, d4, d5⟩ := due_ln h g o l n
  by_cases c1 : 0 ≤ o ∧ o < 2
  · by_cases c2 : 0 ≤ l ∧ l ≤ o
    · by_cases c3 : n < 1
      · rw [d3 c1 c2 c3] at e
        exact absurd e (by decide +kernel)
      · by_cases c4 : n > mostLn w (o + l) s0 s1 s2
        · exact ⟨c1, c2, by omega, c4⟩
        · rw [d5 c1 c2 (by omega) c4] at e
          exact absurd e (by decide +kernel)
    · rw [d2 c1 c2] at e
      exact absurd e (by decide +kernel)
  · rw [d1 c1] at e
    exact absurd e (by decide +kernel)
theorem tm_mo {es : List Od} {s0 s1 s2 m0 m1 : Int} (h : Two es s0 s1 s2 m0 m1) {w : Str} {o n : Int} (e : dueD es (.mo w o n) = "TooMuch") : (0 ≤ o ∧ o < 2) ∧ 1 ≤ n ∧ w ≠ "pay" := by
  obtain ⟨d1, d2, d3, d4, d5⟩ := due_mo h (w := w) o n
  by_cases c1 : 0 ≤ o ∧ o < 2
  · by_cases c3 : n < 1
    · rw [d2 c1 c3] at e
      exact absurd e (by decide +kernel)
    · refine ⟨c1, by omega, fun z => ?_⟩
      rw [d3 c1 (by omega) z] at e
      exact absurd e (by decide +kernel)
  · rw [d1 c1] at e
    exact absurd e (by decide +kernel)
theorem tm_mv {es : List Od} {s0 s1 s2 m0 m1 : Int} (h : Two es s0 s1 s2 m0 m1) {o p n : Int} (e : dueD es (.mv o p n) = "TooMuch") : (0 ≤ o ∧ o < 2) ∧ (0 ≤ p ∧ p < 2) ∧ ¬ o = p ∧ 1 ≤ n := by
  obtain ⟨d1, d1', d2, d3, d4, d5⟩ := due_mv h o p n
  by_cases c1 : 0 ≤ o ∧ o < 2
  · by_cases c2 : 0 ≤ p ∧ p < 2
    · by_cases c3 : o = p
      · rw [d2 c1 c2 c3] at e
        exact absurd e (by decide +kernel)
      · by_cases c4 : n < 1
        · rw [d3 c1 c2 c3 c4] at e
          exact absurd e (by decide +kernel)
        · exact ⟨c1, c2, c3, by omega⟩
    · rw [d1' c2] at e
      exact absurd e (by decide +kernel)
  · rw [d1 c1] at e
    exact absurd e (by decide +kernel)
theorem two_get {es : List Od} {s0 s1 s2 m0 m1 : Int} (h : Two es s0 s1 s2 m0 m1) {o : Int} (r : 0 ≤ o ∧ o < 2) : ∃ (j : Nat) (od : Od), o = (j : Int) ∧ es[j]? = some od := by
  have l := two_len h
  obtain ⟨j, rfl⟩ : ∃ j : Nat, o = (j : Int) := ⟨o.toNat, by omega⟩
  exact ⟨j, _, rfl, List.getElem?_eq_getElem (by omega)⟩
theorem mg_of {B : Bk} {s0 s1 s2 m0 m1 : Int} (h : Two B.each s0 s1 s2 m0 m1) (b : 0 ≤ s0 ∧ 0 ≤ s1 ∧ 0 ≤ s2) {xs : List V} {d : Dd} (df : DForm xs) (e : dOfV xs = some d) (tm : dueD B.each d = "TooMuch") : MG B xs := by
  rcases dOfV_inv df e with ⟨w, o, l, n, rfl, rfl, g⟩ | ⟨w, o, n, rfl, rfl, g⟩ | ⟨w, o, p, n, rfl, rfl, g⟩
  · obtain ⟨c1, c2, c3, c4⟩ := tm_ln h g tm
    by_cases wc : w = "credit"
    · subst wc
      exact .credit _
    have hw : w = "deliver" ∨ w = "back" ∨ w = "swap" := by
      rcases g with z | z | z | z
      · exact .inl z
      · exact .inr (.inl z)
      · exact .inr (.inr z)
      · exact absurd z wc
    obtain ⟨k0, k1, eb⟩ := h
    have fin : ∀ (j i : Nat) (od : Od) (x : Ln), o = j → l = i → B.each[j]? = some od → od.lines[i]? = some x → (x.home = 0 ∧ x.again = 0 ∧ x.credited = 0) → 0 ≤ x.sent → (mostLn w (o + l) s0 s1 s2 = if w = "deliver" then x.ordered - x.sent else x.sent) → MG B [.str w, .int o, .int l, .int n] := fun j i od x ej ei eo el z sp em => by
      subst ej ei
      exact .ln w j i n od x hw eo el z sp (by rw [← em]; exact c4) c3
    have mo : ∀ k, mostLn w k s0 s1 s2 = if w = "deliver" then pick3 k (6 - s0) (3 - s1) (2 - s2) else pick3 k s0 s1 s2 := fun k => by
      unfold mostLn
      rw [if_neg wc]
    have cs : (o = 0 ∧ l = 0) ∨ (o = 1 ∧ l = 0) ∨ (o = 1 ∧ l = 1) := by omega
    rcases cs with ⟨rfl, rfl⟩ | ⟨rfl, rfl⟩ | ⟨rfl, rfl⟩
    · exact fin 0 0 (o0 s0 m0 k0) ⟨"pen", 6, 100, 1, s0, 0, 0, 0⟩ rfl rfl (by rw [eb]; rfl) rfl ⟨rfl, rfl, rfl⟩ b.1 (mo _)
    · exact fin 1 0 (o1 s1 s2 m1 k1) ⟨"cup", 3, 50, 2, s1, 0, 0, 0⟩ rfl rfl (by rw [eb]; rfl) rfl ⟨rfl, rfl, rfl⟩ b.2.1 (mo _)
    · exact fin 1 1 (o1 s1 s2 m1 k1) ⟨"box", 2, 7, 1, s2, 0, 0, 0⟩ rfl rfl (by rw [eb]; rfl) rfl ⟨rfl, rfl, rfl⟩ b.2.2 (mo _)
  · obtain ⟨c1, c2, c3⟩ := tm_mo h tm
    obtain rfl : w = "refund" := g.elim (fun z => absurd z c3) id
    obtain ⟨j, od, rfl, eo⟩ := two_get h c1
    exact .refund j n od eo c2
  · subst g
    obtain ⟨c1, c2, c3, c4⟩ := tm_mv h tm
    obtain ⟨j, od, rfl, eo⟩ := two_get h c1
    obtain ⟨i, od2, rfl, eo2⟩ := two_get h c2
    exact .move j i n od od2 eo eo2 (fun z => c3 (by rw [z])) c4
def spLGoodLater (K : PySem.W.Frag) : Sp := fun vs H Q _ => ∃ (b : Addr) (B : Bk) (L : Lay) (t : Addr) (xs : List V) (s0 s1 s2 m0 m1 : Int), vs = [.ref b, .ref t, .str (dueX B.each xs)] ∧ BookAt K H b B L ∧ B.ok ∧ B.trail.length < 90000 ∧ H t = some (.tup xs) ∧ DForm xs ∧ Two B.each s0 s1 s2 m0 m1 ∧ (0 ≤ s0 ∧ 0 ≤ s1 ∧ 0 ≤ s2) ∧ ∀ H', KeepNo L H H' → Q (.bl true) H'
theorem len_LGoodLater {K : PySem.W.Frag} {vs : List V} {H : Hp} {Q : VK} {E : XK} (h : spLGoodLater K vs H Q E) : vs.length = 3 := by
  obtain ⟨_, _, _, _, _, _, _, _, _, _, rfl, _⟩ := h; rfl
theorem ok_LGoodLater {P : Program} {w : World} {K : PySem.W.Frag} {mg : Str → Option Value} {base : Heap} (T : Tx w K mg) : FnOk P w K mg base CX0 10 (He.fAd K dLGoodLater.at_) (fdO K dLGoodLater.at_) P_LGoodLater (spLGoodLater K) := by
  refine T.f_LGoodLater.ok sc_LGoodLater (fun vs H Q E h => len_LGoodLater h) (fun cdv A outer s H vs Q E hr h => ⟨_, PSs.nox ((pss_cons (ps_if (PW.pt (pw_or (PW.pt (pw_and (pt_cmpR op_eq (pv 2) pe_str (nomark _)) (pw_and (pt_cmpR op_eq (pe_ix ix_tup (pv 1) pe_int (fun _ _ => rfl)) pe_str (nomark _)) (pw_and1 (pt_cmpR op_gt (pe_ix ix_tup (pv 1) pe_int (fun _ _ => rfl)) pe_int (nomark _)))))) (pw_or1 (pt_cmpR op_eq (pv 2) pe_str (nomark _))))) (pss_one (ps_ret (pe_call (ok_LMadeGood T) (hr.mono (by decide)) rfl T.g_LMadeGood T.f_LMadeGood.kp T.b_LMadeGood .nil pass0 (pa_cons (pv 0) (pa_cons (pv 1) pa_nil))))) pss_nil)
      (pss_one (ps_ret pe_bl)))), ?_⟩)
  obtain ⟨b, B, L, t, xs, s0, s1, s2, m0, m1, rfl, h, ok, hz, ht, df, tw, bd, k⟩ := h
  rcases dform_cases df with ⟨dn, _⟩ | ⟨d, ds, _⟩
  · have e : dueX B.each xs = "NoDeed" := by
      unfold dueX
      rw [dn]
    rw [e]
    walk_at "rd"
    refine r_itz (by decide +kernel) ?_
    walk_at "rd"
    refine r_itz (by decide +kernel) ?_
    walk_at "rd"
    exact k _ (.of (Same.refl _))
  have e : dueX B.each xs = dueD B.each d := by
    unfold dueX
    rw [ds]
  rw [e]
  have tm : dueD B.each d = "TooMuch" → spLMadeGood K [.ref b, .ref t] H Q E0 := fun z => ⟨b, B, L, t, xs, rfl, h, ok, hz, ht, mg_of tw bd df ds z, k⟩
  walk_at "rd"
  refine r_itd (fun c1 => ?_) (fun c1 => ?_)
  · walk_at "rd"
    have nt : ¬ dueD B.each d = "TooMuch" := by
      rw [c1]; decide +kernel
    rcases dOfV_inv df ds with ⟨w', o, l, n, rfl, rfl, g⟩ | ⟨w', o, n, rfl, rfl, g⟩ | ⟨w', o, p, n, rfl, rfl, g⟩
    · refine r_ixT (SqT.of ht) (atI_get (j := 0) rfl rfl) ?_
      walk_at "rd"
      refine r_itz (fun z => (ln_not g).2 (.inl z)) ?_
      walk_at "rd"
      refine r_itz nt ?_
      walk_at "rd"
      exact k _ (.of (Same.refl _))
    · refine r_ixT (SqT.of ht) (atI_get (j := 0) rfl rfl) ?_
      walk_at "rd"
      refine r_itd (fun wp => ?_) (fun wp => ?_)
      rotate_left
      · walk_at "rd"
        refine r_itz nt ?_
        walk_at "rd"
        exact k _ (.of (Same.refl _))
      walk_at "rd"
      refine r_ixT (SqT.of ht) (atI_get (j := 2) rfl rfl) ?_
      walk_at "rd"
      refine r_itd (fun np => ?_) (fun np => ?_)
      rotate_left
      · walk_at "rd"
        refine r_itz nt ?_
        walk_at "rd"
        exact k _ (.of (Same.refl _))
      walk_at "rd"
      have mg : MG B [.str w', .int o, .int n] := by
        subst wp
        by_cases o2 : o = 2
        · subst o2
          exact .order n (two_len tw) (by omega)
        · exact .none o n o2
      exact ⟨b, B, L, t, _, rfl, h, ok, hz, ht, mg, k⟩
    · refine r_ixT (SqT.of ht) (atI_get (j := 0) rfl rfl) ?_
      walk_at "rd"
      refine r_itz (fun z => by rw [g] at z; exact absurd z (by decide +kernel)) ?_
      walk_at "rd"
      refine r_itz nt ?_
      walk_at "rd"
      exact k _ (.of (Same.refl _))
  · walk_at "rd"
    refine r_itd (fun c2 => ?_) (fun c2 => ?_)
    · walk_at "rd"
      exact tm c2
    · walk_at "rd"
      exact k _ (.of (Same.refl _))

/-! ### a deed asked -/
theorem marks_more {o : Od} {w : Str} {c : Int} : (o.mark w c).marks.length ≠ o.marks.length := by
  show (o.marks ++ [(w, c)]).length ≠ o.marks.length
  simp
theorem step_marks {es es' : List Od} {d : Dd} {cs : List (Int × Int)} (no : ∀ ls, d ≠ .ord ls) (h : step es d = .ok (es', cs)) : es'.length = es.length ∧ ∃ (j : Nat) (a b : Od), es[j]? = some a ∧ es'[j]? = some b ∧ b.marks.length ≠ a.marks.length := by
  cases d with
  | ord ls => exact absurd rfl (no ls)
  | ln w o l n =>
    have h' : stepLn es w o l n = .ok (es', cs) := h
    unfold stepLn at h'
    rcases at_or es o with ⟨q, _⟩ | ⟨j, od, rfl, eo, q⟩
    · rw [q] at h'; cases h'
    rw [q] at h'
    dsimp only at h'
    rcases at_or od.lines l with ⟨q, _⟩ | ⟨i, x, rfl, el, q⟩
    · rw [q] at h'; cases h'
    rw [q] at h'
    dsimp only at h'
    split at h'
    · cases h'
    cases et : x.turn w n with
    | none => rw [et] at h'; cases h'
    | some x' =>
      rw [et] at h'
      cases h'
      exact ⟨List.length_set, j, od, _, eo, List.getElem?_set_self (List.getElem?_eq_some_iff.mp eo).1, marks_more (o := { od with lines := od.lines.set i x' })⟩
  | mo w o n =>
    have h' : stepMo es w o n = .ok (es', cs) := h
    unfold stepMo at h'
    rcases at_or es o with ⟨q, _⟩ | ⟨j, od, rfl, eo, q⟩
    · rw [q] at h'; cases h'
    rw [q] at h'
    dsimp only at h'
    have hj := (List.getElem?_eq_some_iff.mp eo).1
    split at h'
    · cases h'
    split at h'
    · cases h'
      exact ⟨List.length_set, j, od, _, eo, List.getElem?_set_self hj, marks_more (o := od.pay n)⟩
    split at h'
    · cases h'
    · cases h'
      exact ⟨List.length_set, j, od, _, eo, List.getElem?_set_self hj, marks_more (o := od.pay (-n))⟩
  | mv o p n =>
    have h' : stepMv es o p n = .ok (es', cs) := h
    unfold stepMv at h'
    rcases at_or es o with ⟨q, _⟩ | ⟨i, a, rfl, ea, q⟩
    · rw [q] at h'; cases h'
    rw [q] at h'
    dsimp only at h'
    rcases at_or es p with ⟨q, _⟩ | ⟨j, b, rfl, eb, q⟩
    · rw [q] at h'; cases h'
    rw [q] at h'
    dsimp only at h'
    have hj := (List.getElem?_eq_some_iff.mp eb).1
    split at h'
    · cases h'
    split at h'
    · cases h'
    split at h'
    · cases h'
    cases h'
    exact ⟨by rw [List.length_set, List.length_set], j, b, _, eb, List.getElem?_set_self (by rw [List.length_set]; exact hj), marks_more (o := b.pay n)⟩
theorem one_ne {a b : Od} (ha : a.inv) (hb : b.inv) (h : a.marks.length ≠ b.marks.length) : PyData.eqv (dOne a) (dOne b) = false := by
  have e : PyData.eqv (dRows (a.marks.map mkRow)) (dRows (b.marks.map mkRow)) = false := by
    rw [dRows_eqv (inv_mks ha) (inv_mks hb)]
    refine decide_eq_false fun z => h ?_
    have := congrArg List.length z
    rw [List.length_map, List.length_map] at this
    exact this
  show PyData.eqv (.list _) (.list _) = false
  simp only [PyData.eqv, PyData.eqvAll, e, Bool.and_false, Bool.false_and]
theorem all_ne : ∀ {os es : List Od} {j : Nat} {a b : Od}, os[j]? = some a → es[j]? = some b → PyData.eqv (dOne a) (dOne b) = false → PyData.eqvAll (os.map dOne) (es.map dOne) = false
  | [], _, _, _, _, h, _, _ => by simp at h
  | _ :: _, [], _, _, _, _, h, _ => by simp at h
  | o :: os, e :: es, 0, a, b, h1, h2, h => by
    cases h1
    cases h2
    simp only [List.map_cons, PyData.eqvAll, h, Bool.false_and]
  | o :: os, e :: es, j + 1, a, b, h1, h2, h => by
    have ih := all_ne (os := os) (es := es) (j := j) (by simpa using h1) (by simpa using h2) h
    simp only [List.map_cons, PyData.eqvAll, ih, Bool.and_false]
theorem r_neSeen2 {K : PySem.W.Frag} {S S' : Addr → Prop} {H : Hp} {Q : VK} {r q : Addr} {os es : List Od} (hi : ∀ o, o ∈ os → o.inv) (he : ∀ o, o ∈ es → o.inv) (h : SeenAt S H r os) (h' : SeenAt S' H q es) {j : Nat} {a b : Od} (ea : os[j]? = some a) (eb : es[j]? = some b) (ne : a.marks.length ≠ b.marks.length)
    (k : Q (.bl true) H) : rNeD K (.ref r) (.ref q) H Q := by
  obtain ⟨d1, s1⟩ := seen_dp (K := K) hi h
  obtain ⟨d2, s2⟩ := seen_dp (K := K) he h'
  refine ⟨_, _, d1, d2, s1, s2, ?_⟩
  have e : PyData.eqv (dSeen os) (dSeen es) = false := by
    show PyData.eqv (.list _) (.list _) = false
    simp only [PyData.eqv]
    exact all_ne ea eb (one_ne (hi a (List.mem_of_getElem? ea)) (he b (List.mem_of_getElem? eb)) ne)
  rw [e]
  exact k
/-- what a try ends in -/
def TrO (K : PySem.W.Frag) (b : Addr) (B : Bk) (L : Lay) (t : Addr) (xs : List V) (H : Hp) : V → Hp → Prop := fun v H' =>
  (∃ nm : Str, v = .str nm ∧ dueX B.each xs = nm ∧ nm ≠ "" ∧ PyData.strOk nm = true ∧ Same H H' ∧ ((∃ (d : Dd) (e : Er), (∀ (F : Addr → Prop) (H : Hp), H t = some (.tup xs) → DdAt F H (.ref t) d) ∧ d.good ∧ d.few ∧ step B.each d = .error e ∧ e ∈ lawErs) ∨ Bad xs)) ∨
  (∃ (r : Addr) (d : Dd) (es : List Od) (cs : List (Int × Int)) (L' : Lay) (ls : List V), v = .ref r ∧ dueX B.each xs = "" ∧ H' r = some (.lst ls) ∧ step B.each d = .ok (es, cs) ∧ d.good ∧ (∀ ls, d ≠ .ord ls) ∧ BookAt K H' b ⟨es, B.trail ++ [d]⟩ L' ∧ Mod L L' H H' ∧ Stay H H')
theorem er_ok {e : Er} : PyData.strOk e.name = true ∧ e.name ≠ "" := by
  cases e <;> (simp only [Er.name]; decide +kernel)
theorem triedB_by {K : PySem.W.Frag} {b : Addr} {B : Bk} {L : Lay} {t : Addr} {xs : List V} {H : Hp} {Q : VK} {E : XK} (h : BookAt K H b B L) (ok : B.ok) (hz : B.trail.length < 100000) (ht : H t = some (.tup xs)) (df : DForm xs) (main : ∀ v H', TrO K b B L t xs H v H' → Q v H') : spLTried K [.ref b, .ref t] H Q E := by
  refine ⟨b, B, L, .ref t, rfl, h, ok, hz, ?_⟩
  rcases dform_cases df with ⟨dn, bad⟩ | ⟨d, ds, g, few, no, hd⟩
  · refine .inr ⟨t, xs, rfl, ht, bad, main _ _ (.inl ⟨"NoDeed", rfl, ?_, by decide +kernel, by decide +kernel, Same.refl _, .inr bad⟩)⟩
    unfold dueX
    rw [dn]
  have dx : dueX B.each xs = dueD B.each d := by
    unfold dueX
    rw [ds]
  refine .inl ⟨d, hd _ _ _ ht, g, few, fun e q => ⟨step_ers no q, fun H' s => main _ _ (.inl ⟨e.name, rfl, ?_, er_ok.2, er_ok.1, s, .inl ⟨d, e, fun F H ht => hd F H t ht, g, few, q, step_ers no q⟩⟩)⟩, fun es cs q r L' H' bk m st _ _ ch => ?_⟩
  · rw [dx]
    unfold dueD
    rw [q]; rfl
  · obtain ⟨ys, ey, _⟩ := ch
    refine main _ _ (.inr ⟨r, d, es, cs, L', ys, rfl, ?_, ey, q, g, no, bk, m, st⟩)
    rw [dx]
    unfold dueD
    rw [q]; rfl
def spLDeedAsked (K : PySem.W.Frag) : Sp := fun vs H Q _ => ∃ (s : Addr) (m : Int), vs = [.ref s, .int m] ∧ Script K H s ∧ 0 ≤ m ∧ ∀ H', Script K H' s → Q (.bl true) H'
theorem len_LDeedAsked {K : PySem.W.Frag} {vs : List V} {H : Hp} {Q : VK} {E : XK} (h : spLDeedAsked K vs H Q E) : vs.length = 2 := by
  obtain ⟨_, _, rfl, _⟩ := h; rfl
theorem ok_LDeedAsked {P : Program} {w : World} {K : PySem.W.Frag} {mg : Str → Option Value} {base : Heap} (T : Tx w K mg) : FnOk P w K mg base CX0 11 (He.fAd K dLDeedAsked.at_) (fdO K dLDeedAsked.at_) P_LDeedAsked (spLDeedAsked K) := by
  refine T.f_LDeedAsked.ok sc_LDeedAsked (fun vs H Q E h => len_LDeedAsked h) (fun cdv A outer s H vs Q E hr h => ⟨_, PSs.nox ((pss_cons (ps_set (i := 2) sc_LDeedAsked.nd rfl (Or.inl rfl) (pe_call (ok_LBegun T) (hr.mono (by decide)) rfl T.g_LBegun T.f_LBegun.kp T.b_LBegun .nil pass0 (pa_cons (pv 0) (pa_cons (pv 1) pa_nil))))
      (pss_cons (ps_set (i := 3) sc_LDeedAsked.nd rfl (Or.inl rfl) (pe_ix ix_list (pv 2) pe_int (fun _ _ => rfl)))
      (pss_cons (ps_set (i := 4) sc_LDeedAsked.nd rfl (Or.inl rfl) (pe_call (ok_LDeedBy T) (hr.mono (by decide)) rfl T.g_LDeedBy T.f_LDeedBy.kp T.b_LDeedBy .nil pass0 (pa_cons (pv 0) (pa_cons (pv 1) pa_nil))))
      (pss_cons (ps_set (i := 5) sc_LDeedAsked.nd rfl (Or.inl rfl) (pe_lst pa_nil))
      (pss_cons (ps_set (i := 6) sc_LDeedAsked.nd rfl (Or.inl rfl) (pe_call (ok_LSeen T) (hr.mono (by decide)) rfl T.g_LSeen T.f_LSeen.kp T.b_LSeen .nil pass0 (pa_cons (pv 3) (pa_cons (pv 5) pa_nil))))
      (pss_cons (ps_set (i := 7) sc_LDeedAsked.nd rfl (Or.inl rfl) (pe_call (ok_LTried T) (hr.mono (by decide)) rfl T.g_LTried T.f_LTried.kp T.b_LTried .nil pass0 (pa_cons (pv 3) (pa_cons (pv 4) pa_nil))))
      (pss_cons (ps_set (i := 8) sc_LDeedAsked.nd rfl (Or.inl rfl) (pe_call (ok_LDue T) (hr.mono (by decide)) rfl T.g_LDue T.f_LDue.kp T.b_LDue .nil pass0 (pa_cons (pv 4) (pa_cons (pe_ix ix_list (pv 2) pe_int (fun _ _ => rfl)) (pa_cons (pe_ix ix_list (pv 2) pe_int (fun _ _ => rfl)) pa_nil)))))
      (pss_cons (ps_if (pt_cmpR op_eq (pv 8) pe_str (nomark _)) (pss_one (ps_ret (pe_and (pe_callB call_isi (by rfl) T.b_isinstance (by decide +kernel) (pa_cons (pv 7) (pa_cons (pe_bltn (v := .ty "list") (by rfl) T.b_list (by decide +kernel) rfl) pa_nil))) (pe_and (pe_cmpR (op_neD hr.units) (pe_call (ok_LSeen T) (hr.mono (by decide)) rfl T.g_LSeen T.f_LSeen.kp T.b_LSeen .nil pass0 (pa_cons (pv 3) (pa_cons (pv 5) pa_nil))) (pv 6) (nomark _)) (pe_one (pe_call (ok_LKeptWell T) (hr.mono (by decide)) rfl T.g_LKeptWell T.f_LKeptWell.kp T.b_LKeptWell .nil pass0 (pa_cons (pv 5) pa_nil))))))) pss_nil)
      (pss_cons (ps_if (PW.pt (pw_or (pt_not (pt_val (pe_callB call_isi (by rfl) T.b_isinstance (by decide +kernel) (pa_cons (pv 7) (pa_cons (pe_bltn (v := .ty "str") (by rfl) T.b_str (by decide +kernel) rfl) pa_nil))))) (pw_or (pt_cmpR (op_neD hr.units) (pv 7) (pv 8) (nomark _)) (pw_or1 (pt_not (pt_val (pe_call (ok_LRefusedByAny T) (hr.mono (by decide)) rfl T.g_LRefusedByAny T.f_LRefusedByAny.kp T.b_LRefusedByAny .nil pass0 (pa_cons (pv 3) (pa_cons (pv 4) pa_nil))))))))) (pss_one (ps_ret pe_bl)) pss_nil)
      (pss_cons (ps_if (PW.pt (pw_or (pt_cmpR op_ne (pe_meth0 (pv 3) T.cl_Book T.m_Book_orders (ok_BookOrders T) (hr.mono (by decide)) T.b_BookOrders .nil pass0) pe_int (nomark _)) (pw_or (pt_cmpR (op_neD hr.units) (pe_call (ok_LSeen T) (hr.mono (by decide)) rfl T.g_LSeen T.f_LSeen.kp T.b_LSeen .nil pass0 (pa_cons (pv 3) (pa_cons (pv 5) pa_nil))) (pv 6) (nomark _)) (pw_or1 (pt_not (pt_val (pe_call (ok_LKeptWell T) (hr.mono (by decide)) rfl T.g_LKeptWell T.f_LKeptWell.kp T.b_LKeptWell .nil pass0 (pa_cons (pv 5) pa_nil)))))))) (pss_one (ps_ret pe_bl)) pss_nil)
      (pss_one (ps_ret (pe_call (ok_LGoodLater T) (hr.mono (by decide)) rfl T.g_LGoodLater T.f_LGoodLater.kp T.b_LGoodLater .nil pass0 (pa_cons (pv 3) (pa_cons (pv 4) (pa_cons (pv 8) pa_nil))))))))))))))))), ?_⟩)
  obtain ⟨s, m, rfl, scr, hm, k⟩ := h
  walk_at "rd"
  refine ⟨s, m, rfl, scr, hm, fun r b sl su B L s0 s1 s2 m0 m1 H1 er1 esl1 esu1 G tw bd bu osl osu or_ => ?_⟩
  have scr1 := scr.same G.same
  walk_at "rd"
  refine r_ixL (SqL.of er1) (atI_get (j := 0) rfl rfl) ?_
  walk_at "rd"
  refine ⟨s, m, rfl, scr1, hm, fun t xs H2 ht2 df c2 => ?_⟩
  walk_at "rd"
  refine r_mk (by simp) fun kr hkr => ?_
  have c3 := c2.trans (same_upd (o := .lst []) hkr)
  have ekr : upd H2 kr (.lst []) kr = some (.lst []) := upd_same
  have ht3 := same_upd (o := .lst []) hkr _ _ ht2
  revert c3 ekr ht3
  generalize upd H2 kr (.lst []) = H3
  intro c3 ekr ht3
  have okr : L.own kr = .no := (G.bk.same c2).fresh hkr
  have h3 := G.bk.same c3
  have kq3 : Kq H3 kr [] := ⟨ekr, (fun u h => by cases h), fun u h => by cases h⟩
  have ap3 : ∀ x, L.own x ≠ .no → ¬ qfoot kr [] x := fun x z w => by
    rcases w with w | ⟨u, hu, _⟩
    · exact z (by rw [w]; exact okr)
    · cases hu
  have tr := G.tr
  walk_at "rd"
  refine ⟨b, B, L, kr, [], rfl, h3, two_len tw, G.ok, G.inv, by omega, kq3, ap3, by decide, fun sa ps H4 sn kq4 lp4 but4 st4 gr4 => ?_⟩
  have lp : ps.length ≤ 4 := by
    rw [two_len tw] at lp4
    simpa using lp4
  have ap4 : ∀ x, L.own x ≠ .no → ¬ qfoot kr ps x := fun x z w => by
    rcases gr4 x w with q | q
    · exact ap3 x z q
    · exact z (h3.fresh q)
  have h4 := h3.keep but4 fun x z w => z (by rw [show x = kr from w]; exact okr)
  have nk : ∀ {x : Addr} {o : HO}, H1 x = some o → ¬ x = kr := fun e => ne_of_none (c2 _ _ e) hkr
  have er4 := but4.keep _ _ (c3 _ _ er1) (nk er1)
  have esl4 := but4.keep _ _ (c3 _ _ esl1) (nk esl1)
  have esu4 := but4.keep _ _ (c3 _ _ esu1) (nk esu1)
  have ht4 := but4.tup _ _ ht3
  have kn1 : ∀ a o, H a = some o → H4 a = some o ∧ L.own a = .no := fun a o e => ⟨but4.keep _ _ (c3 _ _ (G.same _ _ e)) (nk (G.same _ _ e)), Classical.byContradiction fun z => by rw [G.out a z] at e; cases e⟩
  have fin : ∀ {H' : Hp}, (∀ a o, H4 a = some o → L.own a = .no → ¬ a = kr → H' a = some o) → Q (.bl true) H' := fun {H'} kn => k H' (scr.keep fun o e => kn _ _ (kn1 _ _ e).1 (kn1 _ _ e).2 (nk (G.same _ _ e)))
  have sne : ∀ x, (H3 x = none ∧ ∃ o, H4 x = some o) → ¬ x = kr := fun x q w => by
    rw [w, ekr] at q
    exact absurd q.1 (fun z => nomatch z)
  walk_at "rd"
  refine triedB_by h4 G.ok (by omega) ht4 df fun v H5 q => ?_
  rcases q with ⟨nm, rfl, dx, ne, so, s5, ref⟩ | ⟨r5, d, es, cs, L5, ls, rfl, dx, er5, st, g, no, bk5, m5, st5⟩
  · walk_at "rd"
    refine r_ixL (SqL.of (s5 _ _ er4)) (atI_get (j := 1) rfl rfl) ?_
    walk_at "rd"
    refine r_ixL (SqL.of (s5 _ _ er4)) (atI_get (j := 2) rfl rfl) ?_
    walk_at "rd"
    refine ⟨t, sl, su, xs, B.each, s0, s1, s2, m0, m1, rfl, s5 _ _ ht4, df, s5 _ _ esl4, s5 _ _ esu4, tw, fun H6 s6 => ?_⟩
    rw [dx]
    have s46 := s5.trans s6
    walk_at "rd"
    refine r_itz ne ?_
    walk_at "rd"
    refine r_neSS (.inr ⟨_, rfl, so⟩) (.inr ⟨_, rfl, so⟩) ?_
    walk_at "rd"
    refine r_itn (fun z => absurd rfl z) (fun _ => ?_)
    walk_at "rd"
    refine ⟨b, B, L, .ref t, rfl, h4.same s46, G.ok, by omega, ref.elim (fun ⟨d, e, hd, g, few, st, me⟩ => .inl ⟨d, e, hd _ _ (s46 _ _ ht4), g, few, st, me⟩) (fun z => .inr ⟨t, xs, rfl, s46 _ _ ht4, z⟩), fun H7 s7 => ?_⟩
    have s47 := s46.trans s7
    have h7 := h4.same s47
    obtain ⟨d7, hb7⟩ := h7.ob
    walk_at "rd"
    refine r_m hb7 (no_Book_orders _ _) ?_
    walk_at "rd"
    refine ⟨b, B, L, rfl, h7, ?_⟩
    rw [two_len tw]
    walk_at "rd"
    refine r_itn (fun z => absurd rfl z) (fun _ => ?_)
    walk_at "rd"
    refine ⟨b, B, L, kr, ps, rfl, h7, two_len tw, G.ok, G.inv, by omega, kq4.same s47, ap4, by omega, fun sb ps8 H8 sn8 kq8 lp8 but8 st8 gr8 => ?_⟩
    have sa8 := (sn.same s47).keep but8 sne
    walk_at "rd"
    refine r_neSeen G.inv sn8 sa8 ?_
    walk_at "rd"
    refine ⟨kr, ps8, rfl, kq8, ?_⟩
    walk_at "rd"
    have h8 := h7.keep but8 fun x z w => z (by rw [show x = kr from w]; exact okr)
    refine ⟨b, B, L, t, xs, s0, s1, s2, m0, m1, by rw [dx]; rfl, h8, G.ok, by omega, but8.tup _ _ (s47 _ _ ht4), df, tw, ⟨bd.1, bd.2.1, bd.2.2.1⟩, fun H9 kn9 => ?_⟩
    exact fin fun a o e n nr => kn9 _ _ (but8.keep _ _ (s47 _ _ e) nr) n
  · have ok5 := step_ok G.ok g st
    have inv5 := (step_chg g (fun ls z => absurd z (no ls)) st).inv G.inv
    obtain ⟨l5, j, oa, ob, ea, eb, mne⟩ := step_marks no st
    rw [two_len tw] at l5
    obtain ⟨er5', _⟩ := own_keep m5 er4 or_
    obtain ⟨esl5, _⟩ := own_keep m5 esl4 osl
    obtain ⟨esu5, _⟩ := own_keep m5 esu4 osu
    have ht5 := m5.but.tup _ _ ht4
    walk_at "rd"
    refine r_ixL (SqL.of er5') (atI_get (j := 1) rfl rfl) ?_
    walk_at "rd"
    refine r_ixL (SqL.of er5') (atI_get (j := 2) rfl rfl) ?_
    walk_at "rd"
    refine ⟨t, sl, su, xs, B.each, s0, s1, s2, m0, m1, rfl, ht5, df, esl5, esu5, tw, fun H6 s6 => ?_⟩
    rw [dx]
    walk_at "rd"
    refine r_ity rfl ?_
    walk_at "rd"
    refine r_is_lst_list (s6 _ _ er5) ?_
    walk_at "rd"
    have kq6 : Kq H6 kr ps := (kq4.keep m5.but fun x f z => ap4 x z f).same s6
    have ap6 : ∀ x, L5.own x ≠ .no → ¬ qfoot kr ps x := fun x z f => by
      rcases m5.grow x z with q | q
      · exact ap4 x q f
      · exact kq4.fresh q f
    have sa6 := (sn.keep m5.but fun x q z => by
      obtain ⟨o, e⟩ := h3.dom x z
      rw [q.1] at e
      cases e).same s6
    refine ⟨b, ⟨es, B.trail ++ [d]⟩, L5, kr, ps, rfl, bk5.same s6, l5, ok5, inv5, by show (B.trail ++ [d]).length ≤ 10000; simp; omega, kq6, ap6, by omega, fun sb ps8 H8 sn8 kq8 lp8 but8 st8 gr8 => ?_⟩
    have sa8 := sa6.keep but8 sne
    walk_at "rd"
    refine r_neSeen2 inv5 G.inv sn8 sa8 eb ea mne ?_
    walk_at "rd"
    refine ⟨kr, ps8, rfl, kq8, ?_⟩
    exact fin fun a o e n nr => but8.keep _ _ (s6 _ _ (m5.but.keep _ _ e fun z => z n)) nr
/-! ### the law -/
def spLaw (K : PySem.W.Frag) : Sp := fun vs H Q _ => ∃ a, vs = [.ref a] ∧ Script K H a ∧ ∀ H', Q (.bl true) H'
theorem len_Law {K : PySem.W.Frag} {vs : List V} {H : Hp} {Q : VK} {E : XK} (h : spLaw K vs H Q E) : vs.length = 1 := by
  obtain ⟨_, rfl, _⟩ := h; rfl
theorem ok_Law {P : Program} {w : World} {K : PySem.W.Frag} {mg : Str → Option Value} {base : Heap} (T : Tx w K mg) : FnOk P w K mg base CX0 12 (He.fAd K dLaw.at_) (fdO K dLaw.at_) P_Law (spLaw K) := by
  refine T.f_Law.ok sc_Law (fun vs H Q E h => len_Law h) (fun cdv A outer s H vs Q E hr h => ⟨_, PSs.nox ((pss_cons (ps_for PassesOwn.never rfl (pi_range1 (by rfl) T.b_range (pa_cons (pe_op op_add pe_int (pe_op op_fdiv (pe_callB call_len_seq (by rfl) T.b_len (by decide +kernel) (pa_cons (pv 0) pa_nil)) pe_int)) pa_nil)) (pg_name (i := 1) sc_Law.nd rfl (Or.inl rfl)) (pss_one (ps_if (pt_not (pt_val (pe_call (ok_LDeedAsked T) (hr.mono (by decide)) rfl T.g_LDeedAsked T.f_LDeedAsked.kp T.b_LDeedAsked .nil pass0 (pa_cons (pv 0) (pa_cons (pe_op op_mul pe_int (pv 1)) pa_nil))))) (pss_one (ps_ret pe_bl)) pss_nil)))
      (pss_one (ps_ret pe_bl)))), ?_⟩)
  obtain ⟨s, rfl, scr, k⟩ := h
  obtain ⟨ns, hs, l63⟩ := id scr
  walk_at "rd"
  refine ⟨s, _, rfl, .inl hs, ?_⟩
  rw [List.length_map]
  walk_at "rd"
  walk_at "md"
  walk_at "rd"
  refine ⟨_, rfl, by omega, by omega, for_range (lo := 0) (n := (1 + (ns.length : Int) / 6).toNat) (fun i σ H' => ∃ v, σ = [some (.ref s), v] ∧ Script K H' s) ⟨none, rfl, scr⟩ ?_ ?_⟩
  · rintro i σ H' hi ⟨v, rfl, sc⟩
    rw [Int.zero_add]
    walk_at "rd"
    refine r_I (.inr ⟨by omega, by omega⟩) ?_
    walk_at "rd"
    refine ⟨s, _, rfl, sc, by omega, fun H2 sc2 => ?_⟩
    walk_at "rd"
    exact ⟨_, rfl, sc2⟩
  · rintro σ H' ⟨v, rfl, _⟩
    walk_at "rd"
    exact k _

theorem Tx.b_Law_args {w : World} {K : PySem.W.Frag} {mg : Str → Option Value} (T : Tx w K mg) (s : Shared) (v : Value) : BindsTo s (fdO K dLaw.at_) ⟨[v], []⟩ [("_law_script", v)] := by
  have b := FunD.bindsA (ps := ["_law_script"]) T.f_Law fun _ _ _ _ _ _ us hl => match us, hl with | [_], _ => rfl
  exact b s [v] rfl
theorem law_start {K : PySem.W.Frag} {H : Hp} {a : Addr} {ns : List Int} (hs : SqL K H a (ns.map V.int)) (hl : ns.length ≤ 63) : spLaw K [.ref a] H (fun v _ => v = .bl true) fun _ _ _ => False := ⟨a, rfl, ⟨ns, hs, hl⟩, fun _ => rfl⟩
end Of
open PySem PySem.W PySem.Calls PyProof.Rows
set_option maxRecDepth 100000 in
set_option maxHeartbeats 0 in
theorem PySem.Challenge.cw_orderflow_k06_deeds_refused_holds : PySem.Challenge.rw_orderflow_k06_deeds_refused.Holds := by
  w_on; o_law
  refine HandSHeadRun.head_any (r := OpenLaw.row PySem.Challenge.rw_orderflow_k06_deeds_refused) (q := view (OpenLaw.row PySem.Challenge.rw_orderflow_k06_deeds_refused).prog [49]) (H := Of.hk) (ob := Of.ob) (M := 20000) (loose := Of.names) (d := HandSHeadRun.topDef (OpenLaw.row PySem.Challenge.rw_orderflow_k06_deeds_refused).prog 49) (kwd := []) Of.ob_eq
    (by kernel_rfl) (fun s => by kernel_rfl) Of.run (by kernel_rfl) (by kernel_rfl) (by kernel_rfl) (by rfl) (by first | assumption | decide +kernel) (by decide +kernel) ⟨rfl, rfl, rfl, rfl, rfl, by decide +kernel⟩ ?hw ?hc
  case hw => w_witness2
  case hc =>
    refine L2.walk_ofE (l := PySem.Challenge.rw_orderflow_k06_deeds_refused) (n := 63) (k := 12) (x := "_law_script") (CX := L2.CX0) rfl (by decide) (by kernel_rfl) ⟨rfl, by decide, by decide⟩ ?F (fun _ _ _ _ z => z)
    intro w mg fa h Y G hm0
    obtain ⟨K, KX, c⟩ := Y
    have T : Of.Tx w K mg := Of.tx_of KX G c
    have hm : mg ("law" : PySem.Str) = some (.ref fa) := by
      have e : (HandSHeadRun.topDef (OpenLaw.row PySem.Challenge.rw_orderflow_k06_deeds_refused).prog 49).name = ("law" : PySem.Str) := by kernel_rfl
      rw [← e]
      exact hm0
    have ef : fa = He.fAd K Of.dLaw.at_ := by
      have q := hm.symm.trans T.g_Law
      cases q
      rfl
    rw [ef]
    exact ⟨K, Of.fdO K Of.dLaw.at_, Of.spLaw K, KX, fun s v => T.b_Law_args s v, fun H a ns hl _ hS => Of.law_start hS hl, fun base _ _ => Of.ok_Law T⟩
#print axioms PySem.Challenge.cw_orderflow_k06_deeds_refused_holds
