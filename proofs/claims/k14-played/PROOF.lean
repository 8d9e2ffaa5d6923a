import PyProof.Rows.All
import Wide.All
import OpenK.AllK
import Wide.FinOn
import KE.KStateDown
import Lean
import HandS.ForMost
import HandS.ForExc
import HandS.More
import HandS.TryMany
import HandS.Walk
import HandS.IsInst
import HandS.ExcIs
import HandS.Defaults
import HandS.Head0
import HandS.Head1
import HandS.Head2
import HandS.HeadEnd
import HandS.HeadHook1
import HandS.HeadHook2
import HandS.HeadHook3
import HandS.HeadHook4
import KE.GoesRaise
import KE.IntTextText
import PySem.Challenge.RW_orderflow_k14_whole_texts_played
set_option Elab.async false
set_option linter.all false
set_option maxRecDepth 100000
set_option maxHeartbeats 0
namespace Of
open PySem PySem.Spec PyProof.Rows L2
/-! ### a written dict of text keys, whole -/
theorem kd_of {K : PySem.W.Frag} {w : World} {a : Addr} {ks : List Str} (h : He.dicW K a = some (He.keysIn w.params ks)) :
    ∃ es n, K.lookup a = some ⟨.type "dict", none, .dict es n, #[]⟩ ∧ PySem.W.KeysLit w.params es.toList ∧ es.toList.map He.keyOf = He.keysIn w.params ks ∧ (a == sysModules) = false := by
  obtain ⟨es, n, D⟩ := He.dicW_ok h
  refine ⟨es, n, D.at_, D.lit, ?_, D.low⟩
  unfold He.dicW at h
  rw [D.at_] at h
  have e2 : (match decide ((("dict" : String)) = "dict") && ((#[] : Array (Option Value)).isEmpty && !(a == sysModules)) with
    | true => some (es.toList.map He.keyOf)
    | false => none) = some (He.keysIn w.params ks) := h
  have e3 : (decide ((("dict" : String)) = "dict") && ((#[] : Array (Option Value)).isEmpty && !(a == sysModules))) = true := by
    rw [D.low]; rfl
  rw [e3] at e2
  exact Option.some.inj e2

/-! ### what an error's class says, for isinstance -/
def excB (K : PySem.W.Frag) (D : Addr) : Bool := decide (PySem.W.findIn K (.ref D) "__getattribute__" = some (some (.builtin "BaseException.__getattribute__"))) && (decide (PySem.W.findIn K (.ref D) "__getattr__" = some none) &&
  (decide (PySem.W.subIn K (.ref D) (.type "BaseException") = some true) && (PySem.W.hasDictIn K D && (decide (PySem.W.findIn K (.ref D) "__class__" = some (some (.builtin "object.__class__"))) &&
  (decide (PySem.W.specialIn K (.builtin "object.__class__") "__get__" = some (some (.builtin "getset_descriptor.__get__"))) && (decide (PySem.W.takesIn K (.builtin "object.__class__") = some true) && decide (PySem.W.mroIn K D (.type "object") = some true)))))))
theorem excB_ok {K : PySem.W.Frag} {D : Addr} (h : excB K D = true) : ExcC K D := by
  obtain ⟨h1, h⟩ := He.ba h
  obtain ⟨h2, h⟩ := He.ba h
  obtain ⟨h3, h⟩ := He.ba h
  obtain ⟨h4, h⟩ := He.ba h
  obtain ⟨h5, h⟩ := He.ba h
  obtain ⟨h6, h⟩ := He.ba h
  obtain ⟨h7, h8⟩ := He.ba h
  exact ⟨of_decide_eq_true h1, of_decide_eq_true h2, of_decide_eq_true h3, h4, of_decide_eq_true h5, of_decide_eq_true h6, of_decide_eq_true h7, of_decide_eq_true h8⟩
def excAll (K : PySem.W.Frag) (xs : List Str) : Bool := xs.all fun x => excB K (He.ga K x) && (decide (PySem.W.kitOne K (.ref (He.ga K x)) (.type "ValueError") = some true) && xs.all fun y => decide (PySem.W.kitOne K (.ref (He.ga K x)) (.ref (He.ga K y)) = some (decide (x = y))))
theorem excAll_ok {K : PySem.W.Frag} {xs : List Str} (h : excAll K xs = true) {x : Str} (hx : x ∈ xs) : ExcC K (He.ga K x) ∧ PySem.W.kitOne K (.ref (He.ga K x)) (.type "ValueError") = some true ∧
    ∀ y, y ∈ xs → PySem.W.kitOne K (.ref (He.ga K x)) (.ref (He.ga K y)) = some (decide (x = y)) := by
  obtain ⟨h1, h⟩ := He.ba (List.all_eq_true.mp h x hx)
  obtain ⟨h2, h3⟩ := He.ba h
  exact ⟨excB_ok h1, of_decide_eq_true h2, fun y hy => of_decide_eq_true (List.all_eq_true.mp h3 y hy)⟩
/-- isinstance(e, C) in a handler -/
def rIsX (K : PySem.W.Frag) (cls : Value) (d : Option Addr) (a : Addr) : List V → Hp → VK → Prop := fun xs H Q => ∃ (D : Addr) (c : V) (cv : Value) (b : Bool), cls = .ref D ∧ d = none ∧ ExcC K D ∧ xs = [.ref a, c] ∧ ClsV c cv ∧ PySem.W.kitOne K (.ref D) cv = some b ∧ Q (.bl b) H
theorem call_isX {X : Cx} {K : PySem.W.Frag} {a : Addr} {cls : Value} {d : Option Addr} {oe : Obj} {pn : List (Addr × Obj)} (eK : X.K = K) (hz : Zc cls d oe) (hf : ∃ vs, oe.data = .fields vs) : CallR (X.suite a ((a, oe) :: pn)) (.builtin "isinstance") (rIsX K cls d a) := by
  subst eK
  intro pins s σ H xs us Q I r h
  obtain ⟨D, c, cv, b, rfl, rfl, C, rfl, hc, e, q⟩ := h
  exact call_isE C hz hf pins s σ H _ us Q I r ⟨c, cv, b, rfl, fun u ru => hc.eq ru, e, q⟩
/-! ### the text by places -/
def top (i : Nat) : Stmt := PySem.Challenge.pw_orderflow_k14_whole_texts_played.main.body.getD i (.Pass ⟨0, 0, 0, 0⟩)
abbrev sWorth : Stmt := top 18
abbrev sIsItem : Stmt := top 19
abbrev sCheckLine : Stmt := top 20
abbrev sLineInit : Stmt := inClass (top 21) 0
abbrev sLineKept : Stmt := inClass (top 21) 1
abbrev sLineToCome : Stmt := inClass (top 21) 2
abbrev sLineKeptWorth : Stmt := inClass (top 21) 3
abbrev sLineCharge : Stmt := inClass (top 21) 4
abbrev sLineDeliver : Stmt := inClass (top 21) 5
abbrev sLineBring : Stmt := inClass (top 21) 6
abbrev sLineReduce : Stmt := inClass (top 21) 7
abbrev sLineNumbers : Stmt := inClass (top 21) 8
abbrev sOrderInit : Stmt := inClass (top 23) 0
abbrev sOrderOwing : Stmt := inClass (top 23) 1
abbrev sOrderLineOf : Stmt := inClass (top 23) 2
abbrev sOrderNeedOver : Stmt := inClass (top 23) 3
abbrev sOrderTurnLine : Stmt := inClass (top 23) 4
abbrev sOrderTake : Stmt := inClass (top 23) 5
abbrev sOrderMark : Stmt := inClass (top 23) 6
abbrev sOwn : Stmt := top 28
abbrev sBookInit : Stmt := inClass (top 29) 0
abbrev sBookOrderOf : Stmt := inClass (top 29) 1
abbrev sBookDo : Stmt := inClass (top 29) 2
abbrev sBookBegin : Stmt := inClass (top 29) 3
abbrev sBookShift : Stmt := inClass (top 29) 4
abbrev sBookOne : Stmt := inClass (top 29) 5
abbrev sBookNeedNumber : Stmt := inClass (top 29) 6
abbrev sBookOrders : Stmt := inClass (top 29) 8
abbrev sBookTold : Stmt := inClass (top 29) 9
abbrev sBookPaid : Stmt := inClass (top 29) 10
abbrev sBookOwed : Stmt := inClass (top 29) 11
abbrev sNumberIn : Stmt := top 33
abbrev sLineIn : Stmt := top 34
abbrev sRead : Stmt := top 35
abbrev sPlayed : Stmt := top 36
abbrev sChangesOf : Stmt := top 37
abbrev sLCellAt : Stmt := top 39
abbrev sLWhole : Stmt := top 40
abbrev sLLineWorth : Stmt := top 41
abbrev sLOwedBy : Stmt := top 42
abbrev sLMost : Stmt := top 43
abbrev sLPlaceBy : Stmt := top 44
abbrev sLNumberBy : Stmt := top 45
abbrev sLItemBy : Stmt := top 46
abbrev sLLinesBy : Stmt := top 47
abbrev sLDeedBy : Stmt := top 48
abbrev sLRefusal : Stmt := top 49
abbrev sLTurned : Stmt := top 50
abbrev sLStep : Stmt := top 51
abbrev sLPairsAlike : Stmt := top 52
abbrev sLTextOf : Stmt := top 53
abbrev sLNumberIn : Stmt := top 54
abbrev sLLineIn : Stmt := top 55
abbrev sLDeedIn : Stmt := top 56
abbrev sLChangedBy : Stmt := top 57
abbrev sLRefused : Stmt := top 58
abbrev sLaw : Stmt := top 59
def dWorth : He.DefD := ⟨("worth", none), "worth", "worth", defArgs sWorth, defBody sWorth, defScope sWorth, [], []⟩
def dIsItem : He.DefD := ⟨("is_item", none), "is_item", "is_item", defArgs sIsItem, defBody sIsItem, defScope sIsItem, [], []⟩
def dCheckLine : He.DefD := ⟨("check_line", none), "check_line", "check_line", defArgs sCheckLine, defBody sCheckLine, defScope sCheckLine, [], []⟩
def dLineInit : He.DefD := ⟨("Line", some "__init__"), "__init__", "Line.__init__", defArgs sLineInit, defBody sLineInit, defScope sLineInit, [], []⟩
def dLineKept : He.DefD := ⟨("Line", some "kept"), "kept", "Line.kept", defArgs sLineKept, defBody sLineKept, defScope sLineKept, [], []⟩
def dLineToCome : He.DefD := ⟨("Line", some "to_come"), "to_come", "Line.to_come", defArgs sLineToCome, defBody sLineToCome, defScope sLineToCome, [], []⟩
def dLineKeptWorth : He.DefD := ⟨("Line", some "kept_worth"), "kept_worth", "Line.kept_worth", defArgs sLineKeptWorth, defBody sLineKeptWorth, defScope sLineKeptWorth, [], []⟩
def dLineCharge : He.DefD := ⟨("Line", some "charge"), "charge", "Line.charge", defArgs sLineCharge, defBody sLineCharge, defScope sLineCharge, [], []⟩
def dLineDeliver : He.DefD := ⟨("Line", some "deliver"), "deliver", "Line.deliver", defArgs sLineDeliver, defBody sLineDeliver, defScope sLineDeliver, [], []⟩
def dLineBring : He.DefD := ⟨("Line", some "bring"), "bring", "Line.bring", defArgs sLineBring, defBody sLineBring, defScope sLineBring, [], []⟩
def dLineReduce : He.DefD := ⟨("Line", some "reduce"), "reduce", "Line.reduce", defArgs sLineReduce, defBody sLineReduce, defScope sLineReduce, [], []⟩
def dLineNumbers : He.DefD := ⟨("Line", some "numbers"), "numbers", "Line.numbers", defArgs sLineNumbers, defBody sLineNumbers, defScope sLineNumbers, [], []⟩
def dOrderInit : He.DefD := ⟨("Order", some "__init__"), "__init__", "Order.__init__", defArgs sOrderInit, defBody sOrderInit, defScope sOrderInit, [], []⟩
def dOrderOwing : He.DefD := ⟨("Order", some "owing"), "owing", "Order.owing", defArgs sOrderOwing, defBody sOrderOwing, defScope sOrderOwing, [], []⟩
def dOrderLineOf : He.DefD := ⟨("Order", some "line_of"), "line_of", "Order.line_of", defArgs sOrderLineOf, defBody sOrderLineOf, defScope sOrderLineOf, [], []⟩
def dOrderNeedOver : He.DefD := ⟨("Order", some "need_over"), "need_over", "Order.need_over", defArgs sOrderNeedOver, defBody sOrderNeedOver, defScope sOrderNeedOver, [], []⟩
def dOrderTurnLine : He.DefD := ⟨("Order", some "turn_line"), "turn_line", "Order.turn_line", defArgs sOrderTurnLine, defBody sOrderTurnLine, defScope sOrderTurnLine, [], []⟩
def dOrderTake : He.DefD := ⟨("Order", some "take"), "take", "Order.take", defArgs sOrderTake, defBody sOrderTake, defScope sOrderTake, [], []⟩
def dOrderMark : He.DefD := ⟨("Order", some "mark"), "mark", "Order.mark", defArgs sOrderMark, defBody sOrderMark, defScope sOrderMark, [], []⟩
def dOwn : He.DefD := ⟨("own", none), "own", "own", defArgs sOwn, defBody sOwn, defScope sOwn, [], []⟩
def dBookInit : He.DefD := ⟨("Book", some "__init__"), "__init__", "Book.__init__", defArgs sBookInit, defBody sBookInit, defScope sBookInit, [], []⟩
def dBookOrderOf : He.DefD := ⟨("Book", some "order_of"), "order_of", "Book.order_of", defArgs sBookOrderOf, defBody sBookOrderOf, defScope sBookOrderOf, [], []⟩
def dBookDo : He.DefD := ⟨("Book", some "do"), "do", "Book.do", defArgs sBookDo, defBody sBookDo, defScope sBookDo, [], []⟩
def dBookBegin : He.DefD := ⟨("Book", some "begin"), "begin", "Book.begin", defArgs sBookBegin, defBody sBookBegin, defScope sBookBegin, [], []⟩
def dBookShift : He.DefD := ⟨("Book", some "shift"), "shift", "Book.shift", defArgs sBookShift, defBody sBookShift, defScope sBookShift, [], []⟩
def dBookOne : He.DefD := ⟨("Book", some "one"), "one", "Book.one", defArgs sBookOne, defBody sBookOne, defScope sBookOne, [], []⟩
def dBookNeedNumber : He.DefD := ⟨("Book", some "need_number"), "need_number", "Book.need_number", defArgs sBookNeedNumber, defBody sBookNeedNumber, defScope sBookNeedNumber, [], []⟩
def dBookOrders : He.DefD := ⟨("Book", some "orders"), "orders", "Book.orders", defArgs sBookOrders, defBody sBookOrders, defScope sBookOrders, [], []⟩
def dBookTold : He.DefD := ⟨("Book", some "told"), "told", "Book.told", defArgs sBookTold, defBody sBookTold, defScope sBookTold, [], []⟩
def dBookPaid : He.DefD := ⟨("Book", some "paid"), "paid", "Book.paid", defArgs sBookPaid, defBody sBookPaid, defScope sBookPaid, [], []⟩
def dBookOwed : He.DefD := ⟨("Book", some "owed"), "owed", "Book.owed", defArgs sBookOwed, defBody sBookOwed, defScope sBookOwed, [], []⟩
def dNumberIn : He.DefD := ⟨("number_in", none), "number_in", "number_in", defArgs sNumberIn, defBody sNumberIn, defScope sNumberIn, [], []⟩
def dLineIn : He.DefD := ⟨("line_in", none), "line_in", "line_in", defArgs sLineIn, defBody sLineIn, defScope sLineIn, [], []⟩
def dRead : He.DefD := ⟨("read", none), "read", "read", defArgs sRead, defBody sRead, defScope sRead, [], []⟩
def dPlayed : He.DefD := ⟨("played", none), "played", "played", defArgs sPlayed, defBody sPlayed, defScope sPlayed, [], []⟩
def dChangesOf : He.DefD := ⟨("changes_of", none), "changes_of", "changes_of", defArgs sChangesOf, defBody sChangesOf, defScope sChangesOf, [], []⟩
def dLCellAt : He.DefD := ⟨("_law_cell_at", none), "_law_cell_at", "_law_cell_at", defArgs sLCellAt, defBody sLCellAt, defScope sLCellAt, [], []⟩
def dLWhole : He.DefD := ⟨("_law_whole", none), "_law_whole", "_law_whole", defArgs sLWhole, defBody sLWhole, defScope sLWhole, [], []⟩
def dLLineWorth : He.DefD := ⟨("_law_line_worth", none), "_law_line_worth", "_law_line_worth", defArgs sLLineWorth, defBody sLLineWorth, defScope sLLineWorth, [], []⟩
def dLOwedBy : He.DefD := ⟨("_law_owed_by", none), "_law_owed_by", "_law_owed_by", defArgs sLOwedBy, defBody sLOwedBy, defScope sLOwedBy, [], []⟩
def dLMost : He.DefD := ⟨("_law_most", none), "_law_most", "_law_most", defArgs sLMost, defBody sLMost, defScope sLMost, [], []⟩
def dLPlaceBy : He.DefD := ⟨("_law_place_by", none), "_law_place_by", "_law_place_by", defArgs sLPlaceBy, defBody sLPlaceBy, defScope sLPlaceBy, [], []⟩
def dLNumberBy : He.DefD := ⟨("_law_number_by", none), "_law_number_by", "_law_number_by", defArgs sLNumberBy, defBody sLNumberBy, defScope sLNumberBy, [], []⟩
def dLItemBy : He.DefD := ⟨("_law_item_by", none), "_law_item_by", "_law_item_by", defArgs sLItemBy, defBody sLItemBy, defScope sLItemBy, [], []⟩
def dLLinesBy : He.DefD := ⟨("_law_lines_by", none), "_law_lines_by", "_law_lines_by", defArgs sLLinesBy, defBody sLLinesBy, defScope sLLinesBy, [], []⟩
def dLDeedBy : He.DefD := ⟨("_law_deed_by", none), "_law_deed_by", "_law_deed_by", defArgs sLDeedBy, defBody sLDeedBy, defScope sLDeedBy, [], []⟩
def dLRefusal : He.DefD := ⟨("_law_refusal", none), "_law_refusal", "_law_refusal", defArgs sLRefusal, defBody sLRefusal, defScope sLRefusal, [], []⟩
def dLTurned : He.DefD := ⟨("_law_turned", none), "_law_turned", "_law_turned", defArgs sLTurned, defBody sLTurned, defScope sLTurned, [], []⟩
def dLStep : He.DefD := ⟨("_law_step", none), "_law_step", "_law_step", defArgs sLStep, defBody sLStep, defScope sLStep, [], []⟩
def dLPairsAlike : He.DefD := ⟨("_law_pairs_alike", none), "_law_pairs_alike", "_law_pairs_alike", defArgs sLPairsAlike, defBody sLPairsAlike, defScope sLPairsAlike, [], []⟩
def dLTextOf : He.DefD := ⟨("_law_text_of", none), "_law_text_of", "_law_text_of", defArgs sLTextOf, defBody sLTextOf, defScope sLTextOf, [], []⟩
def dLNumberIn : He.DefD := ⟨("_law_number_in", none), "_law_number_in", "_law_number_in", defArgs sLNumberIn, defBody sLNumberIn, defScope sLNumberIn, [], []⟩
def dLLineIn : He.DefD := ⟨("_law_line_in", none), "_law_line_in", "_law_line_in", defArgs sLLineIn, defBody sLLineIn, defScope sLLineIn, [], []⟩
def dLDeedIn : He.DefD := ⟨("_law_deed_in", none), "_law_deed_in", "_law_deed_in", defArgs sLDeedIn, defBody sLDeedIn, defScope sLDeedIn, [], []⟩
def dLChangedBy : He.DefD := ⟨("_law_changed_by", none), "_law_changed_by", "_law_changed_by", defArgs sLChangedBy, defBody sLChangedBy, defScope sLChangedBy, [], []⟩
def dLRefused : He.DefD := ⟨("_law_refused", none), "_law_refused", "_law_refused", defArgs sLRefused, defBody sLRefused, defScope sLRefused, [], []⟩
def dLaw : He.DefD := ⟨("law", none), "law", "law", defArgs sLaw, defBody sLaw, defScope sLaw, [], []⟩
def fn : List He.DefD := ([dWorth, dIsItem, dCheckLine, dLineInit, dLineKept, dLineToCome, dLineKeptWorth, dLineCharge, dLineDeliver, dLineBring, dLineReduce, dLineNumbers] : List He.DefD) ++ ([dOrderInit, dOrderOwing, dOrderLineOf, dOrderNeedOver, dOrderTurnLine, dOrderTake, dOrderMark, dOwn, dBookInit, dBookOrderOf, dBookDo, dBookBegin] : List He.DefD) ++ ([dBookShift, dBookOne, dBookNeedNumber, dBookOrders, dBookTold, dBookPaid, dBookOwed, dNumberIn, dLineIn, dRead, dPlayed, dChangesOf] : List He.DefD) ++ ([dLCellAt, dLWhole, dLLineWorth, dLOwedBy, dLMost, dLPlaceBy, dLNumberBy, dLItemBy, dLLinesBy, dLDeedBy, dLRefusal, dLTurned] : List He.DefD) ++ ([dLStep, dLPairsAlike, dLTextOf, dLNumberIn, dLLineIn, dLDeedIn, dLChangedBy, dLRefused, dLaw] : List He.DefD)
def fa : List He.Fa := ([.glo "worth", .glo "is_item", .glo "check_line", .glo "own", .glo "number_in", .glo "line_in", .glo "read", .glo "played", .glo "changes_of", .glo "_law_cell_at", .glo "_law_whole", .glo "_law_line_worth"] : List He.Fa) ++ ([.glo "_law_owed_by", .glo "_law_most", .glo "_law_place_by", .glo "_law_number_by", .glo "_law_item_by", .glo "_law_lines_by", .glo "_law_deed_by", .glo "_law_refusal", .glo "_law_turned", .glo "_law_step", .glo "_law_pairs_alike", .glo "_law_text_of"] : List He.Fa) ++ ([.glo "_law_number_in", .glo "_law_line_in", .glo "_law_deed_in", .glo "_law_changed_by", .glo "_law_refused", .glo "law", .free "bool", .free "int", .free "isinstance", .free "len", .free "list", .free "max"] : List He.Fa) ++ ([.free "min", .free "range", .free "str", .free "sum", .free "tuple", .str "LETTERS" "abcdefghijklmnopqrstuvwxyz", .int "MOST_LETTERS" 12, .int "MOST_PIECES" 1000000, .int "MOST_CENTS" 1000000000, .int "MOST_PACK" 1000, .glo "PARTS", .int "MOST_LINES" 20] : List He.Fa) ++ ([.int "MOST_ORDERS" 40, .str "FIGURES" "0123456789", .int "MOST_FIGURES" 30, .glo "FlowError", .exc "FlowError", .glo "NoDeed", .exc "NoDeed", .glo "NoLines", .exc "NoLines", .glo "NoItem", .exc "NoItem", .glo "NoNumber"] : List He.Fa) ++ ([.exc "NoNumber", .glo "FullBook", .exc "FullBook", .glo "NoOrder", .exc "NoOrder", .glo "SameOrder", .exc "SameOrder", .glo "NoLine", .exc "NoLine", .glo "TooMuch", .exc "TooMuch", .glo "Line"] : List He.Fa) ++ ([.cls "Line", .noat "Line" "item", .noat "Line" "ordered", .noat "Line" "cents", .noat "Line" "pack", .noat "Line" "sent", .noat "Line" "home", .noat "Line" "again", .noat "Line" "credited", .mkr "Line", .meth "Line" "kept", .meth "Line" "to_come"] : List He.Fa) ++ ([.meth "Line" "kept_worth", .meth "Line" "charge", .meth "Line" "deliver", .meth "Line" "bring", .meth "Line" "reduce", .meth "Line" "numbers", .glo "Order", .cls "Order", .noat "Order" "lines", .noat "Order" "money", .noat "Order" "marks", .mkr "Order"] : List He.Fa) ++ ([.meth "Order" "owing", .meth "Order" "line_of", .meth "Order" "need_over", .meth "Order" "turn_line", .meth "Order" "take", .meth "Order" "mark", .glo "Book", .cls "Book", .noat "Book" "each", .noat "Book" "trail", .mkr "Book", .meth "Book" "order_of"] : List He.Fa) ++ ([.meth "Book" "do", .meth "Book" "begin", .meth "Book" "shift", .meth "Book" "one", .meth "Book" "need_number", .meth "Book" "orders", .meth "Book" "told", .meth "Book" "paid", .meth "Book" "owed", .exm "NoDeed" "FlowError" true, .exm "NoLines" "FlowError" true, .exm "NoItem" "FlowError" true] : List He.Fa) ++ ([.exm "NoNumber" "FlowError" true, .exm "FullBook" "FlowError" true, .exm "NoOrder" "FlowError" true, .exm "SameOrder" "FlowError" true, .exm "NoLine" "FlowError" true, .exm "TooMuch" "FlowError" true] : List He.Fa)
def ts : List He.Tab := [(fun K => He.ga K "PARTS", ["order", "deliver", "back", "swap", "credit", "pay", "refund", "move"])]
def parts : List (Str × Int) := [("order", 2), ("deliver", 4), ("back", 4), ("swap", 4), ("credit", 4), ("pay", 3), ("refund", 3), ("move", 4)]
def ex (K : PySem.W.Frag) : Bool := He.valsB K (He.ga K "PARTS") (parts.map fun p => (p.1, He.Dv.int p.2))
abbrev R : PySem.W.OpenRow := PySem.W.OpenLaw.row PySem.Challenge.rw_orderflow_k14_whole_texts_played
abbrev qv : Program := PySem.W.view R.prog [59]
abbrev hk : PySem.W.Hook := He.hookX 5 fa fn ts [] ex
def ob (s : PySem.W.SharedT) : He.AlX := He.obsX 5 fa fn ts [] ex (HandSHeadRun.getT s)
theorem ob_eq (s : PySem.W.SharedT) : ob s = hk.obs s.abs := He.obsX_eq (HandSHeadRun.getT_eq s)
def names : List PySem.Str := (["_wall", "FlowError", "NoDeed", "NoLines", "NoItem", "NoNumber", "FullBook", "NoOrder", "SameOrder", "NoLine", "TooMuch", "LETTERS"] : List PySem.Str) ++ (["MOST_LETTERS", "MOST_PIECES", "MOST_CENTS", "MOST_PACK", "worth", "is_item", "check_line", "Line", "Order", "PARTS", "MOST_LINES", "MOST_ORDERS"] : List PySem.Str) ++ (["own", "Book", "FIGURES", "MOST_FIGURES", "number_in", "line_in", "read", "played", "changes_of", "_law_cell_at", "_law_whole", "_law_line_worth"] : List PySem.Str) ++ (["_law_owed_by", "_law_most", "_law_place_by", "_law_number_by", "_law_item_by", "_law_lines_by", "_law_deed_by", "_law_refusal", "_law_turned", "_law_step", "_law_pairs_alike", "_law_text_of"] : List PySem.Str) ++ (["_law_number_in", "_law_line_in", "_law_deed_in", "_law_changed_by", "_law_refused"] : List PySem.Str)
/-! ### what the walk asks of the text -/
def fdO (K : PySem.W.Frag) (p : Str × Option Str) : FuncData := match K.lookup (He.fAd K p) with
  | some ⟨_, _, .func fd, _⟩ => fd
  | _ => PySem.W.fnOf "" "" ⟨[], [], none, [], [], none, []⟩ [] default .none .none .none .none none .none .none
theorem fdO_of {K : PySem.W.Frag} {p : Str × Option Str} {x qual : Str} {params : Arguments} {body : List Stmt} {scope : Scope} {dvs : List V} {kws : List (Str × V)} {fd : FuncData} (F : FunD K x qual params body scope dvs kws (He.fAd K p) fd) :
    FunD K x qual params body scope dvs kws (He.fAd K p) (fdO K p) := by
  obtain ⟨oc, od, dV, kV, doc, pm, an, cdv, ct, osl, e, lk, _⟩ := F.ex
  have q : fdO K p = fd := by
    unfold fdO
    rw [lk]
  rw [q]
  exact F
theorem gi_ok {K : PySem.W.Frag} {h : Heap} {mg : Str → Option Value} (X : K.In h) (G : h.Ns mainGlobals mg) {x : Str} {i : Int} (c : (He.Fa.int x i).ok K = true) : ∃ u, mg x = some u ∧ RelV (.int i) u := by
  obtain ⟨t, h⟩ := He.int_ok X G c
  exact ⟨_, h, t, rfl⟩
theorem gs_ok {K : PySem.W.Frag} {h : Heap} {mg : Str → Option Value} (X : K.In h) (G : h.Ns mainGlobals mg) {x z : Str} (c : (He.Fa.str x z).ok K = true) : ∃ u, mg x = some u ∧ RelV (.str z) u := by
  obtain ⟨t, h⟩ := He.str_ok X G c
  exact ⟨_, h, t, rfl⟩
structure Tx (w : World) (K : PySem.W.Frag) (mg : Str → Option Value) : Prop where
  g_Worth : mg "worth" = some (.ref (He.ga K "worth"))
  g_IsItem : mg "is_item" = some (.ref (He.ga K "is_item"))
  g_CheckLine : mg "check_line" = some (.ref (He.ga K "check_line"))
  g_Own : mg "own" = some (.ref (He.ga K "own"))
  g_NumberIn : mg "number_in" = some (.ref (He.ga K "number_in"))
  g_LineIn : mg "line_in" = some (.ref (He.ga K "line_in"))
  g_Read : mg "read" = some (.ref (He.ga K "read"))
  g_Played : mg "played" = some (.ref (He.ga K "played"))
  g_ChangesOf : mg "changes_of" = some (.ref (He.ga K "changes_of"))
  g_LCellAt : mg "_law_cell_at" = some (.ref (He.ga K "_law_cell_at"))
  g_LWhole : mg "_law_whole" = some (.ref (He.ga K "_law_whole"))
  g_LLineWorth : mg "_law_line_worth" = some (.ref (He.ga K "_law_line_worth"))
  g_LOwedBy : mg "_law_owed_by" = some (.ref (He.ga K "_law_owed_by"))
  g_LMost : mg "_law_most" = some (.ref (He.ga K "_law_most"))
  g_LPlaceBy : mg "_law_place_by" = some (.ref (He.ga K "_law_place_by"))
  g_LNumberBy : mg "_law_number_by" = some (.ref (He.ga K "_law_number_by"))
  g_LItemBy : mg "_law_item_by" = some (.ref (He.ga K "_law_item_by"))
  g_LLinesBy : mg "_law_lines_by" = some (.ref (He.ga K "_law_lines_by"))
  g_LDeedBy : mg "_law_deed_by" = some (.ref (He.ga K "_law_deed_by"))
  g_LRefusal : mg "_law_refusal" = some (.ref (He.ga K "_law_refusal"))
  g_LTurned : mg "_law_turned" = some (.ref (He.ga K "_law_turned"))
  g_LStep : mg "_law_step" = some (.ref (He.ga K "_law_step"))
  g_LPairsAlike : mg "_law_pairs_alike" = some (.ref (He.ga K "_law_pairs_alike"))
  g_LTextOf : mg "_law_text_of" = some (.ref (He.ga K "_law_text_of"))
  g_LNumberIn : mg "_law_number_in" = some (.ref (He.ga K "_law_number_in"))
  g_LLineIn : mg "_law_line_in" = some (.ref (He.ga K "_law_line_in"))
  g_LDeedIn : mg "_law_deed_in" = some (.ref (He.ga K "_law_deed_in"))
  g_LChangedBy : mg "_law_changed_by" = some (.ref (He.ga K "_law_changed_by"))
  g_LRefused : mg "_law_refused" = some (.ref (He.ga K "_law_refused"))
  g_Law : mg "law" = some (.ref (He.ga K "law"))
  b_bool : mg "bool" = none
  b_int : mg "int" = none
  b_isinstance : mg "isinstance" = none
  b_len : mg "len" = none
  b_list : mg "list" = none
  b_max : mg "max" = none
  b_min : mg "min" = none
  b_range : mg "range" = none
  b_str : mg "str" = none
  b_sum : mg "sum" = none
  b_tuple : mg "tuple" = none
  c_LETTERS : ∃ u, mg "LETTERS" = some u ∧ RelV (.str "abcdefghijklmnopqrstuvwxyz") u
  c_MOST_LETTERS : ∃ u, mg "MOST_LETTERS" = some u ∧ RelV (.int 12) u
  c_MOST_PIECES : ∃ u, mg "MOST_PIECES" = some u ∧ RelV (.int 1000000) u
  c_MOST_CENTS : ∃ u, mg "MOST_CENTS" = some u ∧ RelV (.int 1000000000) u
  c_MOST_PACK : ∃ u, mg "MOST_PACK" = some u ∧ RelV (.int 1000) u
  c_PARTS : mg "PARTS" = some (.ref (He.ga K "PARTS"))
  c_MOST_LINES : ∃ u, mg "MOST_LINES" = some u ∧ RelV (.int 20) u
  c_MOST_ORDERS : ∃ u, mg "MOST_ORDERS" = some u ∧ RelV (.int 40) u
  c_FIGURES : ∃ u, mg "FIGURES" = some u ∧ RelV (.str "0123456789") u
  c_MOST_FIGURES : ∃ u, mg "MOST_FIGURES" = some u ∧ RelV (.int 30) u
  g_FlowError : mg "FlowError" = some (.ref (He.ga K "FlowError"))
  x_FlowError : PySem.W.excIn K (He.ga K "FlowError") He.veBase "ValueError.__new__" = true ∧ PySem.W.keepIn K (.ref (He.ga K "FlowError")) = true ∧ PySem.W.subIn K (.ref (He.ga K "FlowError")) (.type "BaseException") = some true ∧ PySem.W.typeIn K (.ref (He.ga K "FlowError")) = some (.type "type")
  g_NoDeed : mg "NoDeed" = some (.ref (He.ga K "NoDeed"))
  x_NoDeed : PySem.W.excIn K (He.ga K "NoDeed") He.veBase "ValueError.__new__" = true ∧ PySem.W.keepIn K (.ref (He.ga K "NoDeed")) = true ∧ PySem.W.subIn K (.ref (He.ga K "NoDeed")) (.type "BaseException") = some true ∧ PySem.W.typeIn K (.ref (He.ga K "NoDeed")) = some (.type "type")
  g_NoLines : mg "NoLines" = some (.ref (He.ga K "NoLines"))
  x_NoLines : PySem.W.excIn K (He.ga K "NoLines") He.veBase "ValueError.__new__" = true ∧ PySem.W.keepIn K (.ref (He.ga K "NoLines")) = true ∧ PySem.W.subIn K (.ref (He.ga K "NoLines")) (.type "BaseException") = some true ∧ PySem.W.typeIn K (.ref (He.ga K "NoLines")) = some (.type "type")
  g_NoItem : mg "NoItem" = some (.ref (He.ga K "NoItem"))
  x_NoItem : PySem.W.excIn K (He.ga K "NoItem") He.veBase "ValueError.__new__" = true ∧ PySem.W.keepIn K (.ref (He.ga K "NoItem")) = true ∧ PySem.W.subIn K (.ref (He.ga K "NoItem")) (.type "BaseException") = some true ∧ PySem.W.typeIn K (.ref (He.ga K "NoItem")) = some (.type "type")
  g_NoNumber : mg "NoNumber" = some (.ref (He.ga K "NoNumber"))
  x_NoNumber : PySem.W.excIn K (He.ga K "NoNumber") He.veBase "ValueError.__new__" = true ∧ PySem.W.keepIn K (.ref (He.ga K "NoNumber")) = true ∧ PySem.W.subIn K (.ref (He.ga K "NoNumber")) (.type "BaseException") = some true ∧ PySem.W.typeIn K (.ref (He.ga K "NoNumber")) = some (.type "type")
  g_FullBook : mg "FullBook" = some (.ref (He.ga K "FullBook"))
  x_FullBook : PySem.W.excIn K (He.ga K "FullBook") He.veBase "ValueError.__new__" = true ∧ PySem.W.keepIn K (.ref (He.ga K "FullBook")) = true ∧ PySem.W.subIn K (.ref (He.ga K "FullBook")) (.type "BaseException") = some true ∧ PySem.W.typeIn K (.ref (He.ga K "FullBook")) = some (.type "type")
  g_NoOrder : mg "NoOrder" = some (.ref (He.ga K "NoOrder"))
  x_NoOrder : PySem.W.excIn K (He.ga K "NoOrder") He.veBase "ValueError.__new__" = true ∧ PySem.W.keepIn K (.ref (He.ga K "NoOrder")) = true ∧ PySem.W.subIn K (.ref (He.ga K "NoOrder")) (.type "BaseException") = some true ∧ PySem.W.typeIn K (.ref (He.ga K "NoOrder")) = some (.type "type")
  g_SameOrder : mg "SameOrder" = some (.ref (He.ga K "SameOrder"))
  x_SameOrder : PySem.W.excIn K (He.ga K "SameOrder") He.veBase "ValueError.__new__" = true ∧ PySem.W.keepIn K (.ref (He.ga K "SameOrder")) = true ∧ PySem.W.subIn K (.ref (He.ga K "SameOrder")) (.type "BaseException") = some true ∧ PySem.W.typeIn K (.ref (He.ga K "SameOrder")) = some (.type "type")
  g_NoLine : mg "NoLine" = some (.ref (He.ga K "NoLine"))
  x_NoLine : PySem.W.excIn K (He.ga K "NoLine") He.veBase "ValueError.__new__" = true ∧ PySem.W.keepIn K (.ref (He.ga K "NoLine")) = true ∧ PySem.W.subIn K (.ref (He.ga K "NoLine")) (.type "BaseException") = some true ∧ PySem.W.typeIn K (.ref (He.ga K "NoLine")) = some (.type "type")
  g_TooMuch : mg "TooMuch" = some (.ref (He.ga K "TooMuch"))
  x_TooMuch : PySem.W.excIn K (He.ga K "TooMuch") He.veBase "ValueError.__new__" = true ∧ PySem.W.keepIn K (.ref (He.ga K "TooMuch")) = true ∧ PySem.W.subIn K (.ref (He.ga K "TooMuch")) (.type "BaseException") = some true ∧ PySem.W.typeIn K (.ref (He.ga K "TooMuch")) = some (.type "type")
  g_Line : mg "Line" = some (.ref (He.ga K "Line"))
  cl_Line : Cls K (He.ga K "Line")
  n_Line_item : NoAttr K (He.ga K "Line") "item"
  n_Line_ordered : NoAttr K (He.ga K "Line") "ordered"
  n_Line_cents : NoAttr K (He.ga K "Line") "cents"
  n_Line_pack : NoAttr K (He.ga K "Line") "pack"
  n_Line_sent : NoAttr K (He.ga K "Line") "sent"
  n_Line_home : NoAttr K (He.ga K "Line") "home"
  n_Line_again : NoAttr K (He.ga K "Line") "again"
  n_Line_credited : NoAttr K (He.ga K "Line") "credited"
  mk_Line : Mk K (He.ga K "Line") (He.ma K (He.ga K "Line") "__init__")
  m_Line_kept : Meth K (He.ga K "Line") "kept" (He.ma K (He.ga K "Line") "kept")
  m_Line_to_come : Meth K (He.ga K "Line") "to_come" (He.ma K (He.ga K "Line") "to_come")
  m_Line_kept_worth : Meth K (He.ga K "Line") "kept_worth" (He.ma K (He.ga K "Line") "kept_worth")
  m_Line_charge : Meth K (He.ga K "Line") "charge" (He.ma K (He.ga K "Line") "charge")
  m_Line_deliver : Meth K (He.ga K "Line") "deliver" (He.ma K (He.ga K "Line") "deliver")
  m_Line_bring : Meth K (He.ga K "Line") "bring" (He.ma K (He.ga K "Line") "bring")
  m_Line_reduce : Meth K (He.ga K "Line") "reduce" (He.ma K (He.ga K "Line") "reduce")
  m_Line_numbers : Meth K (He.ga K "Line") "numbers" (He.ma K (He.ga K "Line") "numbers")
  g_Order : mg "Order" = some (.ref (He.ga K "Order"))
  cl_Order : Cls K (He.ga K "Order")
  n_Order_lines : NoAttr K (He.ga K "Order") "lines"
  n_Order_money : NoAttr K (He.ga K "Order") "money"
  n_Order_marks : NoAttr K (He.ga K "Order") "marks"
  mk_Order : Mk K (He.ga K "Order") (He.ma K (He.ga K "Order") "__init__")
  m_Order_owing : Meth K (He.ga K "Order") "owing" (He.ma K (He.ga K "Order") "owing")
  m_Order_line_of : Meth K (He.ga K "Order") "line_of" (He.ma K (He.ga K "Order") "line_of")
  m_Order_need_over : Meth K (He.ga K "Order") "need_over" (He.ma K (He.ga K "Order") "need_over")
  m_Order_turn_line : Meth K (He.ga K "Order") "turn_line" (He.ma K (He.ga K "Order") "turn_line")
  m_Order_take : Meth K (He.ga K "Order") "take" (He.ma K (He.ga K "Order") "take")
  m_Order_mark : Meth K (He.ga K "Order") "mark" (He.ma K (He.ga K "Order") "mark")
  g_Book : mg "Book" = some (.ref (He.ga K "Book"))
  cl_Book : Cls K (He.ga K "Book")
  n_Book_each : NoAttr K (He.ga K "Book") "each"
  n_Book_trail : NoAttr K (He.ga K "Book") "trail"
  mk_Book : Mk K (He.ga K "Book") (He.ma K (He.ga K "Book") "__init__")
  m_Book_order_of : Meth K (He.ga K "Book") "order_of" (He.ma K (He.ga K "Book") "order_of")
  m_Book_do : Meth K (He.ga K "Book") "do" (He.ma K (He.ga K "Book") "do")
  m_Book_begin : Meth K (He.ga K "Book") "begin" (He.ma K (He.ga K "Book") "begin")
  m_Book_shift : Meth K (He.ga K "Book") "shift" (He.ma K (He.ga K "Book") "shift")
  m_Book_one : Meth K (He.ga K "Book") "one" (He.ma K (He.ga K "Book") "one")
  m_Book_need_number : Meth K (He.ga K "Book") "need_number" (He.ma K (He.ga K "Book") "need_number")
  m_Book_orders : Meth K (He.ga K "Book") "orders" (He.ma K (He.ga K "Book") "orders")
  m_Book_told : Meth K (He.ga K "Book") "told" (He.ma K (He.ga K "Book") "told")
  m_Book_paid : Meth K (He.ga K "Book") "paid" (He.ma K (He.ga K "Book") "paid")
  m_Book_owed : Meth K (He.ga K "Book") "owed" (He.ma K (He.ga K "Book") "owed")
  e_NoDeed_FlowError : PySem.W.exmOne K (.ref (He.ga K "NoDeed")) (.ref (He.ga K "FlowError")) = some true
  e_NoLines_FlowError : PySem.W.exmOne K (.ref (He.ga K "NoLines")) (.ref (He.ga K "FlowError")) = some true
  e_NoItem_FlowError : PySem.W.exmOne K (.ref (He.ga K "NoItem")) (.ref (He.ga K "FlowError")) = some true
  e_NoNumber_FlowError : PySem.W.exmOne K (.ref (He.ga K "NoNumber")) (.ref (He.ga K "FlowError")) = some true
  e_FullBook_FlowError : PySem.W.exmOne K (.ref (He.ga K "FullBook")) (.ref (He.ga K "FlowError")) = some true
  e_NoOrder_FlowError : PySem.W.exmOne K (.ref (He.ga K "NoOrder")) (.ref (He.ga K "FlowError")) = some true
  e_SameOrder_FlowError : PySem.W.exmOne K (.ref (He.ga K "SameOrder")) (.ref (He.ga K "FlowError")) = some true
  e_NoLine_FlowError : PySem.W.exmOne K (.ref (He.ga K "NoLine")) (.ref (He.ga K "FlowError")) = some true
  e_TooMuch_FlowError : PySem.W.exmOne K (.ref (He.ga K "TooMuch")) (.ref (He.ga K "FlowError")) = some true
  f_Worth : FunD K dWorth.name dWorth.qual dWorth.params dWorth.body dWorth.scope [] [] (He.fAd K dWorth.at_) (fdO K dWorth.at_)
  f_IsItem : FunD K dIsItem.name dIsItem.qual dIsItem.params dIsItem.body dIsItem.scope [] [] (He.fAd K dIsItem.at_) (fdO K dIsItem.at_)
  f_CheckLine : FunD K dCheckLine.name dCheckLine.qual dCheckLine.params dCheckLine.body dCheckLine.scope [] [] (He.fAd K dCheckLine.at_) (fdO K dCheckLine.at_)
  f_LineInit : FunD K dLineInit.name dLineInit.qual dLineInit.params dLineInit.body dLineInit.scope [] [] (He.fAd K dLineInit.at_) (fdO K dLineInit.at_)
  f_LineKept : FunD K dLineKept.name dLineKept.qual dLineKept.params dLineKept.body dLineKept.scope [] [] (He.fAd K dLineKept.at_) (fdO K dLineKept.at_)
  f_LineToCome : FunD K dLineToCome.name dLineToCome.qual dLineToCome.params dLineToCome.body dLineToCome.scope [] [] (He.fAd K dLineToCome.at_) (fdO K dLineToCome.at_)
  f_LineKeptWorth : FunD K dLineKeptWorth.name dLineKeptWorth.qual dLineKeptWorth.params dLineKeptWorth.body dLineKeptWorth.scope [] [] (He.fAd K dLineKeptWorth.at_) (fdO K dLineKeptWorth.at_)
  f_LineCharge : FunD K dLineCharge.name dLineCharge.qual dLineCharge.params dLineCharge.body dLineCharge.scope [] [] (He.fAd K dLineCharge.at_) (fdO K dLineCharge.at_)
  f_LineDeliver : FunD K dLineDeliver.name dLineDeliver.qual dLineDeliver.params dLineDeliver.body dLineDeliver.scope [] [] (He.fAd K dLineDeliver.at_) (fdO K dLineDeliver.at_)
  f_LineBring : FunD K dLineBring.name dLineBring.qual dLineBring.params dLineBring.body dLineBring.scope [] [] (He.fAd K dLineBring.at_) (fdO K dLineBring.at_)
  f_LineReduce : FunD K dLineReduce.name dLineReduce.qual dLineReduce.params dLineReduce.body dLineReduce.scope [] [] (He.fAd K dLineReduce.at_) (fdO K dLineReduce.at_)
  f_LineNumbers : FunD K dLineNumbers.name dLineNumbers.qual dLineNumbers.params dLineNumbers.body dLineNumbers.scope [] [] (He.fAd K dLineNumbers.at_) (fdO K dLineNumbers.at_)
  f_OrderInit : FunD K dOrderInit.name dOrderInit.qual dOrderInit.params dOrderInit.body dOrderInit.scope [] [] (He.fAd K dOrderInit.at_) (fdO K dOrderInit.at_)
  f_OrderOwing : FunD K dOrderOwing.name dOrderOwing.qual dOrderOwing.params dOrderOwing.body dOrderOwing.scope [] [] (He.fAd K dOrderOwing.at_) (fdO K dOrderOwing.at_)
  f_OrderLineOf : FunD K dOrderLineOf.name dOrderLineOf.qual dOrderLineOf.params dOrderLineOf.body dOrderLineOf.scope [] [] (He.fAd K dOrderLineOf.at_) (fdO K dOrderLineOf.at_)
  f_OrderNeedOver : FunD K dOrderNeedOver.name dOrderNeedOver.qual dOrderNeedOver.params dOrderNeedOver.body dOrderNeedOver.scope [] [] (He.fAd K dOrderNeedOver.at_) (fdO K dOrderNeedOver.at_)
  f_OrderTurnLine : FunD K dOrderTurnLine.name dOrderTurnLine.qual dOrderTurnLine.params dOrderTurnLine.body dOrderTurnLine.scope [] [] (He.fAd K dOrderTurnLine.at_) (fdO K dOrderTurnLine.at_)
  f_OrderTake : FunD K dOrderTake.name dOrderTake.qual dOrderTake.params dOrderTake.body dOrderTake.scope [] [] (He.fAd K dOrderTake.at_) (fdO K dOrderTake.at_)
  f_OrderMark : FunD K dOrderMark.name dOrderMark.qual dOrderMark.params dOrderMark.body dOrderMark.scope [] [] (He.fAd K dOrderMark.at_) (fdO K dOrderMark.at_)
  f_Own : FunD K dOwn.name dOwn.qual dOwn.params dOwn.body dOwn.scope [] [] (He.fAd K dOwn.at_) (fdO K dOwn.at_)
  f_BookInit : FunD K dBookInit.name dBookInit.qual dBookInit.params dBookInit.body dBookInit.scope [] [] (He.fAd K dBookInit.at_) (fdO K dBookInit.at_)
  f_BookOrderOf : FunD K dBookOrderOf.name dBookOrderOf.qual dBookOrderOf.params dBookOrderOf.body dBookOrderOf.scope [] [] (He.fAd K dBookOrderOf.at_) (fdO K dBookOrderOf.at_)
  f_BookDo : FunD K dBookDo.name dBookDo.qual dBookDo.params dBookDo.body dBookDo.scope [] [] (He.fAd K dBookDo.at_) (fdO K dBookDo.at_)
  f_BookBegin : FunD K dBookBegin.name dBookBegin.qual dBookBegin.params dBookBegin.body dBookBegin.scope [] [] (He.fAd K dBookBegin.at_) (fdO K dBookBegin.at_)
  f_BookShift : FunD K dBookShift.name dBookShift.qual dBookShift.params dBookShift.body dBookShift.scope [] [] (He.fAd K dBookShift.at_) (fdO K dBookShift.at_)
  f_BookOne : FunD K dBookOne.name dBookOne.qual dBookOne.params dBookOne.body dBookOne.scope [] [] (He.fAd K dBookOne.at_) (fdO K dBookOne.at_)
  f_BookNeedNumber : FunD K dBookNeedNumber.name dBookNeedNumber.qual dBookNeedNumber.params dBookNeedNumber.body dBookNeedNumber.scope [] [] (He.fAd K dBookNeedNumber.at_) (fdO K dBookNeedNumber.at_)
  f_BookOrders : FunD K dBookOrders.name dBookOrders.qual dBookOrders.params dBookOrders.body dBookOrders.scope [] [] (He.fAd K dBookOrders.at_) (fdO K dBookOrders.at_)
  f_BookTold : FunD K dBookTold.name dBookTold.qual dBookTold.params dBookTold.body dBookTold.scope [] [] (He.fAd K dBookTold.at_) (fdO K dBookTold.at_)
  f_BookPaid : FunD K dBookPaid.name dBookPaid.qual dBookPaid.params dBookPaid.body dBookPaid.scope [] [] (He.fAd K dBookPaid.at_) (fdO K dBookPaid.at_)
  f_BookOwed : FunD K dBookOwed.name dBookOwed.qual dBookOwed.params dBookOwed.body dBookOwed.scope [] [] (He.fAd K dBookOwed.at_) (fdO K dBookOwed.at_)
  f_NumberIn : FunD K dNumberIn.name dNumberIn.qual dNumberIn.params dNumberIn.body dNumberIn.scope [] [] (He.fAd K dNumberIn.at_) (fdO K dNumberIn.at_)
  f_LineIn : FunD K dLineIn.name dLineIn.qual dLineIn.params dLineIn.body dLineIn.scope [] [] (He.fAd K dLineIn.at_) (fdO K dLineIn.at_)
  f_Read : FunD K dRead.name dRead.qual dRead.params dRead.body dRead.scope [] [] (He.fAd K dRead.at_) (fdO K dRead.at_)
  f_Played : FunD K dPlayed.name dPlayed.qual dPlayed.params dPlayed.body dPlayed.scope [] [] (He.fAd K dPlayed.at_) (fdO K dPlayed.at_)
  f_ChangesOf : FunD K dChangesOf.name dChangesOf.qual dChangesOf.params dChangesOf.body dChangesOf.scope [] [] (He.fAd K dChangesOf.at_) (fdO K dChangesOf.at_)
  f_LCellAt : FunD K dLCellAt.name dLCellAt.qual dLCellAt.params dLCellAt.body dLCellAt.scope [] [] (He.fAd K dLCellAt.at_) (fdO K dLCellAt.at_)
  f_LWhole : FunD K dLWhole.name dLWhole.qual dLWhole.params dLWhole.body dLWhole.scope [] [] (He.fAd K dLWhole.at_) (fdO K dLWhole.at_)
  f_LLineWorth : FunD K dLLineWorth.name dLLineWorth.qual dLLineWorth.params dLLineWorth.body dLLineWorth.scope [] [] (He.fAd K dLLineWorth.at_) (fdO K dLLineWorth.at_)
  f_LOwedBy : FunD K dLOwedBy.name dLOwedBy.qual dLOwedBy.params dLOwedBy.body dLOwedBy.scope [] [] (He.fAd K dLOwedBy.at_) (fdO K dLOwedBy.at_)
  f_LMost : FunD K dLMost.name dLMost.qual dLMost.params dLMost.body dLMost.scope [] [] (He.fAd K dLMost.at_) (fdO K dLMost.at_)
  f_LPlaceBy : FunD K dLPlaceBy.name dLPlaceBy.qual dLPlaceBy.params dLPlaceBy.body dLPlaceBy.scope [] [] (He.fAd K dLPlaceBy.at_) (fdO K dLPlaceBy.at_)
  f_LNumberBy : FunD K dLNumberBy.name dLNumberBy.qual dLNumberBy.params dLNumberBy.body dLNumberBy.scope [] [] (He.fAd K dLNumberBy.at_) (fdO K dLNumberBy.at_)
  f_LItemBy : FunD K dLItemBy.name dLItemBy.qual dLItemBy.params dLItemBy.body dLItemBy.scope [] [] (He.fAd K dLItemBy.at_) (fdO K dLItemBy.at_)
  f_LLinesBy : FunD K dLLinesBy.name dLLinesBy.qual dLLinesBy.params dLLinesBy.body dLLinesBy.scope [] [] (He.fAd K dLLinesBy.at_) (fdO K dLLinesBy.at_)
  f_LDeedBy : FunD K dLDeedBy.name dLDeedBy.qual dLDeedBy.params dLDeedBy.body dLDeedBy.scope [] [] (He.fAd K dLDeedBy.at_) (fdO K dLDeedBy.at_)
  f_LRefusal : FunD K dLRefusal.name dLRefusal.qual dLRefusal.params dLRefusal.body dLRefusal.scope [] [] (He.fAd K dLRefusal.at_) (fdO K dLRefusal.at_)
  f_LTurned : FunD K dLTurned.name dLTurned.qual dLTurned.params dLTurned.body dLTurned.scope [] [] (He.fAd K dLTurned.at_) (fdO K dLTurned.at_)
  f_LStep : FunD K dLStep.name dLStep.qual dLStep.params dLStep.body dLStep.scope [] [] (He.fAd K dLStep.at_) (fdO K dLStep.at_)
  f_LPairsAlike : FunD K dLPairsAlike.name dLPairsAlike.qual dLPairsAlike.params dLPairsAlike.body dLPairsAlike.scope [] [] (He.fAd K dLPairsAlike.at_) (fdO K dLPairsAlike.at_)
  f_LTextOf : FunD K dLTextOf.name dLTextOf.qual dLTextOf.params dLTextOf.body dLTextOf.scope [] [] (He.fAd K dLTextOf.at_) (fdO K dLTextOf.at_)
  f_LNumberIn : FunD K dLNumberIn.name dLNumberIn.qual dLNumberIn.params dLNumberIn.body dLNumberIn.scope [] [] (He.fAd K dLNumberIn.at_) (fdO K dLNumberIn.at_)
  f_LLineIn : FunD K dLLineIn.name dLLineIn.qual dLLineIn.params dLLineIn.body dLLineIn.scope [] [] (He.fAd K dLLineIn.at_) (fdO K dLLineIn.at_)
  f_LDeedIn : FunD K dLDeedIn.name dLDeedIn.qual dLDeedIn.params dLDeedIn.body dLDeedIn.scope [] [] (He.fAd K dLDeedIn.at_) (fdO K dLDeedIn.at_)
  f_LChangedBy : FunD K dLChangedBy.name dLChangedBy.qual dLChangedBy.params dLChangedBy.body dLChangedBy.scope [] [] (He.fAd K dLChangedBy.at_) (fdO K dLChangedBy.at_)
  f_LRefused : FunD K dLRefused.name dLRefused.qual dLRefused.params dLRefused.body dLRefused.scope [] [] (He.fAd K dLRefused.at_) (fdO K dLRefused.at_)
  f_Law : FunD K dLaw.name dLaw.qual dLaw.params dLaw.body dLaw.scope [] [] (He.fAd K dLaw.at_) (fdO K dLaw.at_)
  kd : ∃ es n, K.lookup (He.ga K "PARTS") = some ⟨.type "dict", none, .dict es n, #[]⟩ ∧ PySem.W.KeysLit w.params es.toList ∧ es.toList.map He.keyOf = He.keysIn w.params (parts.map (·.1)) ∧ ((He.ga K "PARTS") == sysModules) = false
  kv : ex K = true
theorem tx_of {w : World} {K : PySem.W.Frag} {h : Heap} {mg : Str → Option Value} (X : K.In h) (G : h.Ns mainGlobals mg) (c : He.SaysX fa fn ts [] ex w h K) : Tx w K mg where
  g_Worth := He.glo_ok X G (c.t.d.fact 0 (f := .glo "worth") rfl)
  g_IsItem := He.glo_ok X G (c.t.d.fact 1 (f := .glo "is_item") rfl)
  g_CheckLine := He.glo_ok X G (c.t.d.fact 2 (f := .glo "check_line") rfl)
  g_Own := He.glo_ok X G (c.t.d.fact 3 (f := .glo "own") rfl)
  g_NumberIn := He.glo_ok X G (c.t.d.fact 4 (f := .glo "number_in") rfl)
  g_LineIn := He.glo_ok X G (c.t.d.fact 5 (f := .glo "line_in") rfl)
  g_Read := He.glo_ok X G (c.t.d.fact 6 (f := .glo "read") rfl)
  g_Played := He.glo_ok X G (c.t.d.fact 7 (f := .glo "played") rfl)
  g_ChangesOf := He.glo_ok X G (c.t.d.fact 8 (f := .glo "changes_of") rfl)
  g_LCellAt := He.glo_ok X G (c.t.d.fact 9 (f := .glo "_law_cell_at") rfl)
  g_LWhole := He.glo_ok X G (c.t.d.fact 10 (f := .glo "_law_whole") rfl)
  g_LLineWorth := He.glo_ok X G (c.t.d.fact 11 (f := .glo "_law_line_worth") rfl)
  g_LOwedBy := He.glo_ok X G (c.t.d.fact 12 (f := .glo "_law_owed_by") rfl)
  g_LMost := He.glo_ok X G (c.t.d.fact 13 (f := .glo "_law_most") rfl)
  g_LPlaceBy := He.glo_ok X G (c.t.d.fact 14 (f := .glo "_law_place_by") rfl)
  g_LNumberBy := He.glo_ok X G (c.t.d.fact 15 (f := .glo "_law_number_by") rfl)
  g_LItemBy := He.glo_ok X G (c.t.d.fact 16 (f := .glo "_law_item_by") rfl)
  g_LLinesBy := He.glo_ok X G (c.t.d.fact 17 (f := .glo "_law_lines_by") rfl)
  g_LDeedBy := He.glo_ok X G (c.t.d.fact 18 (f := .glo "_law_deed_by") rfl)
  g_LRefusal := He.glo_ok X G (c.t.d.fact 19 (f := .glo "_law_refusal") rfl)
  g_LTurned := He.glo_ok X G (c.t.d.fact 20 (f := .glo "_law_turned") rfl)
  g_LStep := He.glo_ok X G (c.t.d.fact 21 (f := .glo "_law_step") rfl)
  g_LPairsAlike := He.glo_ok X G (c.t.d.fact 22 (f := .glo "_law_pairs_alike") rfl)
  g_LTextOf := He.glo_ok X G (c.t.d.fact 23 (f := .glo "_law_text_of") rfl)
  g_LNumberIn := He.glo_ok X G (c.t.d.fact 24 (f := .glo "_law_number_in") rfl)
  g_LLineIn := He.glo_ok X G (c.t.d.fact 25 (f := .glo "_law_line_in") rfl)
  g_LDeedIn := He.glo_ok X G (c.t.d.fact 26 (f := .glo "_law_deed_in") rfl)
  g_LChangedBy := He.glo_ok X G (c.t.d.fact 27 (f := .glo "_law_changed_by") rfl)
  g_LRefused := He.glo_ok X G (c.t.d.fact 28 (f := .glo "_law_refused") rfl)
  g_Law := He.glo_ok X G (c.t.d.fact 29 (f := .glo "law") rfl)
  b_bool := He.free_ok X G (c.t.d.fact 30 (f := .free "bool") rfl)
  b_int := He.free_ok X G (c.t.d.fact 31 (f := .free "int") rfl)
  b_isinstance := He.free_ok X G (c.t.d.fact 32 (f := .free "isinstance") rfl)
  b_len := He.free_ok X G (c.t.d.fact 33 (f := .free "len") rfl)
  b_list := He.free_ok X G (c.t.d.fact 34 (f := .free "list") rfl)
  b_max := He.free_ok X G (c.t.d.fact 35 (f := .free "max") rfl)
  b_min := He.free_ok X G (c.t.d.fact 36 (f := .free "min") rfl)
  b_range := He.free_ok X G (c.t.d.fact 37 (f := .free "range") rfl)
  b_str := He.free_ok X G (c.t.d.fact 38 (f := .free "str") rfl)
  b_sum := He.free_ok X G (c.t.d.fact 39 (f := .free "sum") rfl)
  b_tuple := He.free_ok X G (c.t.d.fact 40 (f := .free "tuple") rfl)
  c_LETTERS := gs_ok X G (c.t.d.fact 41 (f := .str "LETTERS" "abcdefghijklmnopqrstuvwxyz") rfl)
  c_MOST_LETTERS := gi_ok X G (c.t.d.fact 42 (f := .int "MOST_LETTERS" 12) rfl)
  c_MOST_PIECES := gi_ok X G (c.t.d.fact 43 (f := .int "MOST_PIECES" 1000000) rfl)
  c_MOST_CENTS := gi_ok X G (c.t.d.fact 44 (f := .int "MOST_CENTS" 1000000000) rfl)
  c_MOST_PACK := gi_ok X G (c.t.d.fact 45 (f := .int "MOST_PACK" 1000) rfl)
  c_PARTS := He.glo_ok X G (c.t.d.fact 46 (f := .glo "PARTS") rfl)
  c_MOST_LINES := gi_ok X G (c.t.d.fact 47 (f := .int "MOST_LINES" 20) rfl)
  c_MOST_ORDERS := gi_ok X G (c.t.d.fact 48 (f := .int "MOST_ORDERS" 40) rfl)
  c_FIGURES := gs_ok X G (c.t.d.fact 49 (f := .str "FIGURES" "0123456789") rfl)
  c_MOST_FIGURES := gi_ok X G (c.t.d.fact 50 (f := .int "MOST_FIGURES" 30) rfl)
  g_FlowError := He.glo_ok X G (c.t.d.fact 51 (f := .glo "FlowError") rfl)
  x_FlowError := He.exc_ok (c.t.d.fact 52 (f := .exc "FlowError") rfl)
  g_NoDeed := He.glo_ok X G (c.t.d.fact 53 (f := .glo "NoDeed") rfl)
  x_NoDeed := He.exc_ok (c.t.d.fact 54 (f := .exc "NoDeed") rfl)
  g_NoLines := He.glo_ok X G (c.t.d.fact 55 (f := .glo "NoLines") rfl)
  x_NoLines := He.exc_ok (c.t.d.fact 56 (f := .exc "NoLines") rfl)
  g_NoItem := He.glo_ok X G (c.t.d.fact 57 (f := .glo "NoItem") rfl)
  x_NoItem := He.exc_ok (c.t.d.fact 58 (f := .exc "NoItem") rfl)
  g_NoNumber := He.glo_ok X G (c.t.d.fact 59 (f := .glo "NoNumber") rfl)
  x_NoNumber := He.exc_ok (c.t.d.fact 60 (f := .exc "NoNumber") rfl)
  g_FullBook := He.glo_ok X G (c.t.d.fact 61 (f := .glo "FullBook") rfl)
  x_FullBook := He.exc_ok (c.t.d.fact 62 (f := .exc "FullBook") rfl)
  g_NoOrder := He.glo_ok X G (c.t.d.fact 63 (f := .glo "NoOrder") rfl)
  x_NoOrder := He.exc_ok (c.t.d.fact 64 (f := .exc "NoOrder") rfl)
  g_SameOrder := He.glo_ok X G (c.t.d.fact 65 (f := .glo "SameOrder") rfl)
  x_SameOrder := He.exc_ok (c.t.d.fact 66 (f := .exc "SameOrder") rfl)
  g_NoLine := He.glo_ok X G (c.t.d.fact 67 (f := .glo "NoLine") rfl)
  x_NoLine := He.exc_ok (c.t.d.fact 68 (f := .exc "NoLine") rfl)
  g_TooMuch := He.glo_ok X G (c.t.d.fact 69 (f := .glo "TooMuch") rfl)
  x_TooMuch := He.exc_ok (c.t.d.fact 70 (f := .exc "TooMuch") rfl)
  g_Line := He.glo_ok X G (c.t.d.fact 71 (f := .glo "Line") rfl)
  cl_Line := He.cls_ok (c.t.d.fact 72 (f := .cls "Line") rfl)
  n_Line_item := He.noat_ok (c.t.d.fact 73 (f := .noat "Line" "item") rfl)
  n_Line_ordered := He.noat_ok (c.t.d.fact 74 (f := .noat "Line" "ordered") rfl)
  n_Line_cents := He.noat_ok (c.t.d.fact 75 (f := .noat "Line" "cents") rfl)
  n_Line_pack := He.noat_ok (c.t.d.fact 76 (f := .noat "Line" "pack") rfl)
  n_Line_sent := He.noat_ok (c.t.d.fact 77 (f := .noat "Line" "sent") rfl)
  n_Line_home := He.noat_ok (c.t.d.fact 78 (f := .noat "Line" "home") rfl)
  n_Line_again := He.noat_ok (c.t.d.fact 79 (f := .noat "Line" "again") rfl)
  n_Line_credited := He.noat_ok (c.t.d.fact 80 (f := .noat "Line" "credited") rfl)
  mk_Line := He.mkr_ok (c.t.d.fact 81 (f := .mkr "Line") rfl)
  m_Line_kept := He.meth_ok (c.t.d.fact 82 (f := .meth "Line" "kept") rfl)
  m_Line_to_come := He.meth_ok (c.t.d.fact 83 (f := .meth "Line" "to_come") rfl)
  m_Line_kept_worth := He.meth_ok (c.t.d.fact 84 (f := .meth "Line" "kept_worth") rfl)
  m_Line_charge := He.meth_ok (c.t.d.fact 85 (f := .meth "Line" "charge") rfl)
  m_Line_deliver := He.meth_ok (c.t.d.fact 86 (f := .meth "Line" "deliver") rfl)
  m_Line_bring := He.meth_ok (c.t.d.fact 87 (f := .meth "Line" "bring") rfl)
  m_Line_reduce := He.meth_ok (c.t.d.fact 88 (f := .meth "Line" "reduce") rfl)
  m_Line_numbers := He.meth_ok (c.t.d.fact 89 (f := .meth "Line" "numbers") rfl)
  g_Order := He.glo_ok X G (c.t.d.fact 90 (f := .glo "Order") rfl)
  cl_Order := He.cls_ok (c.t.d.fact 91 (f := .cls "Order") rfl)
  n_Order_lines := He.noat_ok (c.t.d.fact 92 (f := .noat "Order" "lines") rfl)
  n_Order_money := He.noat_ok (c.t.d.fact 93 (f := .noat "Order" "money") rfl)
  n_Order_marks := He.noat_ok (c.t.d.fact 94 (f := .noat "Order" "marks") rfl)
  mk_Order := He.mkr_ok (c.t.d.fact 95 (f := .mkr "Order") rfl)
  m_Order_owing := He.meth_ok (c.t.d.fact 96 (f := .meth "Order" "owing") rfl)
  m_Order_line_of := He.meth_ok (c.t.d.fact 97 (f := .meth "Order" "line_of") rfl)
  m_Order_need_over := He.meth_ok (c.t.d.fact 98 (f := .meth "Order" "need_over") rfl)
  m_Order_turn_line := He.meth_ok (c.t.d.fact 99 (f := .meth "Order" "turn_line") rfl)
  m_Order_take := He.meth_ok (c.t.d.fact 100 (f := .meth "Order" "take") rfl)
  m_Order_mark := He.meth_ok (c.t.d.fact 101 (f := .meth "Order" "mark") rfl)
  g_Book := He.glo_ok X G (c.t.d.fact 102 (f := .glo "Book") rfl)
  cl_Book := He.cls_ok (c.t.d.fact 103 (f := .cls "Book") rfl)
  n_Book_each := He.noat_ok (c.t.d.fact 104 (f := .noat "Book" "each") rfl)
  n_Book_trail := He.noat_ok (c.t.d.fact 105 (f := .noat "Book" "trail") rfl)
  mk_Book := He.mkr_ok (c.t.d.fact 106 (f := .mkr "Book") rfl)
  m_Book_order_of := He.meth_ok (c.t.d.fact 107 (f := .meth "Book" "order_of") rfl)
  m_Book_do := He.meth_ok (c.t.d.fact 108 (f := .meth "Book" "do") rfl)
  m_Book_begin := He.meth_ok (c.t.d.fact 109 (f := .meth "Book" "begin") rfl)
  m_Book_shift := He.meth_ok (c.t.d.fact 110 (f := .meth "Book" "shift") rfl)
  m_Book_one := He.meth_ok (c.t.d.fact 111 (f := .meth "Book" "one") rfl)
  m_Book_need_number := He.meth_ok (c.t.d.fact 112 (f := .meth "Book" "need_number") rfl)
  m_Book_orders := He.meth_ok (c.t.d.fact 113 (f := .meth "Book" "orders") rfl)
  m_Book_told := He.meth_ok (c.t.d.fact 114 (f := .meth "Book" "told") rfl)
  m_Book_paid := He.meth_ok (c.t.d.fact 115 (f := .meth "Book" "paid") rfl)
  m_Book_owed := He.meth_ok (c.t.d.fact 116 (f := .meth "Book" "owed") rfl)
  e_NoDeed_FlowError := He.exm_ok (c.t.d.fact 117 (f := .exm "NoDeed" "FlowError" true) rfl)
  e_NoLines_FlowError := He.exm_ok (c.t.d.fact 118 (f := .exm "NoLines" "FlowError" true) rfl)
  e_NoItem_FlowError := He.exm_ok (c.t.d.fact 119 (f := .exm "NoItem" "FlowError" true) rfl)
  e_NoNumber_FlowError := He.exm_ok (c.t.d.fact 120 (f := .exm "NoNumber" "FlowError" true) rfl)
  e_FullBook_FlowError := He.exm_ok (c.t.d.fact 121 (f := .exm "FullBook" "FlowError" true) rfl)
  e_NoOrder_FlowError := He.exm_ok (c.t.d.fact 122 (f := .exm "NoOrder" "FlowError" true) rfl)
  e_SameOrder_FlowError := He.exm_ok (c.t.d.fact 123 (f := .exm "SameOrder" "FlowError" true) rfl)
  e_NoLine_FlowError := He.exm_ok (c.t.d.fact 124 (f := .exm "NoLine" "FlowError" true) rfl)
  e_TooMuch_FlowError := He.exm_ok (c.t.d.fact 125 (f := .exm "TooMuch" "FlowError" true) rfl)
  f_Worth := by
    obtain ⟨fd, F⟩ := c.t.d.def_ 0 (d := dWorth) rfl
    exact fdO_of F
  f_IsItem := by
    obtain ⟨fd, F⟩ := c.t.d.def_ 1 (d := dIsItem) rfl
    exact fdO_of F
  f_CheckLine := by
    obtain ⟨fd, F⟩ := c.t.d.def_ 2 (d := dCheckLine) rfl
    exact fdO_of F
  f_LineInit := by
    obtain ⟨fd, F⟩ := c.t.d.def_ 3 (d := dLineInit) rfl
    exact fdO_of F
  f_LineKept := by
    obtain ⟨fd, F⟩ := c.t.d.def_ 4 (d := dLineKept) rfl
    exact fdO_of F
  f_LineToCome := by
    obtain ⟨fd, F⟩ := c.t.d.def_ 5 (d := dLineToCome) rfl
    exact fdO_of F
  f_LineKeptWorth := by
    obtain ⟨fd, F⟩ := c.t.d.def_ 6 (d := dLineKeptWorth) rfl
    exact fdO_of F
  f_LineCharge := by
    obtain ⟨fd, F⟩ := c.t.d.def_ 7 (d := dLineCharge) rfl
    exact fdO_of F
  f_LineDeliver := by
    obtain ⟨fd, F⟩ := c.t.d.def_ 8 (d := dLineDeliver) rfl
    exact fdO_of F
  f_LineBring := by
    obtain ⟨fd, F⟩ := c.t.d.def_ 9 (d := dLineBring) rfl
    exact fdO_of F
  f_LineReduce := by
    obtain ⟨fd, F⟩ := c.t.d.def_ 10 (d := dLineReduce) rfl
    exact fdO_of F
  f_LineNumbers := by
    obtain ⟨fd, F⟩ := c.t.d.def_ 11 (d := dLineNumbers) rfl
    exact fdO_of F
  f_OrderInit := by
    obtain ⟨fd, F⟩ := c.t.d.def_ 12 (d := dOrderInit) rfl
    exact fdO_of F
  f_OrderOwing := by
    obtain ⟨fd, F⟩ := c.t.d.def_ 13 (d := dOrderOwing) rfl
    exact fdO_of F
  f_OrderLineOf := by
    obtain ⟨fd, F⟩ := c.t.d.def_ 14 (d := dOrderLineOf) rfl
    exact fdO_of F
  f_OrderNeedOver := by
    obtain ⟨fd, F⟩ := c.t.d.def_ 15 (d := dOrderNeedOver) rfl
    exact fdO_of F
  f_OrderTurnLine := by
    obtain ⟨fd, F⟩ := c.t.d.def_ 16 (d := dOrderTurnLine) rfl
    exact fdO_of F
  f_OrderTake := by
    obtain ⟨fd, F⟩ := c.t.d.def_ 17 (d := dOrderTake) rfl
    exact fdO_of F
  f_OrderMark := by
    obtain ⟨fd, F⟩ := c.t.d.def_ 18 (d := dOrderMark) rfl
    exact fdO_of F
  f_Own := by
    obtain ⟨fd, F⟩ := c.t.d.def_ 19 (d := dOwn) rfl
    exact fdO_of F
  f_BookInit := by
    obtain ⟨fd, F⟩ := c.t.d.def_ 20 (d := dBookInit) rfl
    exact fdO_of F
  f_BookOrderOf := by
    obtain ⟨fd, F⟩ := c.t.d.def_ 21 (d := dBookOrderOf) rfl
    exact fdO_of F
  f_BookDo := by
    obtain ⟨fd, F⟩ := c.t.d.def_ 22 (d := dBookDo) rfl
    exact fdO_of F
  f_BookBegin := by
    obtain ⟨fd, F⟩ := c.t.d.def_ 23 (d := dBookBegin) rfl
    exact fdO_of F
  f_BookShift := by
    obtain ⟨fd, F⟩ := c.t.d.def_ 24 (d := dBookShift) rfl
    exact fdO_of F
  f_BookOne := by
    obtain ⟨fd, F⟩ := c.t.d.def_ 25 (d := dBookOne) rfl
    exact fdO_of F
  f_BookNeedNumber := by
    obtain ⟨fd, F⟩ := c.t.d.def_ 26 (d := dBookNeedNumber) rfl
    exact fdO_of F
  f_BookOrders := by
    obtain ⟨fd, F⟩ := c.t.d.def_ 27 (d := dBookOrders) rfl
    exact fdO_of F
  f_BookTold := by
    obtain ⟨fd, F⟩ := c.t.d.def_ 28 (d := dBookTold) rfl
    exact fdO_of F
  f_BookPaid := by
    obtain ⟨fd, F⟩ := c.t.d.def_ 29 (d := dBookPaid) rfl
    exact fdO_of F
  f_BookOwed := by
    obtain ⟨fd, F⟩ := c.t.d.def_ 30 (d := dBookOwed) rfl
    exact fdO_of F
  f_NumberIn := by
    obtain ⟨fd, F⟩ := c.t.d.def_ 31 (d := dNumberIn) rfl
    exact fdO_of F
  f_LineIn := by
    obtain ⟨fd, F⟩ := c.t.d.def_ 32 (d := dLineIn) rfl
    exact fdO_of F
  f_Read := by
    obtain ⟨fd, F⟩ := c.t.d.def_ 33 (d := dRead) rfl
    exact fdO_of F
  f_Played := by
    obtain ⟨fd, F⟩ := c.t.d.def_ 34 (d := dPlayed) rfl
    exact fdO_of F
  f_ChangesOf := by
    obtain ⟨fd, F⟩ := c.t.d.def_ 35 (d := dChangesOf) rfl
    exact fdO_of F
  f_LCellAt := by
    obtain ⟨fd, F⟩ := c.t.d.def_ 36 (d := dLCellAt) rfl
    exact fdO_of F
  f_LWhole := by
    obtain ⟨fd, F⟩ := c.t.d.def_ 37 (d := dLWhole) rfl
    exact fdO_of F
  f_LLineWorth := by
    obtain ⟨fd, F⟩ := c.t.d.def_ 38 (d := dLLineWorth) rfl
    exact fdO_of F
  f_LOwedBy := by
    obtain ⟨fd, F⟩ := c.t.d.def_ 39 (d := dLOwedBy) rfl
    exact fdO_of F
  f_LMost := by
    obtain ⟨fd, F⟩ := c.t.d.def_ 40 (d := dLMost) rfl
    exact fdO_of F
  f_LPlaceBy := by
    obtain ⟨fd, F⟩ := c.t.d.def_ 41 (d := dLPlaceBy) rfl
    exact fdO_of F
  f_LNumberBy := by
    obtain ⟨fd, F⟩ := c.t.d.def_ 42 (d := dLNumberBy) rfl
    exact fdO_of F
  f_LItemBy := by
    obtain ⟨fd, F⟩ := c.t.d.def_ 43 (d := dLItemBy) rfl
    exact fdO_of F
  f_LLinesBy := by
    obtain ⟨fd, F⟩ := c.t.d.def_ 44 (d := dLLinesBy) rfl
    exact fdO_of F
  f_LDeedBy := by
    obtain ⟨fd, F⟩ := c.t.d.def_ 45 (d := dLDeedBy) rfl
    exact fdO_of F
  f_LRefusal := by
    obtain ⟨fd, F⟩ := c.t.d.def_ 46 (d := dLRefusal) rfl
    exact fdO_of F
  f_LTurned := by
    obtain ⟨fd, F⟩ := c.t.d.def_ 47 (d := dLTurned) rfl
    exact fdO_of F
  f_LStep := by
    obtain ⟨fd, F⟩ := c.t.d.def_ 48 (d := dLStep) rfl
    exact fdO_of F
  f_LPairsAlike := by
    obtain ⟨fd, F⟩ := c.t.d.def_ 49 (d := dLPairsAlike) rfl
    exact fdO_of F
  f_LTextOf := by
    obtain ⟨fd, F⟩ := c.t.d.def_ 50 (d := dLTextOf) rfl
    exact fdO_of F
  f_LNumberIn := by
    obtain ⟨fd, F⟩ := c.t.d.def_ 51 (d := dLNumberIn) rfl
    exact fdO_of F
  f_LLineIn := by
    obtain ⟨fd, F⟩ := c.t.d.def_ 52 (d := dLLineIn) rfl
    exact fdO_of F
  f_LDeedIn := by
    obtain ⟨fd, F⟩ := c.t.d.def_ 53 (d := dLDeedIn) rfl
    exact fdO_of F
  f_LChangedBy := by
    obtain ⟨fd, F⟩ := c.t.d.def_ 54 (d := dLChangedBy) rfl
    exact fdO_of F
  f_LRefused := by
    obtain ⟨fd, F⟩ := c.t.d.def_ 55 (d := dLRefused) rfl
    exact fdO_of F
  f_Law := by
    obtain ⟨fd, F⟩ := c.t.d.def_ 56 (d := dLaw) rfl
    exact fdO_of F
  kd := by
    have e : ts.map (fun t => He.dicW K (t.1 K)) = ts.map fun t => some (He.keysIn w.params t.2) := congrArg (fun z : He.AlT => z.2) c.t
    have e1 : He.dicW K (He.ga K "PARTS") = some (He.keysIn w.params (parts.map (·.1))) := (List.cons.inj e).1
    exact kd_of e1
  kv := c.more
theorem room_any {k : Nat} {A : Around} (h : Room k A) : Room k A := h
/-! ### rules of our own over the layer -/
theorem pe_gc {X : Cx} {x : Str} {v : V} {pos : Pos} (hg : Gl X x) (hm : ∃ u, X.mg x = some u ∧ RelV v u) (hd : (x == ("__debug__" : Str)) = false := by decide) : PE X (.Name x pos) (tC v) := by
  obtain ⟨u, h, r⟩ := hm
  exact pe_glob hg h r hd
/-! ### readings from the left: one lemma a form -/
section
variable {σ : L2.St} {H : Hp} {Q : VK} {QB : Bool → Hp → Prop} {D : Ends} {K : PySem.W.Frag}
theorem r_seq {t u : TS} (h : t { D with nx := u D } σ H) : tSeq t u D σ H := h
/-- the ways behind a statement are joined: P holds behind it -/
theorem r_join {t u : TS} (P : L2.St → Hp → Prop) (h2 : ∀ σ' H', P σ' H' → u D σ' H') (h1 : ∀ N : L2.St → Hp → Prop, (∀ σ' H', P σ' H' → N σ' H') → t { D with nx := N } σ H) : tSeq t u D σ H := h1 (u D) h2
/-- a test, by what it tells -/
theorem r_ifj {c : TT} {t u : TS} (P : Bool → Hp → Prop) (h2 : ∀ b H', P b H' → if b = true then t D σ H' else u D σ H') (h1 : ∀ QB' : Bool → Hp → Prop, (∀ b H', P b H' → QB' b H') → c σ H QB') : tIfS c t u D σ H := h1 _ h2
theorem r_asg {te : TE} {i : Nat} (h : te σ H fun x H1 => D.nx (σ.set i (some x)) H1) : tAsg te (gName i) D σ H := h
theorem r_gn {i : Nat} {v : V} {R : L2.St → Hp → Prop} (h : R (σ.set i (some v)) H) : gName i v σ H R := h
theorem r_ret {te : TE} (h : te σ H D.rt) : tRet te D σ H := h
theorem r_retN (h : D.rt .non H) : tRetN D σ H := h
theorem r_drop {te : TE} (h : te σ H fun _ H1 => D.nx σ H1) : tDrop te D σ H := h
theorem r_ifs {c : TT} {t u : TS} (h : c σ H fun b H1 => if b = true then t D σ H1 else u D σ H1) : tIfS c t u D σ H := h
theorem r_next (h : D.nx σ H) : tNext D σ H := h
theorem r_var {i : Nat} {v : V} (e : σ[i]? = some (some v)) (h : Q v H) : tVar i σ H Q := ⟨v, e, h⟩
theorem r_c {v : V} (h : Q v H) : tC v σ H Q := h
theorem r_op {r : R2} {ta tb : TE} (h : ta σ H fun x H1 => tb σ H1 fun y H2 => r x y H2 Q) : tOp r ta tb σ H Q := h
theorem r_un {r : V → Hp → VK → Prop} {ta : TE} (h : ta σ H fun x H1 => r x H1 Q) : tUn r ta σ H Q := h
theorem r_U {g : Int → V} {i : Int} (h : Q (g i) H) : rU g (.int i) H Q := ⟨i, rfl, h⟩
theorem r_I0 {g : Int → Int → V} {i j : Int} (h : Q (g i j) H) : rI0 g (.int i) (.int j) H Q := ⟨i, j, rfl, rfl, h⟩
theorem r_I {C : Int → Int → Prop} {g : Int → Int → V} {i j : Int} (c : C i j) (h : Q (g i j) H) : rI C g (.int i) (.int j) H Q := ⟨i, j, rfl, rfl, c, h⟩
theorem r_eqI {i j : Int} (h : Q (.bl (decide (i = j))) H) : rEq (.int i) (.int j) H Q := by
  refine ⟨rfl, ?_⟩
  have e : decide (V.int i = V.int j) = decide (i = j) := by simp
  rw [e]
  exact h
theorem r_neI {i j : Int} (h : Q (.bl (!decide (i = j))) H) : rNe (.int i) (.int j) H Q := by
  refine ⟨rfl, ?_⟩
  have e : decide (V.int i = V.int j) = decide (i = j) := by simp
  rw [e]
  exact h
theorem r_eqS {i j : Str} (h : Q (.bl (decide (i = j))) H) : rEq (.str i) (.str j) H Q := by
  refine ⟨rfl, ?_⟩
  have e : decide (V.str i = V.str j) = decide (i = j) := by simp
  rw [e]
  exact h
theorem r_neS {i j : Str} (h : Q (.bl (!decide (i = j))) H) : rNe (.str i) (.str j) H Q := by
  refine ⟨rfl, ?_⟩
  have e : decide (V.str i = V.str j) = decide (i = j) := by simp
  rw [e]
  exact h
theorem r_test {t : TE} (h : t σ H fun x H1 => ∃ k, x = V.bl k ∧ QB k H1) : tTest t σ H QB := h
theorem r_tB {t : TE} (h : t σ H fun x H1 => ∃ k, x = V.bl k ∧ QB k H1) : tB t σ H QB := h
theorem r_exb {b : Bool} {P : Bool → Prop} (h : P b) : ∃ k, V.bl b = V.bl k ∧ P k := ⟨b, rfl, h⟩
theorem r_and {t u : TT} (h : t σ H fun c H1 => if c = true then u σ H1 QB else QB false H1) : tAnd t u σ H QB := h
theorem r_or {t u : TT} (h : t σ H fun c H1 => if c = true then QB true H1 else u σ H1 QB) : tOr t u σ H QB := h
theorem r_not {t : TT} (h : t σ H fun c H1 => QB (!c) H1) : tNot t σ H QB := h
theorem r_andV {ta tb : TE} (h : ta σ H fun x H1 => ∃ c, x = V.bl c ∧ if c = true then tb σ H1 Q else Q (.bl false) H1) : tAndV ta tb σ H Q := h
theorem r_orV {ta tb : TE} (h : ta σ H fun x H1 => ∃ c, x = V.bl c ∧ if c = true then Q (.bl true) H1 else tb σ H1 Q) : tOrV ta tb σ H Q := h
theorem r_notV {ta : TE} (h : ta σ H fun x H1 => ∃ c, x = V.bl c ∧ Q (.bl (!c)) H1) : tNotV ta σ H Q := h
theorem r_ifE {t : TT} {ta tb : TE} (h : t σ H fun c H1 => if c = true then ta σ H1 Q else tb σ H1 Q) : tIf t ta tb σ H Q := h
theorem r_nil {QA : List V → Hp → Prop} (h : QA [] H) : tNil σ H QA := h
theorem r_cons {te : TE} {ta : TA} {QA : List V → Hp → Prop} (h : te σ H fun x H1 => ta σ H1 fun xs H2 => QA (x :: xs) H2) : tCons te ta σ H QA := h
theorem r_cb {r : List V → Hp → VK → Prop} {t : TA} (h : t σ H fun vs H1 => r vs H1 Q) : tCB r t σ H Q := h
theorem r_tup {t : TA} (h : t σ H fun xs H1 => xs.length ≤ sizeLine ∧ ∀ p, H1 p = none → Q (.ref p) (upd H1 p (.tup xs))) : tTup t σ H Q := h
theorem r_lst {t : TA} (h : t σ H fun xs H1 => xs.length ≤ sizeLine ∧ ∀ p, H1 p = none → Q (.ref p) (upd H1 p (.lst xs))) : tLst t σ H Q := h
theorem r_mk {xs : List V} {P : Addr → Prop} (hl : xs.length ≤ 100) (h : ∀ p, P p) : xs.length ≤ sizeLine ∧ ∀ p, P p := ⟨Nat.le_trans hl (by rw [sizeLine_eq]; decide), h⟩
theorem r_call {sp : Sp} {E : XK} {t : TA} (h : t σ H fun vs H1 => sp (vs ++ []) H1 Q E) : tCall sp [] E t σ H Q := h
theorem r_callS {sp : Sp} {E : L2.St → XK} {t : TA} (h : t σ H fun vs H1 => sp vs H1 Q (E σ)) : tCallS sp E t σ H Q := h
theorem r_meth {C : Addr} {m : Str} {sp : Sp} {E : XK} {ta : TE} {t : TA} (h : ta σ H fun x H1 => ∃ a dx fs, x = V.ref a ∧ H1 a = some (.ins C dx fs) ∧ fs.lookup m = none ∧ t σ H1 fun vs H2 => sp (x :: (vs ++ [])) H2 Q E) :
    tMeth C m sp [] E ta t σ H Q := h
theorem r_m {C : Addr} {m : Str} {a dx : Addr} {fs : List (Str × V)} {P : Prop} (ho : H a = some (.ins C dx fs)) (hn : fs.lookup m = none) (h : P) : ∃ a' dx' fs', V.ref a = V.ref a' ∧ H a' = some (.ins C dx' fs') ∧ fs'.lookup m = none ∧ P :=
  ⟨a, dx, fs, rfl, ho, hn, h⟩
theorem r_fld {ta : TE} {f : Str} (h : ta σ H fun x H1 => ∃ a C dx fs v, x = V.ref a ∧ H1 a = some (.ins C dx fs) ∧ Cls K C ∧ NoAttr K C f ∧ fs.lookup f = some v ∧ Q v H1) : tFld K ta f σ H Q := h
theorem r_f {f : Str} {a C dx : Addr} {fs : List (Str × V)} {v : V} {P : V → Prop} (ho : H a = some (.ins C dx fs)) (hc : Cls K C) (hn : NoAttr K C f) (hl : fs.lookup f = some v) (h : P v) :
    ∃ a' C' dx' fs' v', V.ref a = V.ref a' ∧ H a' = some (.ins C' dx' fs') ∧ Cls K C' ∧ NoAttr K C' f ∧ fs'.lookup f = some v' ∧ P v' := ⟨a, C, dx, fs, v, rfl, ho, hc, hn, hl, h⟩
theorem r_sfld {ta tv : TE} {f : Str} (h : tv σ H fun y H1 => ta σ H1 fun x H2 => ∃ a C dx fs, x = V.ref a ∧ H2 a = some (.ins C dx fs) ∧ Cls K C ∧ NoAttr K C f ∧ fs.length < 1000 ∧ D.nx σ (upd H2 a (.ins C dx (putF f y fs)))) :
    sFld K ta tv f D σ H := h
theorem r_sf {f : Str} {y : V} {a C dx : Addr} {fs gs : List (Str × V)} {P : Hp → Prop} (ho : H a = some (.ins C dx fs)) (hc : Cls K C) (hn : NoAttr K C f) (hp : putF f y fs = gs) (hl : fs.length ≤ 20) (h : P (upd H a (.ins C dx gs))) :
    ∃ a' C' dx' fs', V.ref a = V.ref a' ∧ H a' = some (.ins C' dx' fs') ∧ Cls K C' ∧ NoAttr K C' f ∧ fs'.length < 1000 ∧ P (upd H a' (.ins C' dx' (putF f y fs'))) :=
  ⟨a, C, dx, fs, rfl, ho, hc, hn, Nat.lt_of_le_of_lt hl (by decide), by rw [hp]; exact h⟩
theorem r_ixT {a : Addr} {xs : List V} {i : Int} {v : V} (h : SqT K H a xs) (e : atI xs i = some v) (q : Q v H) : rIxT K (.ref a) (.int i) H Q := ⟨a, xs, i, v, rfl, rfl, h, e, q⟩
theorem r_ixL {a : Addr} {xs : List V} {i : Int} {v : V} (h : SqL K H a xs) (e : atI xs i = some v) (q : Q v H) : rIxL K (.ref a) (.int i) H Q := ⟨a, xs, i, v, rfl, rfl, h, e, q⟩
theorem r_chain {r r' : R2} {ta tb tc : TE} (h : ta σ H fun x H1 => tb σ H1 fun y H2 => r x y H2 fun z H3 => ∃ k, z = V.bl k ∧ (if k = true then tc σ H3 fun w H4 => r' y w H4 Q else Q (.bl false) H3)) : tChain r r' ta tb tc σ H Q := h
theorem r_itd {p : Prop} [Decidable p] {A B : Prop} (h1 : p → A) (h2 : ¬ p → B) : if decide p = true then A else B := by
  by_cases h : p
  · rw [decide_eq_true h, if_pos rfl]; exact h1 h
  · rw [decide_eq_false h, if_neg (by decide)]; exact h2 h
theorem r_itn {p : Prop} [Decidable p] {A B : Prop} (h1 : ¬ p → A) (h2 : p → B) : if (!decide p) = true then A else B := by
  by_cases h : p
  · rw [decide_eq_true h, if_neg (by decide)]; exact h2 h
  · rw [decide_eq_false h, if_pos (show (!false) = true from rfl)]; exact h1 h
theorem r_itb {b : Bool} {A B : Prop} (h1 : b = true → A) (h2 : b = false → B) : if b = true then A else B := by
  cases b with
  | true => rw [if_pos rfl]; exact h1 rfl
  | false => rw [if_neg (by decide)]; exact h2 rfl
theorem r_ity {p : Prop} [Decidable p] {A B : Prop} (hp : p) (h : A) : if decide p = true then A else B := by
  rw [decide_eq_true hp, if_pos rfl]; exact h
theorem r_itz {p : Prop} [Decidable p] {A B : Prop} (hp : ¬ p) (h : B) : if decide p = true then A else B := by
  rw [decide_eq_false hp, if_neg (by decide)]; exact h
theorem r_itT {A B : Prop} (h : A) : if true = true then A else B := h
theorem r_itF {A B : Prop} (h : B) : if false = true then A else B := by
  rw [if_neg (by decide)]; exact h
theorem r_itnT {A B : Prop} (h : B) : if (!true) = true then A else B := by
  rw [if_neg (by decide)]; exact h
theorem r_itnF {A B : Prop} (h : A) : if (!false) = true then A else B := by
  rw [if_pos (by decide)]; exact h
theorem r_make {C : Addr} {sp : Sp} {E : XK} {t : TA} (h : t σ H fun vs H1 => ∀ x dx, H1 x = none → H1 dx = none → dx ≠ x → sp (.ref x :: (vs ++ [])) (upd (upd H1 dx (.own x)) x (.ins C dx [])) (fun v H2 => v = .non ∧ Q (.ref x) H2) E) : tMake C sp [] E t σ H Q := h
theorem r_bm {T : String} {r : V → List V → Hp → VK → Prop} {to : TE} {t : TA} (h : to σ H fun x H1 => tyV K T x H1 ∧ t σ H1 fun xs H2 => r x xs H2 Q) : tBM K T r to t σ H Q := h
theorem r_tyL {p : Addr} {xs : List V} {P : Prop} (h : SqL K H p xs) (q : P) : tyV K "list" (.ref p) H ∧ P := ⟨.inl ⟨rfl, xs, h⟩, q⟩
theorem r_app {l : Addr} {xs : List V} {y : V} (h : H l = some (.lst xs)) (hz : xs.length < sizeLine) (q : Q .non (upd H l (.lst (xs ++ [y])))) : rAppend (.ref l) [y] H Q := ⟨l, xs, y, rfl, rfl, h, hz, q⟩
theorem r_yes (h : QB true H) : tYes σ H QB := h
theorem r_raise {cls : Value} {W : WX} (h : W cls none σ H) : (fun (_ : Ends) (σ : L2.St) (H : Hp) => (fun (_ : L2.St) (H : Hp) (Q : XK) => Q cls none H) σ H fun cls d H' => W cls d σ H') D σ H := h
end
theorem atI_get {α : Type} {xs : List α} {i : Int} {j : Nat} {v : α} (e : i = (j : Int)) (h : xs[j]? = some v) : atI xs i = some v := by
  subst e
  have hl : j < xs.length := (List.getElem?_eq_some_iff.mp h).1
  unfold atI ixN
  rw [if_pos (by omega), if_pos (by omega)]
  simpa using h
theorem lk_hit {a : Str} {v : V} {r : List (Str × V)} : List.lookup a ((a, v) :: r) = some v := by simp [List.lookup]
theorem lk_miss {a b : Str} {v : V} {r : List (Str × V)} (h : ¬ a = b) : List.lookup a ((b, v) :: r) = List.lookup a r := by
  have e : (a == b) = false := by simpa using h
  simp [List.lookup, e]
theorem pf_hit {a : Str} {v u : V} {r : List (Str × V)} : putF a v ((a, u) :: r) = (a, v) :: r := by
  show (if a = a then (a, v) :: r else _) = _
  rw [if_pos rfl]
theorem pf_miss {a b : Str} {v u : V} {r : List (Str × V)} (h : ¬ b = a) : putF a v ((b, u) :: r) = (b, u) :: putF a v r := by
  show (if b = a then _ else (b, u) :: putF a v r) = _
  rw [if_neg h]
theorem pf_nil {a : Str} {v : V} : putF a v [] = [(a, v)] := rfl
/-- all but S is as it was; tuples always -/
structure But (S : Addr → Prop) (H H' : Hp) : Prop where
  keep : ∀ a o, H a = some o → ¬ S a → H' a = some o
  tup : ∀ a xs, H a = some (.tup xs) → H' a = some (.tup xs)
theorem But.refl {S : Addr → Prop} {H : Hp} : But S H H := ⟨fun _ _ h _ => h, fun _ _ h => h⟩
theorem But.trans {S : Addr → Prop} {H H1 H2 : Hp} (a : But S H H1) (b : But S H1 H2) : But S H H2 := ⟨fun x o h n => b.keep x o (a.keep x o h n) n, fun x o h => b.tup x o (a.tup x o h)⟩
theorem But.of {S : Addr → Prop} {H H' : Hp} (h : Same H H') : But S H H' := ⟨fun x o e _ => h x o e, fun x o e => h x _ e⟩
theorem But.mono {S S' : Addr → Prop} {H H' : Hp} (h : But S H H') (m : ∀ a, S a → S' a) : But S' H H' := ⟨fun x o e n => h.keep x o e fun z => n (m x z), h.tup⟩
theorem But.ins {S : Addr → Prop} {H : Hp} {a C dx : Addr} {fs : List (Str × V)} {o : HO} (ha : H a = some (.ins C dx fs)) (h : S a) : But S H (L2.upd H a o) :=
  ⟨fun x u e n => by rw [upd_ne (fun z => n (by rw [z]; exact h))]; exact e, fun x u e => by rw [upd_ne (ne_of e ha (by intro q; cases q))]; exact e⟩
theorem But.lst {S : Addr → Prop} {H : Hp} {a : Addr} {xs : List V} {o : HO} (ha : H a = some (.lst xs)) (h : S a) : But S H (L2.upd H a o) :=
  ⟨fun x u e n => by rw [upd_ne (fun z => n (by rw [z]; exact h))]; exact e, fun x u e => by rw [upd_ne (ne_of e ha (by intro q; cases q))]; exact e⟩
theorem same_upd {H : Hp} {a : Addr} {o : HO} (h : H a = none) : Same H (L2.upd H a o) := fun x u e => by
  rw [upd_ne (ne_of_none e h)]; exact e
/-- a new address may change -/
theorem But.new {S : Addr → Prop} {H H1 : Hp} {a : Addr} {o : HO} (b : But S H H1) (h : H a = none) : But S H (L2.upd H1 a o) :=
  ⟨fun x u e n => by rw [upd_ne (ne_of_none e h)]; exact b.keep x u e n, fun x u e => by rw [upd_ne (ne_of_none e h)]; exact b.tup x u e⟩
theorem But.same {H H' : Hp} (h : But (fun _ => False) H H') : Same H H' := fun x o e => h.keep x o e id
theorem But.mut {S S' : Addr → Prop} {H H1 H2 : Hp} (b : But S H H1) (c : But S' H1 H2) (m : ∀ a, S' a → S a ∨ H a = none) : But S H H2 :=
  ⟨fun x u e n => c.keep x u (b.keep x u e n) fun z => (m x z).elim n fun q => (by rw [q] at e; cases e), fun x u e => c.tup x u (b.tup x u e)⟩
theorem sz5 {n : Nat} (h : n ≤ 100000) : n ≤ sizeLine := Nat.le_trans h (by rw [sizeLine_eq]; decide)
theorem sz5l {n : Nat} (h : n < 100000) : n < sizeLine := Nat.lt_of_lt_of_le h (by rw [sizeLine_eq]; decide)
/-! ### comprehensions -/
theorem wipe1 {σ : L2.St} {j : Nat} {x : V} : wipe ((wipe σ [j]).set j (some x)) [j] = wipe σ [j] := by
  show ((σ.set j none).set j (some x)).set j none = σ.set j none
  simp
theorem take_snoc {α : Type} : ∀ {l : List α} {i : Nat} {x : α}, l[i]? = some x → l.take (i + 1) = l.take i ++ [x]
  | [], i, x, h => by simp at h
  | a :: l, 0, x, h => by
    have e : a = x := Option.some.inj h
    subst e
    rfl
  | a :: l, i + 1, x, h => by
    have ih := take_snoc (l := l) (i := i) (x := x) h
    show a :: l.take (i + 1) = a :: l.take i ++ [x]
    rw [ih]
    rfl
/-- what a comprehension's walk asks -/
def Lcs (J : It) (g : TG) (tt : TT) (te : TE) (vs : List Nat) (σ : L2.St) (H1 : Hp) (Q : VK) : Prop := ∀ D, H1 D = none → ∃ W : Nat → Nat → Hp → Prop, (∃ m, W 0 m (L2.upd H1 D (.lst []))) ∧ ∀ i m H, W i m H →
  (J.stop i H ∧ Q (.ref D) H) ∨ (J.go i H ∧ ∃ Nx : Hp → Prop, (∀ H', Nx H' → ∃ m', m' < m ∧ W (i + 1) m' H') ∧ ∀ x H', J.yld i H x H' → g x (wipe σ vs) H' fun σ2 H2 => wipe σ2 vs = wipe σ vs ∧ tt σ2 H2 fun b H3 =>
    if b = true then te σ2 H3 fun y H4 => ∃ acc, H4 D = some (.lst acc) ∧ acc.length < sizeLine ∧ Nx (L2.upd H4 D (.lst (acc ++ [y]))) else Nx H3)
theorem r_lcl {K : PySem.W.Frag} {tl te : TE} {g : TG} {tt : TT} {vs : List Nat} {σ : L2.St} {H : Hp} {Q : VK} (h : tl σ H fun x H1 => ∃ a, x = V.ref a ∧ (∃ xs, SqL K H1 a xs) ∧ Lcs (Itl K a) g tt te vs σ H1 Q) : tLc (iList K tl) g tt te vs σ H Q := h
theorem r_lct {K : PySem.W.Frag} {tl te : TE} {g : TG} {tt : TT} {vs : List Nat} {σ : L2.St} {H : Hp} {Q : VK} (h : tl σ H fun x H1 => ∃ a, x = V.ref a ∧ (∃ xs, SqT K H1 a xs) ∧ Lcs (Itt K a) g tt te vs σ H1 Q) : tLc (iTup K tl) g tt te vs σ H Q := h
theorem r_lcr {ta : TA} {te : TE} {g : TG} {tt : TT} {vs : List Nat} {σ : L2.St} {H : Hp} {Q : VK} (h : ta σ H fun us H1 => ∃ j : Int, us = [V.int j] ∧ -(2 ^ 62) ≤ j ∧ j < 2 ^ 62 ∧ Lcs (Itr 0 j.toNat) g tt te vs σ H1 Q) : tLc (iRng1 ta) g tt te vs σ H Q := h
/-- a comprehension whose elements leave what stands: by the list of its values -/
theorem lcp_list {K : PySem.W.Frag} {te : TE} {j : Nat} {σ : L2.St} {H1 : Hp} {Q : VK} {a : Addr} {xs ys : List V} (hs : SqL K H1 a xs) (hl : ys.length = xs.length) (hz : xs.length ≤ 100000)
    (he : ∀ (i : Nat) (x y : V) (H' : Hp) (R : VK), xs[i]? = some x → ys[i]? = some y → Same H1 H' → (∀ H'', Same H' H'' → R y H'') → te ((wipe σ [j]).set j (some x)) H' R)
    (k : ∀ (D : Addr) (H' : Hp), H1 D = none → Same H1 H' → H' D = some (.lst ys) → Q (.ref D) H') : ∃ a', V.ref a = V.ref a' ∧ (∃ xs, SqL K H1 a' xs) ∧ Lcs (Itl K a') (gName j) tYes te [j] σ H1 Q := by
  refine ⟨a, rfl, ⟨xs, hs⟩, fun D hD => ?_⟩
  refine lc_list (K := K) (a := a) (xs := xs) (fun i H' => Same H1 H' ∧ H' D = some (.lst (ys.take i))) ⟨same_upd hD, upd_same⟩ (fun i H' _ p => p.1.seq hs) ?_ ?_
  · rintro i x H' hi ⟨s, e⟩
    have hi2 : i < ys.length := by rw [hl]; exact (List.getElem?_eq_some_iff.mp hi).1
    have ey : ys[i]? = some ys[i] := List.getElem?_eq_getElem hi2
    refine ⟨wipe1, r_yes (r_itT ?_)⟩
    refine he i x _ H' _ hi ey s fun H'' s2 => ⟨_, s2 _ _ e, ?_, ?_, ?_⟩
    · refine sz5l ?_
      rw [List.length_take]
      omega
    · exact fun b o q => by
        rw [upd_ne (ne_of_none q hD)]
        exact s2 _ _ (s _ _ q)
    · rw [upd_same, take_snoc ey]
  · rintro H' ⟨s, e⟩
    refine k D H' hD s ?_
    rw [e, List.take_of_length_le (by omega)]
/-- .. whose elements are told by a relation that leans on tuples alone -/
theorem lcp_rel {K : PySem.W.Frag} {te : TE} {j : Nat} {σ : L2.St} {H1 : Hp} {Q : VK} {a : Addr} {xs : List V} {α : Type} {R : Hp → V → α → Prop} {zs : List α} (hs : SqL K H1 a xs) (hl : zs.length = xs.length) (hz : xs.length ≤ 100000)
    (stab : ∀ H H' v z, R H v z → (∀ b ys, H b = some (.tup ys) → H' b = some (.tup ys)) → R H' v z)
    (he : ∀ (i : Nat) (x : V) (z : α) (H' : Hp) (W : VK), xs[i]? = some x → zs[i]? = some z → Same H1 H' → (∀ y H'', Same H' H'' → R H'' y z → W y H'') → te ((wipe σ [j]).set j (some x)) H' W)
    (k : ∀ (D : Addr) (H' : Hp) (acc : List V), H1 D = none → Same H1 H' → H' D = some (.lst acc) → Paired (R H') acc zs → Q (.ref D) H') : ∃ a', V.ref a = V.ref a' ∧ (∃ xs, SqL K H1 a' xs) ∧ Lcs (Itl K a') (gName j) tYes te [j] σ H1 Q := by
  refine ⟨a, rfl, ⟨xs, hs⟩, fun D hD => ?_⟩
  refine lc_list (K := K) (a := a) (xs := xs) (fun i H' => Same H1 H' ∧ ∃ acc, H' D = some (.lst acc) ∧ Paired (R H') acc (zs.take i)) ⟨same_upd hD, [], upd_same, .nil⟩ (fun i H' _ p => p.1.seq hs) ?_ ?_
  · rintro i x H' hi ⟨s, acc, e, pr⟩
    have hi1 : i < xs.length := (List.getElem?_eq_some_iff.mp hi).1
    have hi2 : i < zs.length := by rw [hl]; exact hi1
    have ez : zs[i]? = some zs[i] := List.getElem?_eq_getElem hi2
    refine ⟨wipe1, r_yes (r_itT ?_)⟩
    refine he i x _ H' _ hi ez s fun y H'' s2 r => ⟨acc, s2 _ _ e, ?_, ?_, acc ++ [y], upd_same, ?_⟩
    · have := pr.length
      rw [List.length_take] at this
      refine sz5l ?_
      omega
    · exact fun b o q => by
        rw [upd_ne (ne_of_none q hD)]
        exact s2 _ _ (s _ _ q)
    · have up : ∀ b ys, H'' b = some (.tup ys) → L2.upd H'' D (.lst (acc ++ [y])) b = some (.tup ys) := fun b ys q => by
        rw [upd_ne (ne_of q (s2 _ _ e) (by intro z; cases z))]
        exact q
      rw [take_snoc ez]
      exact Paired.snoc (Paired.mapP pr fun _ _ q => stab _ _ _ _ q fun b ys w => up b ys (s2 _ _ w)) (stab _ _ _ _ r up)
  · rintro H' ⟨s, acc, e, pr⟩
    rw [List.take_of_length_le (by omega)] at pr
    exact k D H' acc hD s e pr
/-- .. over a range -/
theorem lcp_range {te : TE} {j : Nat} {σ : L2.St} {H1 : Hp} {Q : VK} {n : Int} {ys : List V} (hl : ys.length = n.toNat) (hz : n ≤ 100000) (hn : -100000 ≤ n)
    (he : ∀ (i : Nat) (y : V) (H' : Hp) (R : VK), ys[i]? = some y → Same H1 H' → (∀ H'', Same H' H'' → R y H'') → te ((wipe σ [j]).set j (some (.int (i : Int)))) H' R)
    (k : ∀ (D : Addr) (H' : Hp), H1 D = none → Same H1 H' → H' D = some (.lst ys) → Q (.ref D) H') : ∃ m : Int, [V.int n] = [V.int m] ∧ -(2 ^ 62) ≤ m ∧ m < 2 ^ 62 ∧ Lcs (Itr 0 m.toNat) (gName j) tYes te [j] σ H1 Q := by
  refine ⟨n, rfl, by omega, by omega, fun D hD => ?_⟩
  refine lc_range (lo := 0) (n := n.toNat) (fun i H' => Same H1 H' ∧ H' D = some (.lst (ys.take i))) ⟨same_upd hD, upd_same⟩ ?_ ?_
  · rintro i H' hi ⟨s, e⟩
    have hi2 : i < ys.length := by rw [hl]; exact hi
    have ey : ys[i]? = some ys[i] := List.getElem?_eq_getElem hi2
    refine ⟨wipe1, r_yes (r_itT ?_)⟩
    rw [Int.zero_add]
    refine he i _ H' _ ey s fun H'' s2 => ⟨_, s2 _ _ e, ?_, ?_, ?_⟩
    · refine sz5l ?_
      rw [List.length_take]
      omega
    · exact fun b o q => by
        rw [upd_ne (ne_of_none q hD)]
        exact s2 _ _ (s _ _ q)
    · rw [upd_same, take_snoc ey]
  · rintro H' ⟨s, e⟩
    refine k D H' hD s ?_
    rw [e, List.take_of_length_le (by omega)]
/-! ### what a for's walk asks -/
def Fors (J : It) (g : TG) (tb : TS) (D : Ends) (σ : L2.St) (H1 : Hp) : Prop := ∃ W : Nat → Nat → L2.St → Hp → Prop, (∃ m, W 0 m σ H1) ∧ ∀ i m σ H, W i m σ H →
  (J.stop i H ∧ D.nx σ H) ∨ (J.go i H ∧ ∃ N : L2.St → Hp → Prop, (∀ σ' H', N σ' H' → ∃ m', m' < m ∧ W (i + 1) m' σ' H') ∧ ∀ x H', J.yld i H x H' → g x σ H' fun σ2 H2 => tb { D with nx := N, ct := N, bk := D.nx } σ2 H2)
theorem r_forl {K : PySem.W.Frag} {tl : TE} {g : TG} {tb : TS} {D : Ends} {σ : L2.St} {H : Hp} (h : tl σ H fun x H1 => ∃ a, x = V.ref a ∧ (∃ xs, SqL K H1 a xs) ∧ Fors (Itl K a) g tb D σ H1) : tFor (iList K tl) g tb D σ H := h
theorem r_fort {K : PySem.W.Frag} {tl : TE} {g : TG} {tb : TS} {D : Ends} {σ : L2.St} {H : Hp} (h : tl σ H fun x H1 => ∃ a, x = V.ref a ∧ (∃ xs, SqT K H1 a xs) ∧ Fors (Itt K a) g tb D σ H1) : tFor (iTup K tl) g tb D σ H := h
theorem r_fors {te : TE} {g : TG} {tb : TS} {D : Ends} {σ : L2.St} {H : Hp} (h : te σ H fun v H1 => ∃ x, v = V.str x ∧ Fors (Its x) g tb D σ H1) : tFor (iStr te) g tb D σ H := h
theorem r_forr {ta : TA} {g : TG} {tb : TS} {D : Ends} {σ : L2.St} {H : Hp} (h : ta σ H fun us H1 => ∃ j : Int, us = [V.int j] ∧ -(2 ^ 62) ≤ j ∧ j < 2 ^ 62 ∧ Fors (Itr 0 j.toNat) g tb D σ H1) : tFor (iRng1 ta) g tb D σ H := h
theorem r_forr2 {ta : TA} {g : TG} {tb : TS} {D : Ends} {σ : L2.St} {H : Hp} (h : ta σ H fun us H1 => ∃ i j : Int, us = [V.int i, V.int j] ∧ (-(2 ^ 62) ≤ i ∧ i < 2 ^ 62 ∧ -(2 ^ 62) ≤ j ∧ j < 2 ^ 62) ∧ Fors (Itr i (j - i).toNat) g tb D σ H1) : tFor (iRng2 ta) g tb D σ H := h
theorem pf_m {a b : Str} {v u : V} {r s : List (Str × V)} (h : ¬ b = a) (e : putF a v r = s) : putF a v ((b, u) :: r) = (b, u) :: s := by
  rw [pf_miss h, e]
theorem lk_m {a b : Str} {v u : V} {r : List (Str × V)} (h : ¬ a = b) (e : List.lookup a r = some u) : List.lookup a ((b, v) :: r) = some u := (lk_miss h).trans e
theorem lk_n {a b : Str} {v : V} {r : List (Str × V)} (h : ¬ a = b) (e : List.lookup a r = none) : List.lookup a ((b, v) :: r) = none := (lk_miss h).trans e
/-! ### the data of the program -/
structure Ln where
  item : Str
  ordered : Int
  cents : Int
  pack : Int
  sent : Int
  home : Int
  again : Int
  credited : Int
def lnF (l : Ln) : List (Str × V) := [("item", .str l.item), ("ordered", .int l.ordered), ("cents", .int l.cents), ("pack", .int l.pack), ("sent", .int l.sent), ("home", .int l.home), ("again", .int l.again), ("credited", .int l.credited)]
def odF (ll : Addr) (m : Int) (lm : Addr) : List (Str × V) := [("lines", .ref ll), ("money", .int m), ("marks", .ref lm)]
def bkF (e t : Addr) : List (Str × V) := [("each", .ref e), ("trail", .ref t)]
/-! ### a method that may raise, called in a try -/
def tMX (C : Addr) (m : Str) (sp : Sp) (E : L2.St → XK) (ta : TE) (t : TA) : TE := fun σ H Q => ta σ H fun x H1 => ∃ a dx fs, x = V.ref a ∧ H1 a = some (.ins C dx fs) ∧ fs.lookup m = none ∧ t σ H1 fun vs H2 => sp (x :: vs) H2 Q (E σ)
theorem pe_mX {X : Cx} {CX : CXT} {k : Nat} {f C : Addr} {fd : FuncData} {ps : List Str} {sp : Sp} {E : L2.St → XK} {m : Str} {pos apos : Pos} {e o : Expr} {es : List Expr} {ta : TE} {t : TA} {pl : Sem Bool}
    (ho : PE X o ta) (hc : Cls X.K C) (hm : Meth X.K C m f) (G : FnOk X.prog X.w X.K X.mg X.base CX k f fd ps sp) (room : Room k X.A) (bd : Binds X.K fd ps []) (pass : ∀ σ, PassesAt CX X σ (E σ)) (hargs : PA X (e :: es) t)
    (hstar : starEach (e :: es) X.env = (false, eval e X.env) :: starEach es X.env := by rfl) (hplain : (backTo pos (starEach es X.env)).any (·.1) = false := by rfl)
    (hform : eval (.Call (.Attribute o m apos) (e :: es) [] pos) X.env = (do let ov ← eval o X.env; standAt apos.atName; let (f, first) ← holding [ov] (getMethod ov m pl); callWith pos f first (backTo pos (starEach (e :: es) X.env)) (backToKw pos (keywordEach [] X.env))) := by rfl) :
    PE X (.Call (.Attribute o m apos) (e :: es) [] pos) (tMX C m sp E ta t) := by
  refine ⟨fun pins st σ H Q inv hq => ?_⟩
  refine PySem.W.methodCall_KW (pl := pl) (thn (ho.run pins st σ H _ inv hq) fun u st1 hu => ?_) hform
  obtain ⟨x, H1, inv1, rx, a, dx, fs, ex, ea, hl, q⟩ := hu
  subst ex
  obtain rfl : u = Value.ref a := rx
  refine getmeth_ok inv1 ea hc hm hl ?_
  refine PySem.W.callWith_K (first := [.ref a]) (h₀ := X.base) inv1.ok.mod.kin hm.kp (thn (hargs.run pos pins st1 σ H1 _ inv1 q) fun us st2 hv => ?_) hstar hplain
  obtain ⟨vs, H2, inv2, rv, q2⟩ := hv
  exact ⟨inv2.kIn, run_fnS (us := .ref a :: us) (vs := .ref a :: vs) G room bd (pass σ) inv2 (.cons rfl rv) q2⟩
theorem pe_mX0 {X : Cx} {CX : CXT} {k : Nat} {f C : Addr} {fd : FuncData} {ps : List Str} {sp : Sp} {E : L2.St → XK} {m : Str} {pos apos : Pos} {o : Expr} {ta : TE} {pl : Sem Bool}
    (ho : PE X o ta) (hc : Cls X.K C) (hm : Meth X.K C m f) (G : FnOk X.prog X.w X.K X.mg X.base CX k f fd ps sp) (room : Room k X.A) (bd : Binds X.K fd ps []) (pass : ∀ σ, PassesAt CX X σ (E σ))
    (hform : eval (.Call (.Attribute o m apos) [] [] pos) X.env = (do let ov ← eval o X.env; standAt apos.atName; let (f, first) ← holding [ov] (getMethod ov m pl); callWith pos f first (backTo pos (starEach [] X.env)) (backToKw pos (keywordEach [] X.env))) := by rfl) :
    PE X (.Call (.Attribute o m apos) [] [] pos) (tMX C m sp E ta tNil) := by
  refine ⟨fun pins st σ H Q inv hq => ?_⟩
  refine PySem.W.methodCall_KW (pl := pl) (thn (ho.run pins st σ H _ inv hq) fun u st1 hu => ?_) hform
  obtain ⟨x, H1, inv1, rx, a, dx, fs, ex, ea, hl, q⟩ := hu
  subst ex
  obtain rfl : u = Value.ref a := rx
  refine getmeth_ok inv1 ea hc hm hl ?_
  exact PySem.W.callWith_K0 (first := [.ref a]) inv1.kIn hm.kp (run_fnS (us := [.ref a]) (vs := [.ref a]) G room bd (pass σ) inv1 (.cons rfl .nil) q)
section
variable {σ : L2.St} {H : Hp} {Q : VK} {QB : Bool → Hp → Prop} {D : Ends} {K : PySem.W.Frag}
theorem r_mx {C : Addr} {m : Str} {sp : Sp} {E : L2.St → XK} {ta : TE} {t : TA} (h : ta σ H fun x H1 => ∃ a dx fs, x = V.ref a ∧ H1 a = some (.ins C dx fs) ∧ fs.lookup m = none ∧ t σ H1 fun vs H2 => sp (x :: vs) H2 Q (E σ)) : tMX C m sp E ta t σ H Q := h
/-! ### slices, stores, kinds -/
theorem r_sl {r : V → Option Int → Option Int → Hp → VK → Prop} {te : TE} {tl th : TO} (h : te σ H fun x H1 => tl σ H1 fun l H2 => th σ H2 fun u H3 => r x l u H3 Q) : tSl r te tl th σ H Q := h
theorem r_part {te : TE} {QO : Option Int → Hp → Prop} (h : te σ H fun x H1 => ∃ i, x = V.int i ∧ QO (some i) H1) : tPart te σ H QO := h
theorem r_nopart {QO : Option Int → Hp → Prop} (h : QO none H) : tNoPart σ H QO := h
theorem r_exi {i : Int} {P : Int → Prop} (h : P i) : ∃ j, V.int i = V.int j ∧ P j := ⟨i, rfl, h⟩
theorem r_sll {a : Addr} {xs : List V} {lo hi : Option Int} (hs : SqL K H a xs) (k : ∀ p, H p = none → Q (.ref p) (upd H p (.lst (cutV xs lo hi)))) : rSlL K (.ref a) lo hi H Q := ⟨a, xs, rfl, hs, k⟩
theorem r_asgS {te to ti : TE} (h : te σ H fun x H1 => to σ H1 fun o H2 => ti σ H2 fun i H3 => rSetL o i x H3 fun H4 => D.nx σ H4) : tAsg te (gSub to ti rSetL) D σ H := h
theorem r_setL {p : Addr} {xs : List V} {i : Int} {j : Nat} {v : V} {R : Hp → Prop} (h : H p = some (.lst xs)) (e : i = (j : Int)) (hj : j < xs.length) (q : R (upd H p (.lst (xs.set j v)))) : rSetL (.ref p) (.int i) v H R :=
  ⟨p, xs, i, j, rfl, rfl, h, by unfold ixN; rw [e, if_pos (by omega), if_pos (by omega)]; simp, q⟩
theorem r_isi {x : V} {t : Value} {n : String} {b : Bool} (ty : TyOf K H x t) (hk : PySem.W.kitOne K t (.type n) = some b) (q : Q (.bl b) H) : rIsi K [x, .ty n] H Q := ⟨x, .ty n, t, .type n, b, rfl, .ty n, .base ty, hk, q⟩
theorem r_is_int_int {i : Int} (q : Q (.bl true) H) : rIsi K [.int i, .ty "int"] H Q := r_isi (.int i) (kit_ty (by decide +kernel)) q
theorem r_is_int_bool {i : Int} (q : Q (.bl false) H) : rIsi K [.int i, .ty "bool"] H Q := r_isi (.int i) (kit_ty (by decide +kernel)) q
theorem r_is_int_str {i : Int} (q : Q (.bl false) H) : rIsi K [.int i, .ty "str"] H Q := r_isi (.int i) (kit_ty (by decide +kernel)) q
theorem r_is_str_str {i : Str} (q : Q (.bl true) H) : rIsi K [.str i, .ty "str"] H Q := r_isi (.str i) (kit_ty (by decide +kernel)) q
theorem r_is_str_int {i : Str} (q : Q (.bl false) H) : rIsi K [.str i, .ty "int"] H Q := r_isi (.str i) (kit_ty (by decide +kernel)) q
theorem r_is_str_list {i : Str} (q : Q (.bl false) H) : rIsi K [.str i, .ty "list"] H Q := r_isi (.str i) (kit_ty (by decide +kernel)) q
theorem r_is_lst_list {a : Addr} {xs : List V} (h : H a = some (.lst xs)) (q : Q (.bl true) H) : rIsi K [.ref a, .ty "list"] H Q := r_isi (.lst h) (kit_ty (by decide +kernel)) q
theorem r_is_lst_str {a : Addr} {xs : List V} (h : H a = some (.lst xs)) (q : Q (.bl false) H) : rIsi K [.ref a, .ty "str"] H Q := r_isi (.lst h) (kit_ty (by decide +kernel)) q
theorem r_is_tup_tuple {a : Addr} {xs : List V} (h : H a = some (.tup xs)) (q : Q (.bl true) H) : rIsi K [.ref a, .ty "tuple"] H Q := r_isi (.tup h) (kit_ty (by decide +kernel)) q
end
theorem cut_from {xs : List V} {k : Nat} : cutV xs (some (k : Int)) none = xs.drop k := by
  unfold cutV
  rw [HT.sIx_nat, HT.sIx_none]
  by_cases h : k ≤ xs.length
  · rw [Nat.min_eq_left h, List.take_of_length_le (by simp)]
  · rw [Nat.min_eq_right (by omega), List.drop_of_length_le (Nat.le_refl _), List.drop_of_length_le (by omega)]
    simp

/-! ### readings with the kernel's own name (in a comprehension's block) -/
section
variable {X : Cx} {K : PySem.W.Frag}
theorem ix_listK (e : X.K = K) : IxR X (rIxL K) := by subst e; exact ix_list
theorem ix_tupK (e : X.K = K) : IxR X (rIxT K) := by subst e; exact ix_tup
theorem op_eqDK (e : X.K = K) (hu : X.A.units + 64 < cLine) : OpR X (compareOp .Eq) (rEqD K) := by subst e; exact op_eqD hu
theorem op_neDK (e : X.K = K) (hu : X.A.units + 64 < cLine) : OpR X (compareOp .NotEq) (rNeD K) := by subst e; exact op_neD hu
theorem call_lenK (e : X.K = K) : CallR X (.builtin "len") (fun xs H Q => ∃ p ys, xs = [.ref p] ∧ (SqL K H p ys ∨ SqT K H p ys) ∧ Q (.int ys.length) H) := by subst e; exact call_len_seq
theorem call_listK (e : X.K = K) : CallR X (.type "list") (fun xs H Q => ∃ p ys, xs = [.ref p] ∧ (SqL K H p ys ∨ SqT K H p ys) ∧ ∀ l, H l = none → Q (.ref l) (upd H l (.lst ys))) := by subst e; exact call_list_of
theorem fldK {E : Expr} {ta : TE} {f : Str} (e : X.K = K) (h : PE X E (tFld X.K ta f)) : PE X E (tFld K ta f) := by subst e; exact h
theorem bmK {E : Expr} {T : String} {r : V → List V → Hp → VK → Prop} {to : TE} {t : TA} (e : X.K = K) (h : PE X E (tBM X.K T r to t)) : PE X E (tBM K T r to t) := by subst e; exact h
end
/-! ### data that is compared -/
def dOf : V → PyData
  | .non => .none
  | .bl b => .bool b
  | .int i => .int i
  | .str z => .str z
  | _ => .none
/-- an int, or a text -/
def Sc (v : V) : Prop := (∃ i, v = .int i) ∨ ∃ z, v = .str z ∧ PyData.strOk z = true
theorem Sc.int {i : Int} : Sc (.int i) := .inl ⟨i, rfl⟩
theorem Sc.dp {K : PySem.W.Frag} {H : Hp} {v : V} (h : Sc v) : Dp K H v (dOf v) := by
  rcases h with ⟨i, rfl⟩ | ⟨z, rfl, _⟩
  · exact .int i
  · exact .str z
theorem Sc.lay {v : V} (h : Sc v) : PyData.canLay0 (dOf v) = true ∧ PyData.depth (dOf v) = 0 := by
  rcases h with ⟨i, rfl⟩ | ⟨z, rfl, hz⟩
  · exact ⟨by simp only [dOf, PyData.canLay0], by simp only [dOf, PyData.depth]⟩
  · exact ⟨by simp only [dOf, PyData.canLay0]; exact hz, by simp only [dOf, PyData.depth]⟩
theorem Sc.eqv {v u : V} (h : Sc v) (g : Sc u) : PyData.eqv (dOf v) (dOf u) = decide (v = u) := by
  rcases h with ⟨i, rfl⟩ | ⟨z, rfl, _⟩ <;> rcases g with ⟨j, rfl⟩ | ⟨y, rfl, _⟩
  · simp [dOf, PyData.eqv, Bool.beq_eq_decide_eq]
  · simp [dOf, PyData.eqv]
  · simp [dOf, PyData.eqv]
  · simp [dOf, PyData.eqv, Bool.beq_eq_decide_eq]
def Scs (vs : List V) : Prop := ∀ v, v ∈ vs → Sc v
theorem Scs.nil : Scs [] := fun _ h => by cases h
theorem Scs.cons {v : V} {vs : List V} (h : Sc v) (g : Scs vs) : Scs (v :: vs) := fun u hu => by
  rcases List.mem_cons.mp hu with e | e
  · rw [e]; exact h
  · exact g u e
theorem Scs.dp {K : PySem.W.Frag} {H : Hp} : ∀ {vs : List V}, Scs vs → DpAll K H vs (vs.map dOf)
  | [], _ => .nil
  | v :: vs, h => .cons (h v List.mem_cons_self).dp (Scs.dp fun u hu => h u (List.mem_cons_of_mem _ hu))
theorem Scs.lay : ∀ {vs : List V}, Scs vs → PyData.canLayAll0 (vs.map dOf) = true ∧ PyData.depthAll (vs.map dOf) = 0
  | [], _ => ⟨by simp only [List.map_nil, PyData.canLayAll0], by simp only [List.map_nil, PyData.depthAll]⟩
  | v :: vs, h => by
    obtain ⟨a, b⟩ := (h v List.mem_cons_self).lay
    obtain ⟨c, d⟩ := Scs.lay (vs := vs) fun u hu => h u (List.mem_cons_of_mem _ hu)
    refine ⟨?_, ?_⟩
    · simp only [List.map_cons, PyData.canLayAll0, a, c, Bool.and_self]
    · simp only [List.map_cons, PyData.depthAll, b, d]; rfl
theorem Scs.eqv : ∀ {vs us : List V}, Scs vs → Scs us → PyData.eqvAll (vs.map dOf) (us.map dOf) = decide (vs = us)
  | [], [], _, _ => by simp [PyData.eqvAll]
  | [], u :: us, _, _ => by simp [PyData.eqvAll]
  | v :: vs, [], _, _ => by simp [PyData.eqvAll]
  | v :: vs, u :: us, h, g => by
    have ih := Scs.eqv (vs := vs) (us := us) (fun u hu => h u (List.mem_cons_of_mem _ hu)) fun u hu => g u (List.mem_cons_of_mem _ hu)
    simp only [List.map_cons, PyData.eqvAll, ih, (h v List.mem_cons_self).eqv (g u List.mem_cons_self)]
    simp
/-- a tuple of such -/
def dTup (r : List V) : PyData := .tuple (r.map dOf)
theorem dTup_dp {K : PySem.W.Frag} {H : Hp} {a : Addr} {r : List V} (h : SqT K H a r) (s : Scs r) : Dp K H (.ref a) (dTup r) := .tup h s.dp
theorem dTup_lay {r : List V} (s : Scs r) : PyData.canLay0 (dTup r) = true ∧ PyData.depth (dTup r) = 1 := by
  obtain ⟨a, b⟩ := s.lay
  exact ⟨by simp only [dTup, PyData.canLay0]; exact a, by simp only [dTup, PyData.depth, b]⟩
theorem dTup_shaped {r : List V} (s : Scs r) : SeqAt.shaped (dTup r) = true := by
  obtain ⟨a, b⟩ := dTup_lay s
  unfold SeqAt.shaped
  rw [a, b]
  rfl
theorem dTup_eqv {r q : List V} (s : Scs r) (t : Scs q) : PyData.eqv (dTup r) (dTup q) = decide (r = q) := by
  show PyData.eqv (.tuple _) (.tuple _) = _
  simp only [PyData.eqv]
  exact s.eqv t
/-- a list of such tuples -/
def dRows (rs : List (List V)) : PyData := .list (rs.map dTup)
def TupAt (H : Hp) (v : V) (r : List V) : Prop := ∃ t, v = .ref t ∧ H t = some (.tup r)
def Rws (rs : List (List V)) : Prop := ∀ r, r ∈ rs → Scs r
theorem dRows_all {K : PySem.W.Frag} {H : Hp} : ∀ {xs : List V} {rs : List (List V)}, Paired (TupAt H) xs rs → Rws rs → DpAll K H xs (rs.map dTup)
  | _, _, .nil, _ => .nil
  | _, _, .cons ⟨t, e, h⟩ r, s => by
    subst e
    exact .cons (dTup_dp (SqT.of h) (s _ List.mem_cons_self)) (dRows_all r fun q hq => s q (List.mem_cons_of_mem _ hq))
theorem dRows_dp {K : PySem.W.Frag} {H : Hp} {a : Addr} {xs : List V} {rs : List (List V)} (h : SqL K H a xs) (p : Paired (TupAt H) xs rs) (s : Rws rs) : Dp K H (.ref a) (dRows rs) := .lst h (dRows_all p s)
theorem dRows_lay0 : ∀ {rs : List (List V)}, Rws rs → PyData.canLayAll0 (rs.map dTup) = true ∧ PyData.depthAll (rs.map dTup) ≤ 1
  | [], _ => ⟨by simp only [List.map_nil, PyData.canLayAll0], by simp only [List.map_nil, PyData.depthAll]; omega⟩
  | r :: rs, h => by
    obtain ⟨a, b⟩ := dTup_lay (h r List.mem_cons_self)
    obtain ⟨c, d⟩ := dRows_lay0 (rs := rs) fun u hu => h u (List.mem_cons_of_mem _ hu)
    refine ⟨?_, ?_⟩
    · simp only [List.map_cons, PyData.canLayAll0, a, c, Bool.and_self]
    · simp only [List.map_cons, PyData.depthAll, b]; omega
theorem dRows_lay {rs : List (List V)} (s : Rws rs) : PyData.canLay0 (dRows rs) = true ∧ PyData.depth (dRows rs) ≤ 2 := by
  obtain ⟨a, b⟩ := dRows_lay0 s
  exact ⟨by simp only [dRows, PyData.canLay0]; exact a, by simp only [dRows, PyData.depth]; omega⟩
theorem dRows_shaped {rs : List (List V)} (s : Rws rs) : SeqAt.shaped (dRows rs) = true := by
  obtain ⟨a, b⟩ := dRows_lay s
  unfold SeqAt.shaped
  rw [a, decide_eq_true (by omega)]
  rfl
theorem dRows_eqv0 : ∀ {rs qs : List (List V)}, Rws rs → Rws qs → PyData.eqvAll (rs.map dTup) (qs.map dTup) = decide (rs = qs)
  | [], [], _, _ => by simp [PyData.eqvAll]
  | [], u :: us, _, _ => by simp [PyData.eqvAll]
  | v :: vs, [], _, _ => by simp [PyData.eqvAll]
  | v :: vs, u :: us, h, g => by
    have ih := dRows_eqv0 (rs := vs) (qs := us) (fun u hu => h u (List.mem_cons_of_mem _ hu)) fun u hu => g u (List.mem_cons_of_mem _ hu)
    simp only [List.map_cons, PyData.eqvAll, ih, dTup_eqv (h v List.mem_cons_self) (g u List.mem_cons_self)]
    simp
theorem dRows_eqv {rs qs : List (List V)} (s : Rws rs) (t : Rws qs) : PyData.eqv (dRows rs) (dRows qs) = decide (rs = qs) := by
  show PyData.eqv (.list _) (.list _) = _
  simp only [PyData.eqv]
  exact dRows_eqv0 s t
section
variable {H : Hp} {Q : VK} {K : PySem.W.Frag}
theorem r_neTT {a b : Addr} {r q : List V} (h : SqT K H a r) (g : SqT K H b q) (s : Scs r) (t : Scs q) (k : Q (.bl (!decide (r = q))) H) : rNeD K (.ref a) (.ref b) H Q :=
  ⟨_, _, dTup_dp h s, dTup_dp g t, dTup_shaped s, dTup_shaped t, by rw [dTup_eqv s t]; exact k⟩
theorem r_eqTT {a b : Addr} {r q : List V} (h : SqT K H a r) (g : SqT K H b q) (s : Scs r) (t : Scs q) (k : Q (.bl (decide (r = q))) H) : rEqD K (.ref a) (.ref b) H Q :=
  ⟨_, _, dTup_dp h s, dTup_dp g t, dTup_shaped s, dTup_shaped t, by rw [dTup_eqv s t]; exact k⟩
theorem r_neRR {a b : Addr} {xs ys : List V} {r q : List (List V)} (h : SqL K H a xs) (g : SqL K H b ys) (ph : Paired (TupAt H) xs r) (pg : Paired (TupAt H) ys q) (s : Rws r) (t : Rws q) (k : Q (.bl (!decide (r = q))) H) : rNeD K (.ref a) (.ref b) H Q :=
  ⟨_, _, dRows_dp h ph s, dRows_dp g pg t, dRows_shaped s, dRows_shaped t, by rw [dRows_eqv s t]; exact k⟩
theorem r_eqRR {a b : Addr} {xs ys : List V} {r q : List (List V)} (h : SqL K H a xs) (g : SqL K H b ys) (ph : Paired (TupAt H) xs r) (pg : Paired (TupAt H) ys q) (s : Rws r) (t : Rws q) (k : Q (.bl (decide (r = q))) H) : rEqD K (.ref a) (.ref b) H Q :=
  ⟨_, _, dRows_dp h ph s, dRows_dp g pg t, dRows_shaped s, dRows_shaped t, by rw [dRows_eqv s t]; exact k⟩
theorem sc_shaped {v : V} (s : Sc v) : SeqAt.shaped (dOf v) = true := by
  obtain ⟨a, b⟩ := s.lay
  unfold SeqAt.shaped
  rw [a, b]
  rfl
theorem r_neSS {x y : V} (s : Sc x) (t : Sc y) (k : Q (.bl (!decide (x = y))) H) : rNeD K x y H Q := ⟨_, _, s.dp, t.dp, sc_shaped s, sc_shaped t, by rw [s.eqv t]; exact k⟩
theorem r_eqSS {x y : V} (s : Sc x) (t : Sc y) (k : Q (.bl (decide (x = y))) H) : rEqD K x y H Q := ⟨_, _, s.dp, t.dp, sc_shaped s, sc_shaped t, by rw [s.eqv t]; exact k⟩
theorem r_neRS {a : Addr} {xs : List V} {r : List (List V)} {y : V} (h : SqL K H a xs) (ph : Paired (TupAt H) xs r) (s : Rws r) (t : Sc y) (k : Q (.bl true) H) : rNeD K (.ref a) y H Q :=
  ⟨_, _, dRows_dp h ph s, t.dp, dRows_shaped s, sc_shaped t, by
    have e : PyData.eqv (dRows r) (dOf y) = false := by
      rcases t with ⟨i, rfl⟩ | ⟨z, rfl, _⟩ <;> simp [dRows, dOf, PyData.eqv]
    rw [e]; exact k⟩
end
theorem lk_Line_item (l : Ln) : List.lookup ("item" : Str) (lnF l) = some (.str l.item) := by
  unfold lnF
  exact lk_hit
theorem lk_Line_ordered (l : Ln) : List.lookup ("ordered" : Str) (lnF l) = some (.int l.ordered) := by
  unfold lnF
  exact lk_m (by decide +kernel) (lk_hit)
theorem pt_Line_ordered (l : Ln) (z : Int) : putF "ordered" (.int z) (lnF l) = lnF { l with ordered := z } := by
  unfold lnF
  exact pf_m (by decide +kernel) (pf_hit)
theorem lk_Line_cents (l : Ln) : List.lookup ("cents" : Str) (lnF l) = some (.int l.cents) := by
  unfold lnF
  exact lk_m (by decide +kernel) (lk_m (by decide +kernel) (lk_hit))
theorem pt_Line_cents (l : Ln) (z : Int) : putF "cents" (.int z) (lnF l) = lnF { l with cents := z } := by
  unfold lnF
  exact pf_m (by decide +kernel) (pf_m (by decide +kernel) (pf_hit))
theorem lk_Line_pack (l : Ln) : List.lookup ("pack" : Str) (lnF l) = some (.int l.pack) := by
  unfold lnF
  exact lk_m (by decide +kernel) (lk_m (by decide +kernel) (lk_m (by decide +kernel) (lk_hit)))
theorem pt_Line_pack (l : Ln) (z : Int) : putF "pack" (.int z) (lnF l) = lnF { l with pack := z } := by
  unfold lnF
  exact pf_m (by decide +kernel) (pf_m (by decide +kernel) (pf_m (by decide +kernel) (pf_hit)))
theorem lk_Line_sent (l : Ln) : List.lookup ("sent" : Str) (lnF l) = some (.int l.sent) := by
  unfold lnF
  exact lk_m (by decide +kernel) (lk_m (by decide +kernel) (lk_m (by decide +kernel) (lk_m (by decide +kernel) (lk_hit))))
theorem pt_Line_sent (l : Ln) (z : Int) : putF "sent" (.int z) (lnF l) = lnF { l with sent := z } := by
  unfold lnF
  exact pf_m (by decide +kernel) (pf_m (by decide +kernel) (pf_m (by decide +kernel) (pf_m (by decide +kernel) (pf_hit))))
theorem lk_Line_home (l : Ln) : List.lookup ("home" : Str) (lnF l) = some (.int l.home) := by
  unfold lnF
  exact lk_m (by decide +kernel) (lk_m (by decide +kernel) (lk_m (by decide +kernel) (lk_m (by decide +kernel) (lk_m (by decide +kernel) (lk_hit)))))
theorem pt_Line_home (l : Ln) (z : Int) : putF "home" (.int z) (lnF l) = lnF { l with home := z } := by
  unfold lnF
  exact pf_m (by decide +kernel) (pf_m (by decide +kernel) (pf_m (by decide +kernel) (pf_m (by decide +kernel) (pf_m (by decide +kernel) (pf_hit)))))
theorem lk_Line_again (l : Ln) : List.lookup ("again" : Str) (lnF l) = some (.int l.again) := by
  unfold lnF
  exact lk_m (by decide +kernel) (lk_m (by decide +kernel) (lk_m (by decide +kernel) (lk_m (by decide +kernel) (lk_m (by decide +kernel) (lk_m (by decide +kernel) (lk_hit))))))
theorem pt_Line_again (l : Ln) (z : Int) : putF "again" (.int z) (lnF l) = lnF { l with again := z } := by
  unfold lnF
  exact pf_m (by decide +kernel) (pf_m (by decide +kernel) (pf_m (by decide +kernel) (pf_m (by decide +kernel) (pf_m (by decide +kernel) (pf_m (by decide +kernel) (pf_hit))))))
theorem lk_Line_credited (l : Ln) : List.lookup ("credited" : Str) (lnF l) = some (.int l.credited) := by
  unfold lnF
  exact lk_m (by decide +kernel) (lk_m (by decide +kernel) (lk_m (by decide +kernel) (lk_m (by decide +kernel) (lk_m (by decide +kernel) (lk_m (by decide +kernel) (lk_m (by decide +kernel) (lk_hit)))))))
theorem pt_Line_credited (l : Ln) (z : Int) : putF "credited" (.int z) (lnF l) = lnF { l with credited := z } := by
  unfold lnF
  exact pf_m (by decide +kernel) (pf_m (by decide +kernel) (pf_m (by decide +kernel) (pf_m (by decide +kernel) (pf_m (by decide +kernel) (pf_m (by decide +kernel) (pf_m (by decide +kernel) (pf_hit)))))))
theorem no_Line_kept (l : Ln) : List.lookup ("kept" : Str) (lnF l) = none := by
  unfold lnF
  exact lk_n (by decide +kernel) (lk_n (by decide +kernel) (lk_n (by decide +kernel) (lk_n (by decide +kernel) (lk_n (by decide +kernel) (lk_n (by decide +kernel) (lk_n (by decide +kernel) (lk_n (by decide +kernel) (rfl))))))))
theorem no_Line_to_come (l : Ln) : List.lookup ("to_come" : Str) (lnF l) = none := by
  unfold lnF
  exact lk_n (by decide +kernel) (lk_n (by decide +kernel) (lk_n (by decide +kernel) (lk_n (by decide +kernel) (lk_n (by decide +kernel) (lk_n (by decide +kernel) (lk_n (by decide +kernel) (lk_n (by decide +kernel) (rfl))))))))
theorem no_Line_kept_worth (l : Ln) : List.lookup ("kept_worth" : Str) (lnF l) = none := by
  unfold lnF
  exact lk_n (by decide +kernel) (lk_n (by decide +kernel) (lk_n (by decide +kernel) (lk_n (by decide +kernel) (lk_n (by decide +kernel) (lk_n (by decide +kernel) (lk_n (by decide +kernel) (lk_n (by decide +kernel) (rfl))))))))
theorem no_Line_charge (l : Ln) : List.lookup ("charge" : Str) (lnF l) = none := by
  unfold lnF
  exact lk_n (by decide +kernel) (lk_n (by decide +kernel) (lk_n (by decide +kernel) (lk_n (by decide +kernel) (lk_n (by decide +kernel) (lk_n (by decide +kernel) (lk_n (by decide +kernel) (lk_n (by decide +kernel) (rfl))))))))
theorem no_Line_deliver (l : Ln) : List.lookup ("deliver" : Str) (lnF l) = none := by
  unfold lnF
  exact lk_n (by decide +kernel) (lk_n (by decide +kernel) (lk_n (by decide +kernel) (lk_n (by decide +kernel) (lk_n (by decide +kernel) (lk_n (by decide +kernel) (lk_n (by decide +kernel) (lk_n (by decide +kernel) (rfl))))))))
theorem no_Line_bring (l : Ln) : List.lookup ("bring" : Str) (lnF l) = none := by
  unfold lnF
  exact lk_n (by decide +kernel) (lk_n (by decide +kernel) (lk_n (by decide +kernel) (lk_n (by decide +kernel) (lk_n (by decide +kernel) (lk_n (by decide +kernel) (lk_n (by decide +kernel) (lk_n (by decide +kernel) (rfl))))))))
theorem no_Line_reduce (l : Ln) : List.lookup ("reduce" : Str) (lnF l) = none := by
  unfold lnF
  exact lk_n (by decide +kernel) (lk_n (by decide +kernel) (lk_n (by decide +kernel) (lk_n (by decide +kernel) (lk_n (by decide +kernel) (lk_n (by decide +kernel) (lk_n (by decide +kernel) (lk_n (by decide +kernel) (rfl))))))))
theorem no_Line_numbers (l : Ln) : List.lookup ("numbers" : Str) (lnF l) = none := by
  unfold lnF
  exact lk_n (by decide +kernel) (lk_n (by decide +kernel) (lk_n (by decide +kernel) (lk_n (by decide +kernel) (lk_n (by decide +kernel) (lk_n (by decide +kernel) (lk_n (by decide +kernel) (lk_n (by decide +kernel) (rfl))))))))
theorem lk_Order_lines (ll : Addr) (m : Int) (lm : Addr) : List.lookup ("lines" : Str) (odF ll m lm) = some (.ref ll) := by
  unfold odF
  exact lk_hit
theorem pt_Order_lines (ll : Addr) (m : Int) (lm : Addr) (z : Addr) : putF "lines" (.ref z) (odF ll m lm) = odF z m lm := by
  unfold odF
  exact pf_hit
theorem lk_Order_money (ll : Addr) (m : Int) (lm : Addr) : List.lookup ("money" : Str) (odF ll m lm) = some (.int m) := by
  unfold odF
  exact lk_m (by decide +kernel) (lk_hit)
theorem pt_Order_money (ll : Addr) (m : Int) (lm : Addr) (z : Int) : putF "money" (.int z) (odF ll m lm) = odF ll z lm := by
  unfold odF
  exact pf_m (by decide +kernel) (pf_hit)
theorem lk_Order_marks (ll : Addr) (m : Int) (lm : Addr) : List.lookup ("marks" : Str) (odF ll m lm) = some (.ref lm) := by
  unfold odF
  exact lk_m (by decide +kernel) (lk_m (by decide +kernel) (lk_hit))
theorem pt_Order_marks (ll : Addr) (m : Int) (lm : Addr) (z : Addr) : putF "marks" (.ref z) (odF ll m lm) = odF ll m z := by
  unfold odF
  exact pf_m (by decide +kernel) (pf_m (by decide +kernel) (pf_hit))
theorem no_Order_owing (ll : Addr) (m : Int) (lm : Addr) : List.lookup ("owing" : Str) (odF ll m lm) = none := by
  unfold odF
  exact lk_n (by decide +kernel) (lk_n (by decide +kernel) (lk_n (by decide +kernel) (rfl)))
theorem no_Order_line_of (ll : Addr) (m : Int) (lm : Addr) : List.lookup ("line_of" : Str) (odF ll m lm) = none := by
  unfold odF
  exact lk_n (by decide +kernel) (lk_n (by decide +kernel) (lk_n (by decide +kernel) (rfl)))
theorem no_Order_need_over (ll : Addr) (m : Int) (lm : Addr) : List.lookup ("need_over" : Str) (odF ll m lm) = none := by
  unfold odF
  exact lk_n (by decide +kernel) (lk_n (by decide +kernel) (lk_n (by decide +kernel) (rfl)))
theorem no_Order_turn_line (ll : Addr) (m : Int) (lm : Addr) : List.lookup ("turn_line" : Str) (odF ll m lm) = none := by
  unfold odF
  exact lk_n (by decide +kernel) (lk_n (by decide +kernel) (lk_n (by decide +kernel) (rfl)))
theorem no_Order_take (ll : Addr) (m : Int) (lm : Addr) : List.lookup ("take" : Str) (odF ll m lm) = none := by
  unfold odF
  exact lk_n (by decide +kernel) (lk_n (by decide +kernel) (lk_n (by decide +kernel) (rfl)))
theorem no_Order_mark (ll : Addr) (m : Int) (lm : Addr) : List.lookup ("mark" : Str) (odF ll m lm) = none := by
  unfold odF
  exact lk_n (by decide +kernel) (lk_n (by decide +kernel) (lk_n (by decide +kernel) (rfl)))
theorem lk_Book_each (e t : Addr) : List.lookup ("each" : Str) (bkF e t) = some (.ref e) := by
  unfold bkF
  exact lk_hit
theorem pt_Book_each (e t : Addr) (z : Addr) : putF "each" (.ref z) (bkF e t) = bkF z t := by
  unfold bkF
  exact pf_hit
theorem lk_Book_trail (e t : Addr) : List.lookup ("trail" : Str) (bkF e t) = some (.ref t) := by
  unfold bkF
  exact lk_m (by decide +kernel) (lk_hit)
theorem pt_Book_trail (e t : Addr) (z : Addr) : putF "trail" (.ref z) (bkF e t) = bkF e z := by
  unfold bkF
  exact pf_m (by decide +kernel) (pf_hit)
theorem no_Book_order_of (e t : Addr) : List.lookup ("order_of" : Str) (bkF e t) = none := by
  unfold bkF
  exact lk_n (by decide +kernel) (lk_n (by decide +kernel) (rfl))
theorem no_Book_do (e t : Addr) : List.lookup ("do" : Str) (bkF e t) = none := by
  unfold bkF
  exact lk_n (by decide +kernel) (lk_n (by decide +kernel) (rfl))
theorem no_Book_begin (e t : Addr) : List.lookup ("begin" : Str) (bkF e t) = none := by
  unfold bkF
  exact lk_n (by decide +kernel) (lk_n (by decide +kernel) (rfl))
theorem no_Book_shift (e t : Addr) : List.lookup ("shift" : Str) (bkF e t) = none := by
  unfold bkF
  exact lk_n (by decide +kernel) (lk_n (by decide +kernel) (rfl))
theorem no_Book_one (e t : Addr) : List.lookup ("one" : Str) (bkF e t) = none := by
  unfold bkF
  exact lk_n (by decide +kernel) (lk_n (by decide +kernel) (rfl))
theorem no_Book_need_number (e t : Addr) : List.lookup ("need_number" : Str) (bkF e t) = none := by
  unfold bkF
  exact lk_n (by decide +kernel) (lk_n (by decide +kernel) (rfl))
theorem no_Book_undo (e t : Addr) : List.lookup ("undo" : Str) (bkF e t) = none := by
  unfold bkF
  exact lk_n (by decide +kernel) (lk_n (by decide +kernel) (rfl))
theorem no_Book_orders (e t : Addr) : List.lookup ("orders" : Str) (bkF e t) = none := by
  unfold bkF
  exact lk_n (by decide +kernel) (lk_n (by decide +kernel) (rfl))
theorem no_Book_told (e t : Addr) : List.lookup ("told" : Str) (bkF e t) = none := by
  unfold bkF
  exact lk_n (by decide +kernel) (lk_n (by decide +kernel) (rfl))
theorem no_Book_paid (e t : Addr) : List.lookup ("paid" : Str) (bkF e t) = none := by
  unfold bkF
  exact lk_n (by decide +kernel) (lk_n (by decide +kernel) (rfl))
theorem no_Book_owed (e t : Addr) : List.lookup ("owed" : Str) (bkF e t) = none := by
  unfold bkF
  exact lk_n (by decide +kernel) (lk_n (by decide +kernel) (rfl))
theorem no_Book_rows (e t : Addr) : List.lookup ("rows" : Str) (bkF e t) = none := by
  unfold bkF
  exact lk_n (by decide +kernel) (lk_n (by decide +kernel) (rfl))
theorem no_Book_settled (e t : Addr) : List.lookup ("settled" : Str) (bkF e t) = none := by
  unfold bkF
  exact lk_n (by decide +kernel) (lk_n (by decide +kernel) (rfl))
theorem no_Book_net (e t : Addr) : List.lookup ("net" : Str) (bkF e t) = none := by
  unfold bkF
  exact lk_n (by decide +kernel) (lk_n (by decide +kernel) (rfl))
abbrev N_Worth : List Str := ["pieces", "cents", "pack"]
abbrev P_Worth : List Str := ["pieces", "cents", "pack"]
theorem sc_Worth : FnScope N_Worth P_Worth (defScope sWorth) := ⟨rfl, rfl, rfl, by decide +kernel, rfl, by decide +kernel, by decide +kernel⟩
abbrev N_IsItem : List Str := ["item", "letter"]
abbrev P_IsItem : List Str := ["item"]
theorem sc_IsItem : FnScope N_IsItem P_IsItem (defScope sIsItem) := ⟨rfl, rfl, rfl, by decide +kernel, rfl, by decide +kernel, by decide +kernel⟩
abbrev N_CheckLine : List Str := ["told"]
abbrev P_CheckLine : List Str := ["told"]
theorem sc_CheckLine : FnScope N_CheckLine P_CheckLine (defScope sCheckLine) := ⟨rfl, rfl, rfl, by decide +kernel, rfl, by decide +kernel, by decide +kernel⟩
abbrev N_LineInit : List Str := ["self", "told"]
abbrev P_LineInit : List Str := ["self", "told"]
theorem sc_LineInit : FnScope N_LineInit P_LineInit (defScope sLineInit) := ⟨rfl, rfl, rfl, by decide +kernel, rfl, by decide +kernel, by decide +kernel⟩
abbrev N_LineKept : List Str := ["self"]
abbrev P_LineKept : List Str := ["self"]
theorem sc_LineKept : FnScope N_LineKept P_LineKept (defScope sLineKept) := ⟨rfl, rfl, rfl, by decide +kernel, rfl, by decide +kernel, by decide +kernel⟩
abbrev N_LineToCome : List Str := ["self"]
abbrev P_LineToCome : List Str := ["self"]
theorem sc_LineToCome : FnScope N_LineToCome P_LineToCome (defScope sLineToCome) := ⟨rfl, rfl, rfl, by decide +kernel, rfl, by decide +kernel, by decide +kernel⟩
abbrev N_LineKeptWorth : List Str := ["self"]
abbrev P_LineKeptWorth : List Str := ["self"]
theorem sc_LineKeptWorth : FnScope N_LineKeptWorth P_LineKeptWorth (defScope sLineKeptWorth) := ⟨rfl, rfl, rfl, by decide +kernel, rfl, by decide +kernel, by decide +kernel⟩
abbrev N_LineCharge : List Str := ["self"]
abbrev P_LineCharge : List Str := ["self"]
theorem sc_LineCharge : FnScope N_LineCharge P_LineCharge (defScope sLineCharge) := ⟨rfl, rfl, rfl, by decide +kernel, rfl, by decide +kernel, by decide +kernel⟩
abbrev N_LineDeliver : List Str := ["self", "pieces"]
abbrev P_LineDeliver : List Str := ["self", "pieces"]
theorem sc_LineDeliver : FnScope N_LineDeliver P_LineDeliver (defScope sLineDeliver) := ⟨rfl, rfl, rfl, by decide +kernel, rfl, by decide +kernel, by decide +kernel⟩
abbrev N_LineBring : List Str := ["self", "pieces", "anew"]
abbrev P_LineBring : List Str := ["self", "pieces", "anew"]
theorem sc_LineBring : FnScope N_LineBring P_LineBring (defScope sLineBring) := ⟨rfl, rfl, rfl, by decide +kernel, rfl, by decide +kernel, by decide +kernel⟩
abbrev N_LineReduce : List Str := ["self", "cents"]
abbrev P_LineReduce : List Str := ["self", "cents"]
theorem sc_LineReduce : FnScope N_LineReduce P_LineReduce (defScope sLineReduce) := ⟨rfl, rfl, rfl, by decide +kernel, rfl, by decide +kernel, by decide +kernel⟩
abbrev N_LineNumbers : List Str := ["self"]
abbrev P_LineNumbers : List Str := ["self"]
theorem sc_LineNumbers : FnScope N_LineNumbers P_LineNumbers (defScope sLineNumbers) := ⟨rfl, rfl, rfl, by decide +kernel, rfl, by decide +kernel, by decide +kernel⟩
abbrev N_OrderInit : List Str := ["self", "lines", "told"]
abbrev P_OrderInit : List Str := ["self", "lines"]
theorem sc_OrderInit : FnScope N_OrderInit P_OrderInit (defScope sOrderInit) := ⟨rfl, rfl, rfl, by decide +kernel, rfl, by decide +kernel, by decide +kernel⟩
abbrev N_OrderOwing : List Str := ["self", "line"]
abbrev P_OrderOwing : List Str := ["self"]
theorem sc_OrderOwing : FnScope N_OrderOwing P_OrderOwing (defScope sOrderOwing) := ⟨rfl, rfl, rfl, by decide +kernel, rfl, by decide +kernel, by decide +kernel⟩
abbrev N_OrderLineOf : List Str := ["self", "place"]
abbrev P_OrderLineOf : List Str := ["self", "place"]
theorem sc_OrderLineOf : FnScope N_OrderLineOf P_OrderLineOf (defScope sOrderLineOf) := ⟨rfl, rfl, rfl, by decide +kernel, rfl, by decide +kernel, by decide +kernel⟩
abbrev N_OrderNeedOver : List Str := ["self", "cents"]
abbrev P_OrderNeedOver : List Str := ["self", "cents"]
theorem sc_OrderNeedOver : FnScope N_OrderNeedOver P_OrderNeedOver (defScope sOrderNeedOver) := ⟨rfl, rfl, rfl, by decide +kernel, rfl, by decide +kernel, by decide +kernel⟩
abbrev N_OrderTurnLine : List Str := ["self", "word", "place", "number", "line"]
abbrev P_OrderTurnLine : List Str := ["self", "word", "place", "number"]
theorem sc_OrderTurnLine : FnScope N_OrderTurnLine P_OrderTurnLine (defScope sOrderTurnLine) := ⟨rfl, rfl, rfl, by decide +kernel, rfl, by decide +kernel, by decide +kernel⟩
abbrev N_OrderTake : List Str := ["self", "cents"]
abbrev P_OrderTake : List Str := ["self", "cents"]
theorem sc_OrderTake : FnScope N_OrderTake P_OrderTake (defScope sOrderTake) := ⟨rfl, rfl, rfl, by decide +kernel, rfl, by decide +kernel, by decide +kernel⟩
abbrev N_OrderMark : List Str := ["self", "word", "ahead", "change"]
abbrev P_OrderMark : List Str := ["self", "word", "ahead"]
theorem sc_OrderMark : FnScope N_OrderMark P_OrderMark (defScope sOrderMark) := ⟨rfl, rfl, rfl, by decide +kernel, rfl, by decide +kernel, by decide +kernel⟩
abbrev N_Own : List Str := ["deed", "line"]
abbrev P_Own : List Str := ["deed"]
theorem sc_Own : FnScope N_Own P_Own (defScope sOwn) := ⟨rfl, rfl, rfl, by decide +kernel, rfl, by decide +kernel, by decide +kernel⟩
abbrev N_BookInit : List Str := ["self"]
abbrev P_BookInit : List Str := ["self"]
theorem sc_BookInit : FnScope N_BookInit P_BookInit (defScope sBookInit) := ⟨rfl, rfl, rfl, by decide +kernel, rfl, by decide +kernel, by decide +kernel⟩
abbrev N_BookOrderOf : List Str := ["self", "number"]
abbrev P_BookOrderOf : List Str := ["self", "number"]
theorem sc_BookOrderOf : FnScope N_BookOrderOf P_BookOrderOf (defScope sBookOrderOf) := ⟨rfl, rfl, rfl, by decide +kernel, rfl, by decide +kernel, by decide +kernel⟩
abbrev N_BookDo : List Str := ["self", "deed", "changes"]
abbrev P_BookDo : List Str := ["self", "deed"]
theorem sc_BookDo : FnScope N_BookDo P_BookDo (defScope sBookDo) := ⟨rfl, rfl, rfl, by decide +kernel, rfl, by decide +kernel, by decide +kernel⟩
abbrev N_BookBegin : List Str := ["self", "lines", "told"]
abbrev P_BookBegin : List Str := ["self", "lines"]
theorem sc_BookBegin : FnScope N_BookBegin P_BookBegin (defScope sBookBegin) := ⟨rfl, rfl, rfl, by decide +kernel, rfl, by decide +kernel, by decide +kernel⟩
abbrev N_BookShift : List Str := ["self", "deed", "first", "other", "ahead"]
abbrev P_BookShift : List Str := ["self", "deed"]
theorem sc_BookShift : FnScope N_BookShift P_BookShift (defScope sBookShift) := ⟨rfl, rfl, rfl, by decide +kernel, rfl, by decide +kernel, by decide +kernel⟩
abbrev N_BookOne : List Str := ["self", "deed", "order", "number", "ahead"]
abbrev P_BookOne : List Str := ["self", "deed"]
theorem sc_BookOne : FnScope N_BookOne P_BookOne (defScope sBookOne) := ⟨rfl, rfl, rfl, by decide +kernel, rfl, by decide +kernel, by decide +kernel⟩
abbrev N_BookNeedNumber : List Str := ["self", "number"]
abbrev P_BookNeedNumber : List Str := ["self", "number"]
theorem sc_BookNeedNumber : FnScope N_BookNeedNumber P_BookNeedNumber (defScope sBookNeedNumber) := ⟨rfl, rfl, rfl, by decide +kernel, rfl, by decide +kernel, by decide +kernel⟩
abbrev N_BookOrders : List Str := ["self"]
abbrev P_BookOrders : List Str := ["self"]
theorem sc_BookOrders : FnScope N_BookOrders P_BookOrders (defScope sBookOrders) := ⟨rfl, rfl, rfl, by decide +kernel, rfl, by decide +kernel, by decide +kernel⟩
abbrev N_BookTold : List Str := ["self", "order", "line"]
abbrev P_BookTold : List Str := ["self", "order"]
theorem sc_BookTold : FnScope N_BookTold P_BookTold (defScope sBookTold) := ⟨rfl, rfl, rfl, by decide +kernel, rfl, by decide +kernel, by decide +kernel⟩
abbrev N_BookPaid : List Str := ["self", "order"]
abbrev P_BookPaid : List Str := ["self", "order"]
theorem sc_BookPaid : FnScope N_BookPaid P_BookPaid (defScope sBookPaid) := ⟨rfl, rfl, rfl, by decide +kernel, rfl, by decide +kernel, by decide +kernel⟩
abbrev N_BookOwed : List Str := ["self", "order"]
abbrev P_BookOwed : List Str := ["self", "order"]
theorem sc_BookOwed : FnScope N_BookOwed P_BookOwed (defScope sBookOwed) := ⟨rfl, rfl, rfl, by decide +kernel, rfl, by decide +kernel, by decide +kernel⟩
abbrev N_NumberIn : List Str := ["figures", "sign"]
abbrev P_NumberIn : List Str := ["figures"]
theorem sc_NumberIn : FnScope N_NumberIn P_NumberIn (defScope sNumberIn) := ⟨rfl, rfl, rfl, by decide +kernel, rfl, by decide +kernel, by decide +kernel⟩
abbrev N_LineIn : List Str := ["text", "parts"]
abbrev P_LineIn : List Str := ["text"]
theorem sc_LineIn : FnScope N_LineIn P_LineIn (defScope sLineIn) := ⟨rfl, rfl, rfl, by decide +kernel, rfl, by decide +kernel, by decide +kernel⟩
abbrev N_Read : List Str := ["text", "line", "parts", "part", "numbers"]
abbrev P_Read : List Str := ["text"]
theorem sc_Read : FnScope N_Read P_Read (defScope sRead) := ⟨rfl, rfl, rfl, by decide +kernel, rfl, by decide +kernel, by decide +kernel⟩
abbrev N_Played : List Str := ["texts", "book", "answers", "text", "order"]
abbrev P_Played : List Str := ["texts"]
theorem sc_Played : FnScope N_Played P_Played (defScope sPlayed) := ⟨rfl, rfl, rfl, by decide +kernel, rfl, by decide +kernel, by decide +kernel⟩
abbrev N_ChangesOf : List Str := ["book", "text"]
abbrev P_ChangesOf : List Str := ["book", "text"]
theorem sc_ChangesOf : FnScope N_ChangesOf P_ChangesOf (defScope sChangesOf) := ⟨rfl, rfl, rfl, by decide +kernel, rfl, by decide +kernel, by decide +kernel⟩
abbrev N_LCellAt : List Str := ["_law_script", "_law_k"]
abbrev P_LCellAt : List Str := ["_law_script", "_law_k"]
theorem sc_LCellAt : FnScope N_LCellAt P_LCellAt (defScope sLCellAt) := ⟨rfl, rfl, rfl, by decide +kernel, rfl, by decide +kernel, by decide +kernel⟩
abbrev N_LWhole : List Str := ["_law_found"]
abbrev P_LWhole : List Str := ["_law_found"]
theorem sc_LWhole : FnScope N_LWhole P_LWhole (defScope sLWhole) := ⟨rfl, rfl, rfl, by decide +kernel, rfl, by decide +kernel, by decide +kernel⟩
abbrev N_LLineWorth : List Str := ["_law_line"]
abbrev P_LLineWorth : List Str := ["_law_line"]
theorem sc_LLineWorth : FnScope N_LLineWorth P_LLineWorth (defScope sLLineWorth) := ⟨rfl, rfl, rfl, by decide +kernel, rfl, by decide +kernel, by decide +kernel⟩
abbrev N_LOwedBy : List Str := ["_law_order", "_law_line"]
abbrev P_LOwedBy : List Str := ["_law_order"]
theorem sc_LOwedBy : FnScope N_LOwedBy P_LOwedBy (defScope sLOwedBy) := ⟨rfl, rfl, rfl, by decide +kernel, rfl, by decide +kernel, by decide +kernel⟩
abbrev N_LMost : List Str := ["_law_word", "_law_at", "_law_place", "_law_orders", "_law_owed", "_law_line"]
abbrev P_LMost : List Str := ["_law_word", "_law_at", "_law_place", "_law_orders"]
theorem sc_LMost : FnScope N_LMost P_LMost (defScope sLMost) := ⟨rfl, rfl, rfl, by decide +kernel, rfl, by decide +kernel, by decide +kernel⟩
abbrev N_LPlaceBy : List Str := ["_law_cell", "_law_prime", "_law_size", "_law_some"]
abbrev P_LPlaceBy : List Str := ["_law_cell", "_law_prime", "_law_size"]
theorem sc_LPlaceBy : FnScope N_LPlaceBy P_LPlaceBy (defScope sLPlaceBy) := ⟨rfl, rfl, rfl, by decide +kernel, rfl, by decide +kernel, by decide +kernel⟩
abbrev N_LNumberBy : List Str := ["_law_cell", "_law_most_here", "_law_way"]
abbrev P_LNumberBy : List Str := ["_law_cell", "_law_most_here"]
theorem sc_LNumberBy : FnScope N_LNumberBy P_LNumberBy (defScope sLNumberBy) := ⟨rfl, rfl, rfl, by decide +kernel, rfl, by decide +kernel, by decide +kernel⟩
abbrev N_LItemBy : List Str := ["_law_cell", "_law_some", "_law_k"]
abbrev P_LItemBy : List Str := ["_law_cell"]
theorem sc_LItemBy : FnScope N_LItemBy P_LItemBy (defScope sLItemBy) := ⟨rfl, rfl, rfl, by decide +kernel, rfl, by decide +kernel, by decide +kernel⟩
abbrev N_LLinesBy : List Str := ["_law_cell", "_law_lines", "_law_many", "_law_k", "_law_more", "_law_item"]
abbrev P_LLinesBy : List Str := ["_law_cell"]
theorem sc_LLinesBy : FnScope N_LLinesBy P_LLinesBy (defScope sLLinesBy) := ⟨rfl, rfl, rfl, by decide +kernel, rfl, by decide +kernel, by decide +kernel⟩
abbrev N_LDeedBy : List Str := ["_law_cell", "_law_more", "_law_orders", "_law_words", "_law_word", "_law_at", "_law_other", "_law_size", "_law_place"]
abbrev P_LDeedBy : List Str := ["_law_cell", "_law_more", "_law_orders"]
theorem sc_LDeedBy : FnScope N_LDeedBy P_LDeedBy (defScope sLDeedBy) := ⟨rfl, rfl, rfl, by decide +kernel, rfl, by decide +kernel, by decide +kernel⟩
abbrev N_LRefusal : List Str := ["_law_deed", "_law_orders", "_law_place", "_law_number"]
abbrev P_LRefusal : List Str := ["_law_deed", "_law_orders"]
theorem sc_LRefusal : FnScope N_LRefusal P_LRefusal (defScope sLRefusal) := ⟨rfl, rfl, rfl, by decide +kernel, rfl, by decide +kernel, by decide +kernel⟩
abbrev N_LTurned : List Str := ["_law_deed", "_law_orders", "_law_number", "_law_sign", "_law_line"]
abbrev P_LTurned : List Str := ["_law_deed", "_law_orders"]
theorem sc_LTurned : FnScope N_LTurned P_LTurned (defScope sLTurned) := ⟨rfl, rfl, rfl, by decide +kernel, rfl, by decide +kernel, by decide +kernel⟩
abbrev N_LStep : List Str := ["_law_deed", "_law_orders", "_law_line", "_law_places", "_law_order", "_law_ahead", "_law_at", "_law_changes", "_law_change"]
abbrev P_LStep : List Str := ["_law_deed", "_law_orders"]
theorem sc_LStep : FnScope N_LStep P_LStep (defScope sLStep) := ⟨rfl, rfl, rfl, by decide +kernel, rfl, by decide +kernel, by decide +kernel⟩
abbrev N_LPairsAlike : List Str := ["_law_found", "_law_due", "_law_k", "_law_part"]
abbrev P_LPairsAlike : List Str := ["_law_found", "_law_due"]
theorem sc_LPairsAlike : FnScope N_LPairsAlike P_LPairsAlike (defScope sLPairsAlike) := ⟨rfl, rfl, rfl, by decide +kernel, rfl, by decide +kernel, by decide +kernel⟩
abbrev N_LTextOf : List Str := ["_law_deed", "_law_parts", "_law_line", "_law_number", "_law_numbers"]
abbrev P_LTextOf : List Str := ["_law_deed"]
theorem sc_LTextOf : FnScope N_LTextOf P_LTextOf (defScope sLTextOf) := ⟨rfl, rfl, rfl, by decide +kernel, rfl, by decide +kernel, by decide +kernel⟩
abbrev N_LNumberIn : List Str := ["_law_figures", "_law_sign"]
abbrev P_LNumberIn : List Str := ["_law_figures"]
theorem sc_LNumberIn : FnScope N_LNumberIn P_LNumberIn (defScope sLNumberIn) := ⟨rfl, rfl, rfl, by decide +kernel, rfl, by decide +kernel, by decide +kernel⟩
abbrev N_LLineIn : List Str := ["_law_part", "_law_words", "_law_sign", "_law_word", "_law_numbers"]
abbrev P_LLineIn : List Str := ["_law_part"]
theorem sc_LLineIn : FnScope N_LLineIn P_LLineIn (defScope sLLineIn) := ⟨rfl, rfl, rfl, by decide +kernel, rfl, by decide +kernel, by decide +kernel⟩
abbrev N_LDeedIn : List Str := ["_law_line", "_law_part", "_law_lines", "_law_one", "_law_words", "_law_size", "_law_word", "_law_numbers"]
abbrev P_LDeedIn : List Str := ["_law_line"]
theorem sc_LDeedIn : FnScope N_LDeedIn P_LDeedIn (defScope sLDeedIn) := ⟨rfl, rfl, rfl, by decide +kernel, rfl, by decide +kernel, by decide +kernel⟩
abbrev N_LChangedBy : List Str := ["_law_line", "_law_cell", "_law_sign", "_law_at"]
abbrev P_LChangedBy : List Str := ["_law_line", "_law_cell"]
theorem sc_LChangedBy : FnScope N_LChangedBy P_LChangedBy (defScope sLChangedBy) := ⟨rfl, rfl, rfl, by decide +kernel, rfl, by decide +kernel, by decide +kernel⟩
abbrev N_LRefused : List Str := ["_law_deed", "_law_orders", "_law_line"]
abbrev P_LRefused : List Str := ["_law_deed", "_law_orders"]
theorem sc_LRefused : FnScope N_LRefused P_LRefused (defScope sLRefused) := ⟨rfl, rfl, rfl, by decide +kernel, rfl, by decide +kernel, by decide +kernel⟩
abbrev N_Law : List Str := ["_law_script", "_law_texts", "_law_due", "_law_orders", "_law_cell", "_law_k", "_law_line", "_law_deed", "_law_handed", "_law_found", "_law_owed", "_law_order"]
abbrev P_Law : List Str := ["_law_script"]
theorem sc_Law : FnScope N_Law P_Law (defScope sLaw) := ⟨rfl, rfl, rfl, by decide +kernel, rfl, by decide +kernel, by decide +kernel⟩
theorem Tx.b_Worth {w : World} {K : PySem.W.Frag} {mg : Str → Option Value} (T : Tx w K mg) : Binds K (fdO K dWorth.at_) P_Worth [] := T.f_Worth.bindsN fun _ _ _ _ _ _ us hl => match us, hl with | [_, _, _], _ => rfl
theorem Tx.b_IsItem {w : World} {K : PySem.W.Frag} {mg : Str → Option Value} (T : Tx w K mg) : Binds K (fdO K dIsItem.at_) P_IsItem [] := T.f_IsItem.bindsN fun _ _ _ _ _ _ us hl => match us, hl with | [_], _ => rfl
theorem Tx.b_CheckLine {w : World} {K : PySem.W.Frag} {mg : Str → Option Value} (T : Tx w K mg) : Binds K (fdO K dCheckLine.at_) P_CheckLine [] := T.f_CheckLine.bindsN fun _ _ _ _ _ _ us hl => match us, hl with | [_], _ => rfl
theorem Tx.b_LineInit {w : World} {K : PySem.W.Frag} {mg : Str → Option Value} (T : Tx w K mg) : Binds K (fdO K dLineInit.at_) P_LineInit [] := T.f_LineInit.bindsN fun _ _ _ _ _ _ us hl => match us, hl with | [_, _], _ => rfl
theorem Tx.b_LineKept {w : World} {K : PySem.W.Frag} {mg : Str → Option Value} (T : Tx w K mg) : Binds K (fdO K dLineKept.at_) P_LineKept [] := T.f_LineKept.bindsN fun _ _ _ _ _ _ us hl => match us, hl with | [_], _ => rfl
theorem Tx.b_LineToCome {w : World} {K : PySem.W.Frag} {mg : Str → Option Value} (T : Tx w K mg) : Binds K (fdO K dLineToCome.at_) P_LineToCome [] := T.f_LineToCome.bindsN fun _ _ _ _ _ _ us hl => match us, hl with | [_], _ => rfl
theorem Tx.b_LineKeptWorth {w : World} {K : PySem.W.Frag} {mg : Str → Option Value} (T : Tx w K mg) : Binds K (fdO K dLineKeptWorth.at_) P_LineKeptWorth [] := T.f_LineKeptWorth.bindsN fun _ _ _ _ _ _ us hl => match us, hl with | [_], _ => rfl
theorem Tx.b_LineCharge {w : World} {K : PySem.W.Frag} {mg : Str → Option Value} (T : Tx w K mg) : Binds K (fdO K dLineCharge.at_) P_LineCharge [] := T.f_LineCharge.bindsN fun _ _ _ _ _ _ us hl => match us, hl with | [_], _ => rfl
theorem Tx.b_LineDeliver {w : World} {K : PySem.W.Frag} {mg : Str → Option Value} (T : Tx w K mg) : Binds K (fdO K dLineDeliver.at_) P_LineDeliver [] := T.f_LineDeliver.bindsN fun _ _ _ _ _ _ us hl => match us, hl with | [_, _], _ => rfl
theorem Tx.b_LineBring {w : World} {K : PySem.W.Frag} {mg : Str → Option Value} (T : Tx w K mg) : Binds K (fdO K dLineBring.at_) P_LineBring [] := T.f_LineBring.bindsN fun _ _ _ _ _ _ us hl => match us, hl with | [_, _, _], _ => rfl
theorem Tx.b_LineReduce {w : World} {K : PySem.W.Frag} {mg : Str → Option Value} (T : Tx w K mg) : Binds K (fdO K dLineReduce.at_) P_LineReduce [] := T.f_LineReduce.bindsN fun _ _ _ _ _ _ us hl => match us, hl with | [_, _], _ => rfl
theorem Tx.b_LineNumbers {w : World} {K : PySem.W.Frag} {mg : Str → Option Value} (T : Tx w K mg) : Binds K (fdO K dLineNumbers.at_) P_LineNumbers [] := T.f_LineNumbers.bindsN fun _ _ _ _ _ _ us hl => match us, hl with | [_], _ => rfl
theorem Tx.b_OrderInit {w : World} {K : PySem.W.Frag} {mg : Str → Option Value} (T : Tx w K mg) : Binds K (fdO K dOrderInit.at_) P_OrderInit [] := T.f_OrderInit.bindsN fun _ _ _ _ _ _ us hl => match us, hl with | [_, _], _ => rfl
theorem Tx.b_OrderOwing {w : World} {K : PySem.W.Frag} {mg : Str → Option Value} (T : Tx w K mg) : Binds K (fdO K dOrderOwing.at_) P_OrderOwing [] := T.f_OrderOwing.bindsN fun _ _ _ _ _ _ us hl => match us, hl with | [_], _ => rfl
theorem Tx.b_OrderLineOf {w : World} {K : PySem.W.Frag} {mg : Str → Option Value} (T : Tx w K mg) : Binds K (fdO K dOrderLineOf.at_) P_OrderLineOf [] := T.f_OrderLineOf.bindsN fun _ _ _ _ _ _ us hl => match us, hl with | [_, _], _ => rfl
theorem Tx.b_OrderNeedOver {w : World} {K : PySem.W.Frag} {mg : Str → Option Value} (T : Tx w K mg) : Binds K (fdO K dOrderNeedOver.at_) P_OrderNeedOver [] := T.f_OrderNeedOver.bindsN fun _ _ _ _ _ _ us hl => match us, hl with | [_, _], _ => rfl
theorem Tx.b_OrderTurnLine {w : World} {K : PySem.W.Frag} {mg : Str → Option Value} (T : Tx w K mg) : Binds K (fdO K dOrderTurnLine.at_) P_OrderTurnLine [] := T.f_OrderTurnLine.bindsN fun _ _ _ _ _ _ us hl => match us, hl with | [_, _, _, _], _ => rfl
theorem Tx.b_OrderTake {w : World} {K : PySem.W.Frag} {mg : Str → Option Value} (T : Tx w K mg) : Binds K (fdO K dOrderTake.at_) P_OrderTake [] := T.f_OrderTake.bindsN fun _ _ _ _ _ _ us hl => match us, hl with | [_, _], _ => rfl
theorem Tx.b_OrderMark {w : World} {K : PySem.W.Frag} {mg : Str → Option Value} (T : Tx w K mg) : Binds K (fdO K dOrderMark.at_) P_OrderMark [] := T.f_OrderMark.bindsN fun _ _ _ _ _ _ us hl => match us, hl with | [_, _, _], _ => rfl
theorem Tx.b_Own {w : World} {K : PySem.W.Frag} {mg : Str → Option Value} (T : Tx w K mg) : Binds K (fdO K dOwn.at_) P_Own [] := T.f_Own.bindsN fun _ _ _ _ _ _ us hl => match us, hl with | [_], _ => rfl
theorem Tx.b_BookInit {w : World} {K : PySem.W.Frag} {mg : Str → Option Value} (T : Tx w K mg) : Binds K (fdO K dBookInit.at_) P_BookInit [] := T.f_BookInit.bindsN fun _ _ _ _ _ _ us hl => match us, hl with | [_], _ => rfl
theorem Tx.b_BookOrderOf {w : World} {K : PySem.W.Frag} {mg : Str → Option Value} (T : Tx w K mg) : Binds K (fdO K dBookOrderOf.at_) P_BookOrderOf [] := T.f_BookOrderOf.bindsN fun _ _ _ _ _ _ us hl => match us, hl with | [_, _], _ => rfl
theorem Tx.b_BookDo {w : World} {K : PySem.W.Frag} {mg : Str → Option Value} (T : Tx w K mg) : Binds K (fdO K dBookDo.at_) P_BookDo [] := T.f_BookDo.bindsN fun _ _ _ _ _ _ us hl => match us, hl with | [_, _], _ => rfl
theorem Tx.b_BookBegin {w : World} {K : PySem.W.Frag} {mg : Str → Option Value} (T : Tx w K mg) : Binds K (fdO K dBookBegin.at_) P_BookBegin [] := T.f_BookBegin.bindsN fun _ _ _ _ _ _ us hl => match us, hl with | [_, _], _ => rfl
theorem Tx.b_BookShift {w : World} {K : PySem.W.Frag} {mg : Str → Option Value} (T : Tx w K mg) : Binds K (fdO K dBookShift.at_) P_BookShift [] := T.f_BookShift.bindsN fun _ _ _ _ _ _ us hl => match us, hl with | [_, _], _ => rfl
theorem Tx.b_BookOne {w : World} {K : PySem.W.Frag} {mg : Str → Option Value} (T : Tx w K mg) : Binds K (fdO K dBookOne.at_) P_BookOne [] := T.f_BookOne.bindsN fun _ _ _ _ _ _ us hl => match us, hl with | [_, _], _ => rfl
theorem Tx.b_BookNeedNumber {w : World} {K : PySem.W.Frag} {mg : Str → Option Value} (T : Tx w K mg) : Binds K (fdO K dBookNeedNumber.at_) P_BookNeedNumber [] := T.f_BookNeedNumber.bindsN fun _ _ _ _ _ _ us hl => match us, hl with | [_, _], _ => rfl
theorem Tx.b_BookOrders {w : World} {K : PySem.W.Frag} {mg : Str → Option Value} (T : Tx w K mg) : Binds K (fdO K dBookOrders.at_) P_BookOrders [] := T.f_BookOrders.bindsN fun _ _ _ _ _ _ us hl => match us, hl with | [_], _ => rfl
theorem Tx.b_BookTold {w : World} {K : PySem.W.Frag} {mg : Str → Option Value} (T : Tx w K mg) : Binds K (fdO K dBookTold.at_) P_BookTold [] := T.f_BookTold.bindsN fun _ _ _ _ _ _ us hl => match us, hl with | [_, _], _ => rfl
theorem Tx.b_BookPaid {w : World} {K : PySem.W.Frag} {mg : Str → Option Value} (T : Tx w K mg) : Binds K (fdO K dBookPaid.at_) P_BookPaid [] := T.f_BookPaid.bindsN fun _ _ _ _ _ _ us hl => match us, hl with | [_, _], _ => rfl
theorem Tx.b_BookOwed {w : World} {K : PySem.W.Frag} {mg : Str → Option Value} (T : Tx w K mg) : Binds K (fdO K dBookOwed.at_) P_BookOwed [] := T.f_BookOwed.bindsN fun _ _ _ _ _ _ us hl => match us, hl with | [_, _], _ => rfl
theorem Tx.b_NumberIn {w : World} {K : PySem.W.Frag} {mg : Str → Option Value} (T : Tx w K mg) : Binds K (fdO K dNumberIn.at_) P_NumberIn [] := T.f_NumberIn.bindsN fun _ _ _ _ _ _ us hl => match us, hl with | [_], _ => rfl
theorem Tx.b_LineIn {w : World} {K : PySem.W.Frag} {mg : Str → Option Value} (T : Tx w K mg) : Binds K (fdO K dLineIn.at_) P_LineIn [] := T.f_LineIn.bindsN fun _ _ _ _ _ _ us hl => match us, hl with | [_], _ => rfl
theorem Tx.b_Read {w : World} {K : PySem.W.Frag} {mg : Str → Option Value} (T : Tx w K mg) : Binds K (fdO K dRead.at_) P_Read [] := T.f_Read.bindsN fun _ _ _ _ _ _ us hl => match us, hl with | [_], _ => rfl
theorem Tx.b_Played {w : World} {K : PySem.W.Frag} {mg : Str → Option Value} (T : Tx w K mg) : Binds K (fdO K dPlayed.at_) P_Played [] := T.f_Played.bindsN fun _ _ _ _ _ _ us hl => match us, hl with | [_], _ => rfl
theorem Tx.b_ChangesOf {w : World} {K : PySem.W.Frag} {mg : Str → Option Value} (T : Tx w K mg) : Binds K (fdO K dChangesOf.at_) P_ChangesOf [] := T.f_ChangesOf.bindsN fun _ _ _ _ _ _ us hl => match us, hl with | [_, _], _ => rfl
theorem Tx.b_LCellAt {w : World} {K : PySem.W.Frag} {mg : Str → Option Value} (T : Tx w K mg) : Binds K (fdO K dLCellAt.at_) P_LCellAt [] := T.f_LCellAt.bindsN fun _ _ _ _ _ _ us hl => match us, hl with | [_, _], _ => rfl
theorem Tx.b_LWhole {w : World} {K : PySem.W.Frag} {mg : Str → Option Value} (T : Tx w K mg) : Binds K (fdO K dLWhole.at_) P_LWhole [] := T.f_LWhole.bindsN fun _ _ _ _ _ _ us hl => match us, hl with | [_], _ => rfl
theorem Tx.b_LLineWorth {w : World} {K : PySem.W.Frag} {mg : Str → Option Value} (T : Tx w K mg) : Binds K (fdO K dLLineWorth.at_) P_LLineWorth [] := T.f_LLineWorth.bindsN fun _ _ _ _ _ _ us hl => match us, hl with | [_], _ => rfl
theorem Tx.b_LOwedBy {w : World} {K : PySem.W.Frag} {mg : Str → Option Value} (T : Tx w K mg) : Binds K (fdO K dLOwedBy.at_) P_LOwedBy [] := T.f_LOwedBy.bindsN fun _ _ _ _ _ _ us hl => match us, hl with | [_], _ => rfl
theorem Tx.b_LMost {w : World} {K : PySem.W.Frag} {mg : Str → Option Value} (T : Tx w K mg) : Binds K (fdO K dLMost.at_) P_LMost [] := T.f_LMost.bindsN fun _ _ _ _ _ _ us hl => match us, hl with | [_, _, _, _], _ => rfl
theorem Tx.b_LPlaceBy {w : World} {K : PySem.W.Frag} {mg : Str → Option Value} (T : Tx w K mg) : Binds K (fdO K dLPlaceBy.at_) P_LPlaceBy [] := T.f_LPlaceBy.bindsN fun _ _ _ _ _ _ us hl => match us, hl with | [_, _, _], _ => rfl
theorem Tx.b_LNumberBy {w : World} {K : PySem.W.Frag} {mg : Str → Option Value} (T : Tx w K mg) : Binds K (fdO K dLNumberBy.at_) P_LNumberBy [] := T.f_LNumberBy.bindsN fun _ _ _ _ _ _ us hl => match us, hl with | [_, _], _ => rfl
theorem Tx.b_LItemBy {w : World} {K : PySem.W.Frag} {mg : Str → Option Value} (T : Tx w K mg) : Binds K (fdO K dLItemBy.at_) P_LItemBy [] := T.f_LItemBy.bindsN fun _ _ _ _ _ _ us hl => match us, hl with | [_], _ => rfl
theorem Tx.b_LLinesBy {w : World} {K : PySem.W.Frag} {mg : Str → Option Value} (T : Tx w K mg) : Binds K (fdO K dLLinesBy.at_) P_LLinesBy [] := T.f_LLinesBy.bindsN fun _ _ _ _ _ _ us hl => match us, hl with | [_], _ => rfl
theorem Tx.b_LDeedBy {w : World} {K : PySem.W.Frag} {mg : Str → Option Value} (T : Tx w K mg) : Binds K (fdO K dLDeedBy.at_) P_LDeedBy [] := T.f_LDeedBy.bindsN fun _ _ _ _ _ _ us hl => match us, hl with | [_, _, _], _ => rfl
theorem Tx.b_LRefusal {w : World} {K : PySem.W.Frag} {mg : Str → Option Value} (T : Tx w K mg) : Binds K (fdO K dLRefusal.at_) P_LRefusal [] := T.f_LRefusal.bindsN fun _ _ _ _ _ _ us hl => match us, hl with | [_, _], _ => rfl
theorem Tx.b_LTurned {w : World} {K : PySem.W.Frag} {mg : Str → Option Value} (T : Tx w K mg) : Binds K (fdO K dLTurned.at_) P_LTurned [] := T.f_LTurned.bindsN fun _ _ _ _ _ _ us hl => match us, hl with | [_, _], _ => rfl
theorem Tx.b_LStep {w : World} {K : PySem.W.Frag} {mg : Str → Option Value} (T : Tx w K mg) : Binds K (fdO K dLStep.at_) P_LStep [] := T.f_LStep.bindsN fun _ _ _ _ _ _ us hl => match us, hl with | [_, _], _ => rfl
theorem Tx.b_LPairsAlike {w : World} {K : PySem.W.Frag} {mg : Str → Option Value} (T : Tx w K mg) : Binds K (fdO K dLPairsAlike.at_) P_LPairsAlike [] := T.f_LPairsAlike.bindsN fun _ _ _ _ _ _ us hl => match us, hl with | [_, _], _ => rfl
theorem Tx.b_LTextOf {w : World} {K : PySem.W.Frag} {mg : Str → Option Value} (T : Tx w K mg) : Binds K (fdO K dLTextOf.at_) P_LTextOf [] := T.f_LTextOf.bindsN fun _ _ _ _ _ _ us hl => match us, hl with | [_], _ => rfl
theorem Tx.b_LNumberIn {w : World} {K : PySem.W.Frag} {mg : Str → Option Value} (T : Tx w K mg) : Binds K (fdO K dLNumberIn.at_) P_LNumberIn [] := T.f_LNumberIn.bindsN fun _ _ _ _ _ _ us hl => match us, hl with | [_], _ => rfl
theorem Tx.b_LLineIn {w : World} {K : PySem.W.Frag} {mg : Str → Option Value} (T : Tx w K mg) : Binds K (fdO K dLLineIn.at_) P_LLineIn [] := T.f_LLineIn.bindsN fun _ _ _ _ _ _ us hl => match us, hl with | [_], _ => rfl
theorem Tx.b_LDeedIn {w : World} {K : PySem.W.Frag} {mg : Str → Option Value} (T : Tx w K mg) : Binds K (fdO K dLDeedIn.at_) P_LDeedIn [] := T.f_LDeedIn.bindsN fun _ _ _ _ _ _ us hl => match us, hl with | [_], _ => rfl
theorem Tx.b_LChangedBy {w : World} {K : PySem.W.Frag} {mg : Str → Option Value} (T : Tx w K mg) : Binds K (fdO K dLChangedBy.at_) P_LChangedBy [] := T.f_LChangedBy.bindsN fun _ _ _ _ _ _ us hl => match us, hl with | [_, _], _ => rfl
theorem Tx.b_LRefused {w : World} {K : PySem.W.Frag} {mg : Str → Option Value} (T : Tx w K mg) : Binds K (fdO K dLRefused.at_) P_LRefused [] := T.f_LRefused.bindsN fun _ _ _ _ _ _ us hl => match us, hl with | [_, _], _ => rfl
theorem Tx.b_Law {w : World} {K : PySem.W.Frag} {mg : Str → Option Value} (T : Tx w K mg) : Binds K (fdO K dLaw.at_) P_Law [] := T.f_Law.bindsN fun _ _ _ _ _ _ us hl => match us, hl with | [_], _ => rfl
theorem runF (w : World) : HandSHeadRun.RunEq R qv hk ob 20000 names (w.withFollow "special-get-raises" false) := by
  intro os
  kernel_rfl
theorem runT (w : World) : HandSHeadRun.RunEq R qv hk ob 20000 names (w.withFollow "special-get-raises" true) := by
  intro os
  kernel_rfl
theorem run (w : World) : HandSHeadRun.RunEq R qv hk ob 20000 names w := PySem.W.byRow2 "special-get-raises" (P := fun w => HandSHeadRun.RunEq R qv hk ob 20000 names w) runF runT w
local macro_rules | `(tactic| walk_at "rd1") => `(tactic| with_reducible first
  | refine r_gn ?_ | refine r_seq ?_ | refine r_asg ?_ | refine r_ret ?_ | refine r_retN ?_ | refine r_drop ?_ | refine r_ifs ?_ | refine r_next ?_ | refine r_var rfl ?_ | refine r_c ?_ | refine r_op ?_ | refine r_un ?_
  | refine r_U ?_ | refine r_I0 ?_ | refine r_eqI ?_ | refine r_neI ?_ | refine r_eqS ?_ | refine r_neS ?_ | refine r_test ?_ | refine r_tB ?_ | refine r_exb ?_ | refine r_and ?_ | refine r_or ?_ | refine r_not ?_
  | refine r_andV ?_ | refine r_orV ?_ | refine r_notV ?_ | refine r_ifE ?_ | refine r_nil ?_ | refine r_cons ?_ | refine r_cb ?_ | refine r_tup ?_ | refine r_lst ?_ | refine r_call ?_ | refine r_callS ?_ | refine r_meth ?_ | refine r_fld ?_ | refine r_sfld ?_
  | refine r_lcl ?_ | refine r_lct ?_ | refine r_lcr ?_ | refine r_forl ?_ | refine r_fort ?_ | refine r_fors ?_ | refine r_forr ?_ | refine r_forr2 ?_
  | refine r_mx ?_ | refine r_sl ?_ | refine r_part ?_ | refine r_nopart ?_ | refine r_exi ?_ | refine r_asgS ?_ | refine r_is_int_int ?_ | refine r_is_int_bool ?_ | refine r_is_int_str ?_ | refine r_is_str_str ?_ | refine r_is_str_int ?_ | refine r_is_str_list ?_
  | refine r_make ?_ | refine r_bm ?_ | refine r_chain ?_ | refine r_itT ?_ | refine r_itF ?_ | refine r_itnT ?_ | refine r_itnF ?_)
local macro_rules | `(tactic| walk_at "rs1") => `(tactic| with_reducible first
  | refine r_gn ?_ | refine r_asg ?_ | refine r_ret ?_ | refine r_retN ?_ | refine r_drop ?_ | refine r_ifs ?_ | refine r_next ?_ | refine r_var rfl ?_ | refine r_c ?_ | refine r_op ?_ | refine r_un ?_
  | refine r_U ?_ | refine r_I0 ?_ | refine r_eqI ?_ | refine r_neI ?_ | refine r_eqS ?_ | refine r_neS ?_ | refine r_test ?_ | refine r_tB ?_ | refine r_exb ?_ | refine r_and ?_ | refine r_or ?_ | refine r_not ?_
  | refine r_andV ?_ | refine r_orV ?_ | refine r_notV ?_ | refine r_ifE ?_ | refine r_nil ?_ | refine r_cons ?_ | refine r_cb ?_ | refine r_tup ?_ | refine r_lst ?_ | refine r_call ?_ | refine r_callS ?_ | refine r_meth ?_ | refine r_fld ?_ | refine r_sfld ?_
  | refine r_lcl ?_ | refine r_lct ?_ | refine r_lcr ?_ | refine r_forl ?_ | refine r_fort ?_ | refine r_fors ?_ | refine r_forr ?_ | refine r_forr2 ?_
  | refine r_mx ?_ | refine r_sl ?_ | refine r_part ?_ | refine r_nopart ?_ | refine r_exi ?_ | refine r_asgS ?_ | refine r_is_int_int ?_ | refine r_is_int_bool ?_ | refine r_is_int_str ?_ | refine r_is_str_str ?_ | refine r_is_str_int ?_ | refine r_is_str_list ?_
  | refine r_make ?_ | refine r_bm ?_ | refine r_chain ?_ | refine r_itT ?_ | refine r_itF ?_ | refine r_itnT ?_ | refine r_itnF ?_)
local macro_rules | `(tactic| walk_at "rs") => `(tactic| repeat walk_at "rs1")
local macro_rules | `(tactic| walk_at "rd") => `(tactic| repeat walk_at "rd1")
local macro_rules | `(tactic| walk_at "pf") => `(tactic| repeat first | exact pf_nil | exact pf_hit | (apply pf_m; decide +kernel))
local macro_rules | `(tactic| walk_at "pos") => `(tactic| (first | (show (0 : Int) < _; decide) | exact ⟨by decide, by decide⟩ | omega))
local macro_rules | `(tactic| walk_at "md") => `(tactic| refine r_I (by walk_at "pos") ?_)
local macro_rules | `(tactic| walk_at "cell") => `(tactic| refine ⟨_, _, rfl, by assumption, by decide, fun _ => ?_⟩)
local macro_rules | `(tactic| walk_at "ml") => `(tactic| first | refine r_I (.inr ⟨by decide, by decide⟩) ?_ | refine r_I (.inl ⟨by decide, by decide⟩) ?_)
/-! ### prices and items -/
def spWorth (_ : PySem.W.Frag) : Sp := fun vs H Q _ => ∃ n c p : Int, vs = [.int n, .int c, .int p] ∧ (-(2 ^ 64) < c ∧ c < 2 ^ 64) ∧ (0 < p ∧ p < 1073741824) ∧ Q (.int (n * c / p)) H
theorem len_Worth {K : PySem.W.Frag} {vs : List V} {H : Hp} {Q : VK} {E : XK} (h : spWorth K vs H Q E) : vs.length = 3 := by
  obtain ⟨_, _, _, rfl, _⟩ := h; rfl
theorem ok_Worth {P : Program} {w : World} {K : PySem.W.Frag} {mg : Str → Option Value} {base : Heap} (T : Tx w K mg) : FnOk P w K mg base CX0 1 (He.fAd K dWorth.at_) (fdO K dWorth.at_) P_Worth (spWorth K) := by
  refine T.f_Worth.ok sc_Worth (fun vs H Q E h => len_Worth h) (fun cdv A outer s H vs Q E hr h => ⟨_, PSs.nox ((pss_one (ps_ret (pe_op op_fdiv (pe_op op_mul (pv 0) (pv 1)) (pv 2))))), ?_⟩)
  obtain ⟨n, c, p, rfl, hc, hp, q⟩ := h
  walk_at "rd"
  refine r_I (.inr hc) ?_
  walk_at "rd"
  exact r_I hp q
/-! ### a line -/
def LnAt (K : PySem.W.Frag) (H : Hp) (a : Addr) (l : Ln) : Prop := ∃ dx, H a = some (.ins (He.ga K "Line") dx (lnF l))
/-- the prices of a line are within their bounds -/
def Ln.ok (l : Ln) : Prop := (0 ≤ l.cents ∧ l.cents ≤ 1000000000) ∧ (1 ≤ l.pack ∧ l.pack ≤ 1000)
def Ln.kept (l : Ln) : Int := l.sent - l.home
def Ln.toCome (l : Ln) : Int := l.ordered - l.sent + l.again
def Ln.worth (l : Ln) : Int := l.kept * l.cents / l.pack
def Ln.charge (l : Ln) : Int := l.worth - l.credited
def spLn (K : PySem.W.Frag) (g : Ln → Int) : Sp := fun vs H Q _ => ∃ (a : Addr) (l : Ln), vs = [.ref a] ∧ LnAt K H a l ∧ l.ok ∧ Q (.int (g l)) H
theorem len_ln {K : PySem.W.Frag} {g : Ln → Int} {vs : List V} {H : Hp} {Q : VK} {E : XK} (h : spLn K g vs H Q E) : vs.length = 1 := by
  obtain ⟨_, _, rfl, _⟩ := h; rfl
abbrev spLineKept (K : PySem.W.Frag) := spLn K Ln.kept
abbrev spLineToCome (K : PySem.W.Frag) := spLn K Ln.toCome
abbrev spLineKeptWorth (K : PySem.W.Frag) := spLn K Ln.worth
abbrev spLineCharge (K : PySem.W.Frag) := spLn K Ln.charge
abbrev len_LineKept {K : PySem.W.Frag} {vs : List V} {H : Hp} {Q : VK} {E : XK} (h : spLineKept K vs H Q E) := len_ln h
abbrev len_LineToCome {K : PySem.W.Frag} {vs : List V} {H : Hp} {Q : VK} {E : XK} (h : spLineToCome K vs H Q E) := len_ln h
abbrev len_LineKeptWorth {K : PySem.W.Frag} {vs : List V} {H : Hp} {Q : VK} {E : XK} (h : spLineKeptWorth K vs H Q E) := len_ln h
abbrev len_LineCharge {K : PySem.W.Frag} {vs : List V} {H : Hp} {Q : VK} {E : XK} (h : spLineCharge K vs H Q E) := len_ln h
theorem ok_LineKept {P : Program} {w : World} {K : PySem.W.Frag} {mg : Str → Option Value} {base : Heap} (T : Tx w K mg) : FnOk P w K mg base CX0 1 (He.fAd K dLineKept.at_) (fdO K dLineKept.at_) P_LineKept (spLineKept K) := by
  refine T.f_LineKept.ok sc_LineKept (fun vs H Q E h => len_LineKept h) (fun cdv A outer s H vs Q E hr h => ⟨_, PSs.nox ((pss_one (ps_ret (pe_op op_sub (pe_fld (pv 0) rfl) (pe_fld (pv 0) rfl))))), ?_⟩)
  obtain ⟨a, l, rfl, ⟨dx, ha⟩, ho, q⟩ := h
  walk_at "rd"
  refine r_f ha T.cl_Line T.n_Line_sent (lk_Line_sent l) ?_
  walk_at "rd"
  refine r_f ha T.cl_Line T.n_Line_home (lk_Line_home l) ?_
  walk_at "rd"
  exact q
theorem ok_LineToCome {P : Program} {w : World} {K : PySem.W.Frag} {mg : Str → Option Value} {base : Heap} (T : Tx w K mg) : FnOk P w K mg base CX0 1 (He.fAd K dLineToCome.at_) (fdO K dLineToCome.at_) P_LineToCome (spLineToCome K) := by
  refine T.f_LineToCome.ok sc_LineToCome (fun vs H Q E h => len_LineToCome h) (fun cdv A outer s H vs Q E hr h => ⟨_, PSs.nox ((pss_one (ps_ret (pe_op op_add (pe_op op_sub (pe_fld (pv 0) rfl) (pe_fld (pv 0) rfl)) (pe_fld (pv 0) rfl))))), ?_⟩)
  obtain ⟨a, l, rfl, ⟨dx, ha⟩, ho, q⟩ := h
  walk_at "rd"
  refine r_f ha T.cl_Line T.n_Line_ordered (lk_Line_ordered l) ?_
  walk_at "rd"
  refine r_f ha T.cl_Line T.n_Line_sent (lk_Line_sent l) ?_
  walk_at "rd"
  refine r_f ha T.cl_Line T.n_Line_again (lk_Line_again l) ?_
  walk_at "rd"
  exact q
theorem ok_LineKeptWorth {P : Program} {w : World} {K : PySem.W.Frag} {mg : Str → Option Value} {base : Heap} (T : Tx w K mg) : FnOk P w K mg base CX0 2 (He.fAd K dLineKeptWorth.at_) (fdO K dLineKeptWorth.at_) P_LineKeptWorth (spLineKeptWorth K) := by
  refine T.f_LineKeptWorth.ok sc_LineKeptWorth (fun vs H Q E h => len_LineKeptWorth h) (fun cdv A outer s H vs Q E hr h => ⟨_, PSs.nox ((pss_one (ps_ret (pe_call (ok_Worth T) (hr.mono (by decide)) rfl T.g_Worth T.f_Worth.kp T.b_Worth .nil pass0 (pa_cons (pe_meth0 (pv 0) T.cl_Line T.m_Line_kept (ok_LineKept T) (hr.mono (by decide)) T.b_LineKept .nil pass0) (pa_cons (pe_fld (pv 0) rfl) (pa_cons (pe_fld (pv 0) rfl) pa_nil))))))), ?_⟩)
  obtain ⟨a, l, rfl, ⟨dx, ha⟩, ho, q⟩ := h
  walk_at "rd"
  refine r_m ha (no_Line_kept l) ?_
  walk_at "rd"
  refine ⟨a, l, rfl, ⟨dx, ha⟩, ho, ?_⟩
  walk_at "rd"
  refine r_f ha T.cl_Line T.n_Line_cents (lk_Line_cents l) ?_
  walk_at "rd"
  refine r_f ha T.cl_Line T.n_Line_pack (lk_Line_pack l) ?_
  walk_at "rd"
  obtain ⟨h1, h2⟩ := ho
  exact ⟨_, _, _, rfl, by omega, by omega, q⟩
theorem ok_LineCharge {P : Program} {w : World} {K : PySem.W.Frag} {mg : Str → Option Value} {base : Heap} (T : Tx w K mg) : FnOk P w K mg base CX0 3 (He.fAd K dLineCharge.at_) (fdO K dLineCharge.at_) P_LineCharge (spLineCharge K) := by
  refine T.f_LineCharge.ok sc_LineCharge (fun vs H Q E h => len_LineCharge h) (fun cdv A outer s H vs Q E hr h => ⟨_, PSs.nox ((pss_one (ps_ret (pe_op op_sub (pe_meth0 (pv 0) T.cl_Line T.m_Line_kept_worth (ok_LineKeptWorth T) (hr.mono (by decide)) T.b_LineKeptWorth .nil pass0) (pe_fld (pv 0) rfl))))), ?_⟩)
  obtain ⟨a, l, rfl, ⟨dx, ha⟩, ho, q⟩ := h
  walk_at "rd"
  refine r_m ha (no_Line_kept_worth l) ?_
  walk_at "rd"
  refine ⟨a, l, rfl, ⟨dx, ha⟩, ho, ?_⟩
  walk_at "rd"
  refine r_f ha T.cl_Line T.n_Line_credited (lk_Line_credited l) ?_
  walk_at "rd"
  exact q

/-! ### items, lines as they are told -/
abbrev letters : Str := "abcdefghijklmnopqrstuvwxyz"
def isItem (z : Str) : Bool := decide (∀ c ∈ z.cps.toList, c ∈ letters.cps.toList) && decide (1 ≤ z.length ∧ z.length ≤ 12)
def spIsItem (_ : PySem.W.Frag) : Sp := fun vs H Q _ => ∃ z : Str, vs = [.str z] ∧ z.length ≤ 100000 ∧ Q (.bl (isItem z)) H
theorem len_IsItem {K : PySem.W.Frag} {vs : List V} {H : Hp} {Q : VK} {E : XK} (h : spIsItem K vs H Q E) : vs.length = 1 := by
  obtain ⟨_, rfl, _⟩ := h; rfl
theorem isItem_no {z : Str} {i : Nat} {c : Nat} (h : z.cps[i]? = some c) (n : ¬ c ∈ letters.cps.toList) : isItem z = false := by
  have hm : c ∈ z.cps.toList := by
    have h2 : z.cps.toList[i]? = some c := by simpa using h
    exact List.mem_of_getElem? h2
  unfold isItem
  rw [decide_eq_false (fun q => n (q c hm))]
  rfl
theorem isItem_yes {z : Str} (h : ∀ j c, j < z.cps.size → z.cps[j]? = some c → c ∈ letters.cps.toList) : isItem z = decide (1 ≤ z.length ∧ z.length ≤ 12) := by
  unfold isItem
  rw [decide_eq_true (fun c hc => ?_)]
  · rfl
  · obtain ⟨j, hj⟩ := List.getElem?_of_mem hc
    have h2 : z.cps[j]? = some c := by simpa using hj
    exact h j c (Array.getElem?_eq_some_iff.mp h2).1 h2
theorem ok_IsItem {P : Program} {w : World} {K : PySem.W.Frag} {mg : Str → Option Value} {base : Heap} (T : Tx w K mg) : FnOk P w K mg base CX0 1 (He.fAd K dIsItem.at_) (fdO K dIsItem.at_) P_IsItem (spIsItem K) := by
  refine T.f_IsItem.ok sc_IsItem (fun vs H Q E h => len_IsItem h) (fun cdv A outer s H vs Q E hr h => ⟨_, PSs.nox ((pss_cons (ps_for PassesOwn.never rfl (pi_str (pv 0)) (pg_name (i := 1) sc_IsItem.nd rfl (Or.inl rfl)) (pss_one (ps_if (pt_cmpR op_notIn_sign (pv 1) (pe_gc rfl T.c_LETTERS) (by rfl)) (pss_one (ps_ret pe_bl)) pss_nil)))
      (pss_one (ps_ret (pe_chain op_le op_le pe_int (pe_callB call_len_str (by rfl) T.b_len (by decide +kernel) (pa_cons (pv 0) pa_nil)) (pe_gc rfl T.c_MOST_LETTERS)))))), ?_⟩)
  obtain ⟨z, rfl, hz, q⟩ := h
  walk_at "rd"
  refine ⟨z, rfl, for_it walk_str (fun i σ H' => ∃ v, σ = [some (.str z), v] ∧ H' = H ∧ ∀ j c, j < i → z.cps[j]? = some c → c ∈ letters.cps.toList) ⟨none, rfl, rfl, fun j c hj => absurd hj (Nat.not_lt_zero _)⟩ (fun _ _ _ _ _ => trivial) ?_ ?_⟩
  · rintro i x σ H1 H2 hi ⟨v, rfl, rfl, hp⟩ ⟨rfl, c, hc, rfl⟩
    walk_at "rd"
    refine ⟨c, _, rfl, rfl, ?_⟩
    walk_at "rd"
    refine r_itn (fun hn => ?_) (fun hy => ?_)
    · walk_at "rd"
      rw [isItem_no hc hn] at q
      exact q
    · walk_at "rd"
      refine ⟨_, rfl, rfl, fun j c' hj e => ?_⟩
      by_cases h : j = i
      · subst h
        rw [hc] at e
        rw [← Option.some.inj e]
        exact hy
      · exact hp j c' (by omega) e
  · rintro σ H1 ⟨v, rfl, rfl, hp⟩
    walk_at "rd"
    refine ⟨z, rfl, sz5 hz, ?_⟩
    rw [isItem_yes hp] at q
    walk_at "rd"
    refine r_itd (fun h1 => ?_) (fun h1 => ?_)
    · walk_at "rd"
      have e : decide (1 ≤ z.length ∧ z.length ≤ 12) = decide ((z.length : Int) ≤ 12) := by
        by_cases h2 : z.length ≤ 12
        · rw [decide_eq_true (by omega), decide_eq_true (by omega)]
        · rw [decide_eq_false (by omega), decide_eq_false (by omega)]
      rw [e] at q
      exact q
    · rw [decide_eq_false (by omega)] at q
      exact q
/-- a line as it is handed in -/
structure Lt where
  item : Str
  pieces : Int
  cents : Int
  pack : Int
def LtAt (H : Hp) (v : V) (t : Lt) : Prop := ∃ a, v = .ref a ∧ H a = some (.tup [.str t.item, .int t.pieces, .int t.cents, .int t.pack])
inductive Er where
  | noDeed | noLines | noItem | noNumber | fullBook | noOrder | sameOrder | noLine | tooMuch | nothingDone
  deriving DecidableEq
def Er.name : Er → Str
  | .noDeed => "NoDeed" | .noLines => "NoLines" | .noItem => "NoItem" | .noNumber => "NoNumber" | .fullBook => "FullBook"
  | .noOrder => "NoOrder" | .sameOrder => "SameOrder" | .noLine => "NoLine" | .tooMuch => "TooMuch" | .nothingDone => "NothingDone"
def numOk (t : Lt) : Prop := (1 ≤ t.pieces ∧ t.pieces ≤ 1000000) ∧ (0 ≤ t.cents ∧ t.cents ≤ 1000000000) ∧ (1 ≤ t.pack ∧ t.pack ≤ 1000)
instance (t : Lt) : Decidable (numOk t) := by unfold numOk; infer_instance
def ltCheck (t : Lt) : Option Er := if isItem t.item then (if numOk t then none else some .noNumber) else some .noItem
/-- what leaves: by the verdict -/
def Out (K : PySem.W.Frag) (r : Option Er) (ok : Prop) (E : Value → Prop) : Prop := match r with
  | none => ok
  | some e => E (.ref (He.ga K e.name))
def spCheckLine (K : PySem.W.Frag) : Sp := fun vs H Q E => ∃ (v : V) (t : Lt), vs = [v] ∧ LtAt H v t ∧ t.item.length ≤ 100000 ∧ Out K (ltCheck t) (Q .non H) fun c => E c none H
theorem len_CheckLine {K : PySem.W.Frag} {vs : List V} {H : Hp} {Q : VK} {E : XK} (h : spCheckLine K vs H Q E) : vs.length = 1 := by
  obtain ⟨_, _, rfl, _⟩ := h; rfl
theorem ok_CheckLine {P : Program} {w : World} {K : PySem.W.Frag} {mg : Str → Option Value} {base : Heap} (T : Tx w K mg) : FnOk P w K mg base (L2.CX P w) 2 (He.fAd K dCheckLine.at_) (fdO K dCheckLine.at_) P_CheckLine (spCheckLine K) := by
  refine T.f_CheckLine.ok sc_CheckLine (fun vs H Q E h => len_CheckLine h) (fun cdv A outer s H vs Q E hr h => ⟨_, ((pss_cons (ps_if (pt_not (pt_val (pe_call (ok_IsItem T) (hr.mono (by decide)) rfl T.g_IsItem T.f_IsItem.kp T.b_IsItem .nil pass0 (pa_cons (pe_ix ix_tup (pv 0) pe_int (fun _ _ => rfl)) pa_nil)))) (pss_one (ps_raise rfl (takes_of rfl rfl rfl rfl) (pmk_own PySem.F.excBase_ValueError T.x_NoItem.1 T.g_NoItem T.x_NoItem.2.1 (raises_own T.x_NoItem.2.2.1 T.x_NoItem.2.2.2) rfl))) pss_nil)
      (pss_cons (ps_if (pt_not (pt_chain op_le op_le pe_int (pe_ix ix_tup (pv 0) pe_int (fun _ _ => rfl)) (pe_gc rfl T.c_MOST_PIECES))) (pss_one (ps_raise rfl (takes_of rfl rfl rfl rfl) (pmk_own PySem.F.excBase_ValueError T.x_NoNumber.1 T.g_NoNumber T.x_NoNumber.2.1 (raises_own T.x_NoNumber.2.2.1 T.x_NoNumber.2.2.2) rfl))) pss_nil)
      (pss_one (ps_if (PW.pt (pw_or (pt_not (pt_chain op_le op_le pe_int (pe_ix ix_tup (pv 0) pe_int (fun _ _ => rfl)) (pe_gc rfl T.c_MOST_CENTS))) (pw_or1 (pt_not (pt_chain op_le op_le pe_int (pe_ix ix_tup (pv 0) pe_int (fun _ _ => rfl)) (pe_gc rfl T.c_MOST_PACK)))))) (pss_one (ps_raise rfl (takes_of rfl rfl rfl rfl) (pmk_own PySem.F.excBase_ValueError T.x_NoNumber.1 T.g_NoNumber T.x_NoNumber.2.1 (raises_own T.x_NoNumber.2.2.1 T.x_NoNumber.2.2.2) rfl))) pss_nil))))), ?_⟩)
  obtain ⟨v, t, rfl, ⟨a, rfl, ha⟩, hz, o⟩ := h
  walk_at "rd"
  refine r_ixT (SqT.of ha) (atI_get (j := 0) rfl rfl) ?_
  walk_at "rd"
  refine ⟨t.item, rfl, hz, ?_⟩
  walk_at "rd"
  unfold ltCheck at o
  cases hi : isItem t.item with
  | false =>
    rw [hi] at o
    walk_at "rd"
    exact o
  | true =>
    rw [hi, if_pos rfl] at o
    walk_at "rd"
    refine r_ixT (SqT.of ha) (atI_get (j := 1) rfl rfl) ?_
    walk_at "rd"
    have bad : ¬ numOk t → E (.ref (He.ga K "NoNumber")) none H := fun n => by
      rw [if_neg n] at o
      exact o
    refine r_itd (fun h1 => ?_) (fun h1 => ?_)
    · walk_at "rd"
      refine r_itn (fun h2 => ?_) (fun h2 => ?_)
      · exact bad fun z => h2 z.1.2
      walk_at "rd"
      refine r_ixT (SqT.of ha) (atI_get (j := 2) rfl rfl) ?_
      walk_at "rd"
      refine r_itd (fun h3 => ?_) (fun h3 => ?_)
      · walk_at "rd"
        refine r_itn (fun h4 => ?_) (fun h4 => ?_)
        · exact bad fun z => h4 z.2.1.2
        walk_at "rd"
        refine r_ixT (SqT.of ha) (atI_get (j := 3) rfl rfl) ?_
        walk_at "rd"
        refine r_itd (fun h5 => ?_) (fun h5 => ?_)
        · walk_at "rd"
          refine r_itn (fun h6 => ?_) (fun h6 => ?_)
          · exact bad fun z => h6 z.2.2.2
          walk_at "rd"
          rw [if_pos (show numOk t from ⟨⟨h1, h2⟩, ⟨h3, h4⟩, h5, h6⟩)] at o
          exact o
        · walk_at "rd"
          exact bad fun z => h5 z.2.2.1
      · walk_at "rd"
        exact bad fun z => h3 z.2.1.1
    · walk_at "rd"
      exact bad fun z => h1 z.1.1
/-! ### a line's deeds -/
def Lt.ln (t : Lt) : Ln := ⟨t.item, t.pieces, t.cents, t.pack, 0, 0, 0, 0⟩
def spLineInit (K : PySem.W.Frag) : Sp := fun vs H Q _ => ∃ (a dx : Addr) (v : V) (t : Lt), vs = [.ref a, v] ∧ H a = some (.ins (He.ga K "Line") dx []) ∧ LtAt H v t ∧ ∀ H', LnAt K H' a t.ln → But (· = a) H H' → Q .non H'
theorem len_LineInit {K : PySem.W.Frag} {vs : List V} {H : Hp} {Q : VK} {E : XK} (h : spLineInit K vs H Q E) : vs.length = 2 := by
  obtain ⟨_, _, _, _, rfl, _⟩ := h; rfl
theorem ok_LineInit {P : Program} {w : World} {K : PySem.W.Frag} {mg : Str → Option Value} {base : Heap} (T : Tx w K mg) : FnOk P w K mg base CX0 1 (He.fAd K dLineInit.at_) (fdO K dLineInit.at_) P_LineInit (spLineInit K) := by
  refine T.f_LineInit.ok sc_LineInit (fun vs H Q E h => len_LineInit h) (fun cdv A outer s H vs Q E hr h => ⟨_, PSs.nox ((pss_cons (ps_fld (pv 0) (pe_ix ix_tup (pv 1) pe_int (fun _ _ => rfl)) rfl)
      (pss_cons (ps_fld (pv 0) (pe_ix ix_tup (pv 1) pe_int (fun _ _ => rfl)) rfl)
      (pss_cons (ps_fld (pv 0) (pe_ix ix_tup (pv 1) pe_int (fun _ _ => rfl)) rfl)
      (pss_cons (ps_fld (pv 0) (pe_ix ix_tup (pv 1) pe_int (fun _ _ => rfl)) rfl)
      (pss_cons (ps_fld (pv 0) pe_int rfl)
      (pss_cons (ps_fld (pv 0) pe_int rfl)
      (pss_cons (ps_fld (pv 0) pe_int rfl)
      (pss_one (ps_fld (pv 0) pe_int rfl)))))))))), ?_⟩)
  obtain ⟨a, dx, v, t, rfl, ha, ⟨b, rfl, hb⟩, k⟩ := h
  have ab : b ≠ a := ne_of hb ha (by intro q; cases q)
  walk_at "rd"
  refine r_ixT (SqT.of hb) (atI_get (j := 0) rfl rfl) ?_
  walk_at "rd"
  refine r_sf ha T.cl_Line T.n_Line_item (by walk_at "pf") (by simp) ?_
  walk_at "rd"
  refine r_ixT (SqT.of (by rw [upd_ne ab]; exact hb)) (atI_get (j := 1) rfl rfl) ?_
  walk_at "rd"
  refine r_sf upd_same T.cl_Line T.n_Line_ordered (by walk_at "pf") (by simp) ?_
  rw [upd_upd]
  walk_at "rd"
  refine r_ixT (SqT.of (by rw [upd_ne ab]; exact hb)) (atI_get (j := 2) rfl rfl) ?_
  walk_at "rd"
  refine r_sf upd_same T.cl_Line T.n_Line_cents (by walk_at "pf") (by simp) ?_
  rw [upd_upd]
  walk_at "rd"
  refine r_ixT (SqT.of (by rw [upd_ne ab]; exact hb)) (atI_get (j := 3) rfl rfl) ?_
  walk_at "rd"
  refine r_sf upd_same T.cl_Line T.n_Line_pack (by walk_at "pf") (by simp) ?_
  rw [upd_upd]
  walk_at "rd"
  refine r_sf upd_same T.cl_Line T.n_Line_sent (by walk_at "pf") (by simp) ?_
  rw [upd_upd]
  walk_at "rd"
  refine r_sf upd_same T.cl_Line T.n_Line_home (by walk_at "pf") (by simp) ?_
  rw [upd_upd]
  walk_at "rd"
  refine r_sf upd_same T.cl_Line T.n_Line_again (by walk_at "pf") (by simp) ?_
  rw [upd_upd]
  walk_at "rd"
  refine r_sf upd_same T.cl_Line T.n_Line_credited (by walk_at "pf") (by simp) ?_
  rw [upd_upd]
  walk_at "rd"
  exact k _ ⟨dx, upd_same⟩ (But.ins ha rfl)
/-- a line's deed: refused, or the line behind it -/
def spLd (K : PySem.W.Frag) (g : Ln → Int → Option Ln) : Sp := fun vs H Q E => ∃ (a : Addr) (l : Ln) (n : Int), vs = [.ref a, .int n] ∧ LnAt K H a l ∧ l.ok ∧
  (g l n = none → E (.ref (He.ga K "TooMuch")) none H) ∧ ∀ l', g l n = some l' → ∀ H', LnAt K H' a l' → But (· = a) H H' → Q .non H'
theorem len_ld {K : PySem.W.Frag} {g : Ln → Int → Option Ln} {vs : List V} {H : Hp} {Q : VK} {E : XK} (h : spLd K g vs H Q E) : vs.length = 2 := by
  obtain ⟨_, _, _, rfl, _⟩ := h; rfl
def Ln.deliver (l : Ln) (n : Int) : Option Ln := if n > l.toCome then none else some { l with sent := l.sent + n }
def Ln.reduce (l : Ln) (n : Int) : Option Ln := if n > l.charge then none else some { l with credited := l.credited + n }
def Ln.cut (l : Ln) : Ln := { l with credited := if l.worth < l.credited then l.worth else l.credited }
def Ln.bring (anew : Bool) (l : Ln) (n : Int) : Option Ln := if n > l.kept then none else some (Ln.cut (if anew then { l with home := l.home + n, again := l.again + n } else { l with home := l.home + n }))
abbrev spLineDeliver (K : PySem.W.Frag) := spLd K Ln.deliver
abbrev spLineReduce (K : PySem.W.Frag) := spLd K Ln.reduce
abbrev len_LineDeliver {K : PySem.W.Frag} {vs : List V} {H : Hp} {Q : VK} {E : XK} (h : spLineDeliver K vs H Q E) := len_ld h
abbrev len_LineReduce {K : PySem.W.Frag} {vs : List V} {H : Hp} {Q : VK} {E : XK} (h : spLineReduce K vs H Q E) := len_ld h
theorem ok_LineDeliver {P : Program} {w : World} {K : PySem.W.Frag} {mg : Str → Option Value} {base : Heap} (T : Tx w K mg) : FnOk P w K mg base (L2.CX P w) 2 (He.fAd K dLineDeliver.at_) (fdO K dLineDeliver.at_) P_LineDeliver (spLineDeliver K) := by
  refine T.f_LineDeliver.ok sc_LineDeliver (fun vs H Q E h => len_LineDeliver h) (fun cdv A outer s H vs Q E hr h => ⟨_, ((pss_cons (ps_if (pt_cmpR op_gt (pv 1) (pe_meth0 (pv 0) T.cl_Line T.m_Line_to_come (ok_LineToCome T) (hr.mono (by decide)) T.b_LineToCome .nil pass0) (nomark _)) (pss_one (ps_raise rfl (takes_of rfl rfl rfl rfl) (pmk_own PySem.F.excBase_ValueError T.x_TooMuch.1 T.g_TooMuch T.x_TooMuch.2.1 (raises_own T.x_TooMuch.2.2.1 T.x_TooMuch.2.2.2) rfl))) pss_nil)
      (pss_one (ps_fld (pv 0) (pe_op op_add (pe_fld (pv 0) rfl) (pv 1)) rfl)))), ?_⟩)
  obtain ⟨a, l, n, rfl, ⟨dx, ha⟩, ho, no, k⟩ := h
  walk_at "rd"
  refine r_m ha (no_Line_to_come l) ?_
  walk_at "rd"
  refine ⟨a, l, rfl, ⟨dx, ha⟩, ho, ?_⟩
  walk_at "rd"
  unfold Ln.deliver at no k
  refine r_itd (fun c => ?_) (fun c => ?_)
  · rw [if_pos c] at no
    exact no rfl
  · rw [if_neg c] at k
    walk_at "rd"
    refine r_f ha T.cl_Line T.n_Line_sent (lk_Line_sent l) ?_
    walk_at "rd"
    refine r_sf ha T.cl_Line T.n_Line_sent (pt_Line_sent l _) (by show 8 ≤ 20; decide) ?_
    exact k _ rfl _ ⟨dx, upd_same⟩ (But.ins ha rfl)
theorem ok_LineReduce {P : Program} {w : World} {K : PySem.W.Frag} {mg : Str → Option Value} {base : Heap} (T : Tx w K mg) : FnOk P w K mg base (L2.CX P w) 4 (He.fAd K dLineReduce.at_) (fdO K dLineReduce.at_) P_LineReduce (spLineReduce K) := by
  refine T.f_LineReduce.ok sc_LineReduce (fun vs H Q E h => len_LineReduce h) (fun cdv A outer s H vs Q E hr h => ⟨_, ((pss_cons (ps_if (pt_cmpR op_gt (pv 1) (pe_meth0 (pv 0) T.cl_Line T.m_Line_charge (ok_LineCharge T) (hr.mono (by decide)) T.b_LineCharge .nil pass0) (nomark _)) (pss_one (ps_raise rfl (takes_of rfl rfl rfl rfl) (pmk_own PySem.F.excBase_ValueError T.x_TooMuch.1 T.g_TooMuch T.x_TooMuch.2.1 (raises_own T.x_TooMuch.2.2.1 T.x_TooMuch.2.2.2) rfl))) pss_nil)
      (pss_one (ps_fld (pv 0) (pe_op op_add (pe_fld (pv 0) rfl) (pv 1)) rfl)))), ?_⟩)
  obtain ⟨a, l, n, rfl, ⟨dx, ha⟩, ho, no, k⟩ := h
  walk_at "rd"
  refine r_m ha (no_Line_charge l) ?_
  walk_at "rd"
  refine ⟨a, l, rfl, ⟨dx, ha⟩, ho, ?_⟩
  walk_at "rd"
  unfold Ln.reduce at no k
  refine r_itd (fun c => ?_) (fun c => ?_)
  · rw [if_pos c] at no
    exact no rfl
  · rw [if_neg c] at k
    walk_at "rd"
    refine r_f ha T.cl_Line T.n_Line_credited (lk_Line_credited l) ?_
    walk_at "rd"
    refine r_sf ha T.cl_Line T.n_Line_credited (pt_Line_credited l _) (by show 8 ≤ 20; decide) ?_
    exact k _ rfl _ ⟨dx, upd_same⟩ (But.ins ha rfl)
def spLineBring (K : PySem.W.Frag) : Sp := fun vs H Q E => ∃ (b : Bool) (v : V) (n : V), vs = [v, n, .bl b] ∧ spLd K (Ln.bring b) [v, n] H Q E
theorem len_LineBring {K : PySem.W.Frag} {vs : List V} {H : Hp} {Q : VK} {E : XK} (h : spLineBring K vs H Q E) : vs.length = 3 := by
  obtain ⟨_, _, _, rfl, _⟩ := h; rfl
theorem ok_LineBring {P : Program} {w : World} {K : PySem.W.Frag} {mg : Str → Option Value} {base : Heap} (T : Tx w K mg) : FnOk P w K mg base (L2.CX P w) 3 (He.fAd K dLineBring.at_) (fdO K dLineBring.at_) P_LineBring (spLineBring K) := by
  refine T.f_LineBring.ok sc_LineBring (fun vs H Q E h => len_LineBring h) (fun cdv A outer s H vs Q E hr h => ⟨_, ((pss_cons (ps_if (pt_cmpR op_gt (pv 1) (pe_meth0 (pv 0) T.cl_Line T.m_Line_kept (ok_LineKept T) (hr.mono (by decide)) T.b_LineKept .nil pass0) (nomark _)) (pss_one (ps_raise rfl (takes_of rfl rfl rfl rfl) (pmk_own PySem.F.excBase_ValueError T.x_TooMuch.1 T.g_TooMuch T.x_TooMuch.2.1 (raises_own T.x_TooMuch.2.2.1 T.x_TooMuch.2.2.2) rfl))) pss_nil)
      (pss_cons (ps_fld (pv 0) (pe_op op_add (pe_fld (pv 0) rfl) (pv 1)) rfl)
      (pss_cons (ps_if (pt_val (pv 2)) (pss_one (ps_fld (pv 0) (pe_op op_add (pe_fld (pv 0) rfl) (pv 1)) rfl)) pss_nil)
      (pss_one (ps_fld (pv 0) (pe_callB (call_min2 rfl) (by rfl) T.b_min (by decide +kernel) (pa_cons (pe_fld (pv 0) rfl) (pa_cons (pe_meth0 (pv 0) T.cl_Line T.m_Line_kept_worth (ok_LineKeptWorth T) (hr.mono (by decide)) T.b_LineKeptWorth .nil pass0) pa_nil))) rfl)))))), ?_⟩)
  obtain ⟨anew, v, n, rfl, a, l, m, e, ⟨dx, ha⟩, ho, no, k⟩ := h
  cases e
  walk_at "rd"
  refine r_m ha (no_Line_kept l) ?_
  walk_at "rd"
  refine ⟨a, l, rfl, ⟨dx, ha⟩, ho, ?_⟩
  walk_at "rd"
  unfold Ln.bring at no k
  refine r_itd (fun c => ?_) (fun c => ?_)
  · rw [if_pos c] at no
    exact no rfl
  · rw [if_neg c] at k
    walk_at "rd"
    refine r_f ha T.cl_Line T.n_Line_home (lk_Line_home l) ?_
    walk_at "rd"
    refine r_sf ha T.cl_Line T.n_Line_home (pt_Line_home l _) (by show 8 ≤ 20; decide) ?_
    walk_at "rd"
    have fin : ∀ (l2 : Ln) (H2 : Hp), l2.ok → H2 a = some (.ins (He.ga K "Line") dx (lnF l2)) → But (· = a) H H2 → (∀ H', LnAt K H' a l2.cut → But (· = a) H H' → Q .non H') → sFld K (tVar 0)
        (tCB (fun xs H Q => ∃ i j, xs = [V.int i, V.int j] ∧ Q (V.int (if j < i then j else i)) H) (tCons (tFld K (tVar 0) "credited") (tCons (tMeth (He.ga K "Line") "kept_worth" (spLineKeptWorth K) [] E0 (tVar 0) tNil) tNil)))
        "credited" { nx := fun _ H' => Q .non H', rt := Q } (start N_LineBring [V.ref a, V.int m, V.bl anew]) H2 := by
      intro l2 H2 ok2 h2 b2 k2
      walk_at "rd"
      refine r_f h2 T.cl_Line T.n_Line_credited (lk_Line_credited l2) ?_
      walk_at "rd"
      refine r_m h2 (no_Line_kept_worth l2) ?_
      walk_at "rd"
      refine ⟨a, l2, rfl, ⟨dx, h2⟩, ok2, ?_⟩
      walk_at "rd"
      refine ⟨_, _, rfl, ?_⟩
      walk_at "rd"
      refine r_sf h2 T.cl_Line T.n_Line_credited (pt_Line_credited l2 _) (by show 8 ≤ 20; decide) ?_
      exact k2 _ ⟨dx, upd_same⟩ (b2.trans (But.ins h2 rfl))
    cases anew with
    | true =>
      walk_at "rd"
      refine r_f upd_same T.cl_Line T.n_Line_again (lk_Line_again _) ?_
      walk_at "rd"
      refine r_sf upd_same T.cl_Line T.n_Line_again (pt_Line_again _ _) (by show 8 ≤ 20; decide) ?_
      rw [upd_upd]
      exact fin { l with home := l.home + m, again := l.again + m } _ ho upd_same (But.ins ha rfl) (fun H' h1 h2 => k _ rfl H' h1 h2)
    | false =>
      refine r_itF (r_next ?_)
      exact fin { l with home := l.home + m } _ ho upd_same (But.ins ha rfl) (fun H' h1 h2 => k _ rfl H' h1 h2)
def lnTold (l : Ln) : List V := [.str l.item, .int l.ordered, .int l.sent, .int l.home, .int l.again, .int l.credited]
def spLineNumbers (K : PySem.W.Frag) : Sp := fun vs H Q _ => ∃ (a : Addr) (l : Ln), vs = [.ref a] ∧ LnAt K H a l ∧ ∀ p, H p = none → Q (.ref p) (upd H p (.tup (lnTold l)))
theorem len_LineNumbers {K : PySem.W.Frag} {vs : List V} {H : Hp} {Q : VK} {E : XK} (h : spLineNumbers K vs H Q E) : vs.length = 1 := by
  obtain ⟨_, _, rfl, _⟩ := h; rfl
theorem ok_LineNumbers {P : Program} {w : World} {K : PySem.W.Frag} {mg : Str → Option Value} {base : Heap} (T : Tx w K mg) : FnOk P w K mg base CX0 1 (He.fAd K dLineNumbers.at_) (fdO K dLineNumbers.at_) P_LineNumbers (spLineNumbers K) := by
  refine T.f_LineNumbers.ok sc_LineNumbers (fun vs H Q E h => len_LineNumbers h) (fun cdv A outer s H vs Q E hr h => ⟨_, PSs.nox ((pss_one (ps_ret (pe_tup (pa_cons (pe_fld (pv 0) rfl) (pa_cons (pe_fld (pv 0) rfl) (pa_cons (pe_fld (pv 0) rfl) (pa_cons (pe_fld (pv 0) rfl) (pa_cons (pe_fld (pv 0) rfl) (pa_cons (pe_fld (pv 0) rfl) pa_nil)))))))))), ?_⟩)
  obtain ⟨a, l, rfl, ⟨dx, ha⟩, k⟩ := h
  walk_at "rd"
  refine r_f ha T.cl_Line T.n_Line_item (lk_Line_item l) ?_
  walk_at "rd"
  refine r_f ha T.cl_Line T.n_Line_ordered (lk_Line_ordered l) ?_
  walk_at "rd"
  refine r_f ha T.cl_Line T.n_Line_sent (lk_Line_sent l) ?_
  walk_at "rd"
  refine r_f ha T.cl_Line T.n_Line_home (lk_Line_home l) ?_
  walk_at "rd"
  refine r_f ha T.cl_Line T.n_Line_again (lk_Line_again l) ?_
  walk_at "rd"
  refine r_f ha T.cl_Line T.n_Line_credited (lk_Line_credited l) ?_
  walk_at "rd"
  exact r_mk (by simp) k

/-! ### an order -/
structure Od where
  lines : List Ln
  money : Int
  marks : List (Str × Int)
/-- where an order lies -/
structure OL where
  o : Addr
  ll : Addr
  lm : Addr
  las : List Addr
def OL.foot (p : OL) (a : Addr) : Prop := a = p.o ∨ a = p.ll ∨ a = p.lm ∨ a ∈ p.las
def MkAt (H : Hp) (v : V) (m : Str × Int) : Prop := ∃ b, v = .ref b ∧ H b = some (.tup [.str m.1, .int m.2])
structure OdAt (K : PySem.W.Frag) (H : Hp) (p : OL) (o : Od) : Prop where
  ob : ∃ dx, H p.o = some (.ins (He.ga K "Order") dx (odF p.ll o.money p.lm))
  ll : H p.ll = some (.lst (p.las.map V.ref))
  len : p.las.length = o.lines.length
  ln : ∀ (i : Nat) a l, p.las[i]? = some a → o.lines[i]? = some l → LnAt K H a l
  nd : p.las.Nodup
  dif : p.ll ≠ p.lm
  lm : ∃ ts, H p.lm = some (.lst ts) ∧ Paired (MkAt H) ts o.marks
structure Od.ok (o : Od) : Prop where
  ln : ∀ l, l ∈ o.lines → l.ok
  few : o.lines.length ≤ 20
def Od.owing (o : Od) : Int := (o.lines.map Ln.charge).sum - o.money
theorem But.lnAt {K : PySem.W.Frag} {S : Addr → Prop} {H H' : Hp} {a : Addr} {l : Ln} (b : But S H H') (h : LnAt K H a l) (n : ¬ S a) : LnAt K H' a l := by
  obtain ⟨dx, e⟩ := h
  exact ⟨dx, b.keep _ _ e n⟩
theorem But.mks {S : Addr → Prop} {H H' : Hp} (b : But S H H') {ts : List V} {ms : List (Str × Int)} (h : Paired (MkAt H) ts ms) : Paired (MkAt H') ts ms :=
  Paired.mapP h fun _ _ ⟨c, e, q⟩ => ⟨c, e, b.tup _ _ q⟩
/-- an order that is left alone -/
theorem OdAt.keep {K : PySem.W.Frag} {S : Addr → Prop} {H H' : Hp} {p : OL} {o : Od} (h : OdAt K H p o) (b : But S H H') (n : ∀ a, p.foot a → ¬ S a) : OdAt K H' p o where
  ob := by
    obtain ⟨dx, e⟩ := h.ob
    exact ⟨dx, b.keep _ _ e (n _ (.inl rfl))⟩
  ll := b.keep _ _ h.ll (n _ (.inr (.inl rfl)))
  len := h.len
  ln := fun i a l e1 e2 => b.lnAt (h.ln i a l e1 e2) (n _ (.inr (.inr (.inr (List.mem_of_getElem? e1)))))
  nd := h.nd
  dif := h.dif
  lm := by
    obtain ⟨ts, e, q⟩ := h.lm
    exact ⟨ts, b.keep _ _ e (n _ (.inr (.inr (.inl rfl)))), b.mks q⟩
theorem OdAt.same {K : PySem.W.Frag} {H H' : Hp} {p : OL} {o : Od} (h : OdAt K H p o) (s : Same H H') : OdAt K H' p o := h.keep (But.of (S := fun _ => False) s) fun _ _ => id
theorem ref_at {as : List Addr} {i : Nat} {x : V} (h : (as.map V.ref)[i]? = some x) : ∃ a, as[i]? = some a ∧ x = V.ref a := by
  rw [List.getElem?_map] at h
  cases e : as[i]? with
  | none => rw [e] at h; cases h
  | some a =>
    rw [e] at h
    exact ⟨a, rfl, (Option.some.inj h).symm⟩
def spOrderOwing (K : PySem.W.Frag) : Sp := fun vs H Q _ => ∃ (p : OL) (o : Od), vs = [.ref p.o] ∧ OdAt K H p o ∧ o.ok ∧ ∀ H', Same H H' → Q (.int o.owing) H'
theorem len_OrderOwing {K : PySem.W.Frag} {vs : List V} {H : Hp} {Q : VK} {E : XK} (h : spOrderOwing K vs H Q E) : vs.length = 1 := by
  obtain ⟨_, _, rfl, _⟩ := h; rfl
theorem ok_OrderOwing {P : Program} {w : World} {K : PySem.W.Frag} {mg : Str → Option Value} {base : Heap} (T : Tx w K mg) : FnOk P w K mg base CX0 4 (He.fAd K dOrderOwing.at_) (fdO K dOrderOwing.at_) P_OrderOwing (spOrderOwing K) := by
  refine T.f_OrderOwing.ok sc_OrderOwing (fun vs H Q E h => len_OrderOwing h) (fun cdv A outer s H vs Q E hr h => ⟨_, PSs.nox ((pss_one (ps_ret (pe_op op_sub (pe_callB (cr_sum rfl) (by rfl) T.b_sum (by decide +kernel) (pa_cons (pe_lc (own := [("line", 1)]) (g := gName 1) (tt := tYes) rfl sc_OrderOwing.nd (pi_list (pe_fld (pv 0) rfl)) (blkOk_by (N := N_OrderOwing) (sc := defScope sOrderOwing) (by decide +kernel)) (fun _ _ _ _ _ => pg_name (i := 1) sc_OrderOwing.nd rfl (Or.inl rfl)) (fun _ _ _ _ _ => pts_nil) (fun _ _ _ _ _ => (pe_meth0 (pv 1) T.cl_Line T.m_Line_charge (ok_LineCharge T) (hr.mono (by decide)) T.b_LineCharge .nil pass0))) pa_nil)) (pe_fld (pv 0) rfl))))), ?_⟩)
  obtain ⟨p, o, rfl, O, ok, k⟩ := h
  obtain ⟨dx, ho⟩ := O.ob
  walk_at "rd"
  refine r_f ho T.cl_Order T.n_Order_lines (lk_Order_lines _ _ _) ?_
  refine lcp_list (ys := o.lines.map fun l => V.int l.charge) (SqL.of O.ll) (by simp [O.len]) (by have := ok.few; simp [O.len]; omega) ?_ ?_
  · intro i x y H' R ex ey s q
    obtain ⟨a, ea, rfl⟩ := ref_at ex
    rw [List.getElem?_map] at ey
    cases el : o.lines[i]? with
    | none => rw [el] at ey; cases ey
    | some l =>
      rw [el] at ey
      have e2 : V.int l.charge = y := Option.some.inj ey
      subst e2
      obtain ⟨dl, hl⟩ := O.ln i a l ea el
      walk_at "rd"
      refine r_m (s _ _ hl) (no_Line_charge l) ?_
      walk_at "rd"
      exact ⟨a, l, rfl, ⟨dl, s _ _ hl⟩, ok.ln l (List.mem_of_getElem? el), q _ (Same.refl _)⟩
  · intro D H' hD s e
    walk_at "rd"
    refine ⟨D, o.lines.map Ln.charge, rfl, SqL.of (by rw [e, List.map_map]; rfl), ?_⟩
    walk_at "rd"
    refine r_f (s _ _ ho) T.cl_Order T.n_Order_money (lk_Order_money _ _ _) ?_
    walk_at "rd"
    exact k _ s
def spOrderNeedOver (K : PySem.W.Frag) : Sp := fun vs H Q E => ∃ (p : OL) (o : Od) (n : Int), vs = [.ref p.o, .int n] ∧ OdAt K H p o ∧ o.ok ∧
  (n > -o.owing → ∀ H', Same H H' → E (.ref (He.ga K "TooMuch")) none H') ∧ (¬ n > -o.owing → ∀ H', Same H H' → Q .non H')
theorem len_OrderNeedOver {K : PySem.W.Frag} {vs : List V} {H : Hp} {Q : VK} {E : XK} (h : spOrderNeedOver K vs H Q E) : vs.length = 2 := by
  obtain ⟨_, _, _, rfl, _⟩ := h; rfl
theorem ok_OrderNeedOver {P : Program} {w : World} {K : PySem.W.Frag} {mg : Str → Option Value} {base : Heap} (T : Tx w K mg) : FnOk P w K mg base (L2.CX P w) 5 (He.fAd K dOrderNeedOver.at_) (fdO K dOrderNeedOver.at_) P_OrderNeedOver (spOrderNeedOver K) := by
  refine T.f_OrderNeedOver.ok sc_OrderNeedOver (fun vs H Q E h => len_OrderNeedOver h) (fun cdv A outer s H vs Q E hr h => ⟨_, ((pss_one (ps_if (pt_cmpR op_gt (pv 1) (pe_un un_neg (pe_meth0 (pv 0) T.cl_Order T.m_Order_owing (ok_OrderOwing T) (hr.mono (by decide)) T.b_OrderOwing .nil pass0)) (nomark _)) (pss_one (ps_raise rfl (takes_of rfl rfl rfl rfl) (pmk_own PySem.F.excBase_ValueError T.x_TooMuch.1 T.g_TooMuch T.x_TooMuch.2.1 (raises_own T.x_TooMuch.2.2.1 T.x_TooMuch.2.2.2) rfl))) pss_nil))), ?_⟩)
  obtain ⟨p, o, n, rfl, O, ok, k1, k2⟩ := h
  obtain ⟨dx, ho⟩ := O.ob
  walk_at "rd"
  refine r_m ho (no_Order_owing _ _ _) ?_
  walk_at "rd"
  refine ⟨p, o, rfl, O, ok, fun H' s => ?_⟩
  walk_at "rd"
  refine r_itd (fun c => k1 c _ s) (fun c => ?_)
  walk_at "rd"
  exact k2 c _ s
def spOrderLineOf (K : PySem.W.Frag) : Sp := fun vs H Q E => ∃ (p : OL) (o : Od) (n : Int), vs = [.ref p.o, .int n] ∧ OdAt K H p o ∧
  (¬ (0 ≤ n ∧ n < o.lines.length) → E (.ref (He.ga K "NoLine")) none H) ∧ (∀ (i : Nat) a, n = (i : Int) → p.las[i]? = some a → Q (.ref a) H)
theorem len_OrderLineOf {K : PySem.W.Frag} {vs : List V} {H : Hp} {Q : VK} {E : XK} (h : spOrderLineOf K vs H Q E) : vs.length = 2 := by
  obtain ⟨_, _, _, rfl, _⟩ := h; rfl
theorem ok_OrderLineOf {P : Program} {w : World} {K : PySem.W.Frag} {mg : Str → Option Value} {base : Heap} (T : Tx w K mg) : FnOk P w K mg base (L2.CX P w) 1 (He.fAd K dOrderLineOf.at_) (fdO K dOrderLineOf.at_) P_OrderLineOf (spOrderLineOf K) := by
  refine T.f_OrderLineOf.ok sc_OrderLineOf (fun vs H Q E h => len_OrderLineOf h) (fun cdv A outer s H vs Q E hr h => ⟨_, ((pss_cons (ps_if (pt_not (pt_chain op_le op_lt pe_int (pv 1) (pe_callB call_len_seq (by rfl) T.b_len (by decide +kernel) (pa_cons (pe_fld (pv 0) rfl) pa_nil)))) (pss_one (ps_raise rfl (takes_of rfl rfl rfl rfl) (pmk_own PySem.F.excBase_ValueError T.x_NoLine.1 T.g_NoLine T.x_NoLine.2.1 (raises_own T.x_NoLine.2.2.1 T.x_NoLine.2.2.2) rfl))) pss_nil)
      (pss_one (ps_ret (pe_ix ix_list (pe_fld (pv 0) rfl) (pv 1) (fun _ _ => rfl)))))), ?_⟩)
  obtain ⟨p, o, n, rfl, O, k1, k2⟩ := h
  obtain ⟨dx, ho⟩ := O.ob
  walk_at "rd"
  refine r_itd (fun c => ?_) (fun c => ?_)
  · walk_at "rd"
    refine r_f ho T.cl_Order T.n_Order_lines (lk_Order_lines _ _ _) ?_
    walk_at "rd"
    refine ⟨_, _, rfl, .inl (SqL.of O.ll), ?_⟩
    walk_at "rd"
    rw [List.length_map, O.len]
    refine r_itn (fun c2 => k1 fun z => c2 z.2) (fun c2 => ?_)
    walk_at "rd"
    refine r_f ho T.cl_Order T.n_Order_lines (lk_Order_lines _ _ _) ?_
    walk_at "rd"
    obtain ⟨i, rfl⟩ : ∃ i : Nat, n = (i : Int) := ⟨n.toNat, by omega⟩
    have hi : i < p.las.length := by rw [O.len]; omega
    refine r_ixL (SqL.of O.ll) (atI_get (j := i) rfl (by rw [List.getElem?_map, List.getElem?_eq_getElem hi]; rfl)) ?_
    exact k2 i _ rfl (List.getElem?_eq_getElem hi)
  · walk_at "rd"
    exact k1 fun z => c z.1
def spOrderTake (K : PySem.W.Frag) : Sp := fun vs H Q _ => ∃ (p : OL) (o : Od) (n : Int), vs = [.ref p.o, .int n] ∧ OdAt K H p o ∧
  ∀ H', OdAt K H' p { o with money := o.money + n } → But (· = p.o) H H' → Q .non H'
theorem len_OrderTake {K : PySem.W.Frag} {vs : List V} {H : Hp} {Q : VK} {E : XK} (h : spOrderTake K vs H Q E) : vs.length = 2 := by
  obtain ⟨_, _, _, rfl, _⟩ := h; rfl
theorem ln_ne {K : PySem.W.Frag} {H : Hp} {a b C dx : Addr} {l : Ln} {x y : Addr} {m : Int} (h : LnAt K H a l) (q : H b = some (.ins C dx (odF x m y))) : a ≠ b := by
  obtain ⟨d, e⟩ := h
  refine ne_of e q fun z => ?_
  injection z with _ _ z
  have z2 := congrArg List.length z
  revert z2
  show 8 = 3 → False
  decide
theorem ok_OrderTake {P : Program} {w : World} {K : PySem.W.Frag} {mg : Str → Option Value} {base : Heap} (T : Tx w K mg) : FnOk P w K mg base CX0 1 (He.fAd K dOrderTake.at_) (fdO K dOrderTake.at_) P_OrderTake (spOrderTake K) := by
  refine T.f_OrderTake.ok sc_OrderTake (fun vs H Q E h => len_OrderTake h) (fun cdv A outer s H vs Q E hr h => ⟨_, PSs.nox ((pss_one (ps_fld (pv 0) (pe_op op_add (pe_fld (pv 0) rfl) (pv 1)) rfl))), ?_⟩)
  obtain ⟨p, o, n, rfl, O, k⟩ := h
  obtain ⟨dx, ho⟩ := O.ob
  walk_at "rd"
  refine r_f ho T.cl_Order T.n_Order_money (lk_Order_money _ _ _) ?_
  walk_at "rd"
  refine r_sf ho T.cl_Order T.n_Order_money (pt_Order_money _ _ _ _) (by show 3 ≤ 20; decide) ?_
  have b : But (· = p.o) H (upd H p.o (.ins (He.ga K "Order") dx (odF p.ll (o.money + n) p.lm))) := But.ins ho rfl
  obtain ⟨ts, et, pt⟩ := O.lm
  refine k _ ⟨⟨dx, upd_same⟩, ?_, O.len, fun i a l e1 e2 => ?_, O.nd, O.dif, ts, ?_, b.mks pt⟩ b
  · exact b.keep _ _ O.ll (ne_of O.ll ho (by intro q; cases q))
  · exact b.lnAt (O.ln i a l e1 e2) (ln_ne (O.ln i a l e1 e2) ho)
  · exact b.keep _ _ et (ne_of et ho (by intro q; cases q))
def spOrderMark (K : PySem.W.Frag) : Sp := fun vs H Q _ => ∃ (p : OL) (o : Od) (w : Str) (n : Int), vs = [.ref p.o, .str w, .int n] ∧ OdAt K H p o ∧ o.ok ∧ o.marks.length < 100000 ∧
  ∀ H', OdAt K H' p { o with marks := o.marks ++ [(w, o.owing - n)] } → But (· = p.lm) H H' → Q (.int (o.owing - n)) H'
theorem len_OrderMark {K : PySem.W.Frag} {vs : List V} {H : Hp} {Q : VK} {E : XK} (h : spOrderMark K vs H Q E) : vs.length = 3 := by
  obtain ⟨_, _, _, _, rfl, _⟩ := h; rfl
theorem ok_OrderMark {P : Program} {w : World} {K : PySem.W.Frag} {mg : Str → Option Value} {base : Heap} (T : Tx w K mg) : FnOk P w K mg base CX0 5 (He.fAd K dOrderMark.at_) (fdO K dOrderMark.at_) P_OrderMark (spOrderMark K) := by
  refine T.f_OrderMark.ok sc_OrderMark (fun vs H Q E h => len_OrderMark h) (fun cdv A outer s H vs Q E hr h => ⟨_, PSs.nox ((pss_cons (ps_set (i := 3) sc_OrderMark.nd rfl (Or.inl rfl) (pe_op op_sub (pe_meth0 (pv 0) T.cl_Order T.m_Order_owing (ok_OrderOwing T) (hr.mono (by decide)) T.b_OrderOwing .nil pass0) (pv 2)))
      (pss_cons (ps_expr (pe_bm PySem.F.plainAttrs_list PySem.F.slot_list_append PySem.F.type_list_append mt_append (pe_fld (pv 0) rfl) (pa_cons (pe_tup (pa_cons (pv 1) (pa_cons (pv 3) pa_nil))) pa_nil)))
      (pss_one (ps_ret (pv 3)))))), ?_⟩)
  obtain ⟨p, o, w', n, rfl, O, ok, hz, k⟩ := h
  obtain ⟨dx, ho⟩ := O.ob
  walk_at "rd"
  refine r_m ho (no_Order_owing _ _ _) ?_
  walk_at "rd"
  refine ⟨p, o, rfl, O, ok, fun H1 s => ?_⟩
  walk_at "rd"
  refine r_f (s _ _ ho) T.cl_Order T.n_Order_marks (lk_Order_marks _ _ _) ?_
  obtain ⟨ts, et, pt⟩ := O.lm
  refine r_tyL (SqL.of (s _ _ et)) ?_
  walk_at "rd"
  refine r_mk (by simp) fun b hb => ?_
  walk_at "rd"
  have ne1 : p.lm ≠ b := ne_of_none (s _ _ et) hb
  have e1 : upd H1 b (.tup [V.str w', V.int (o.owing - n)]) p.lm = some (.lst ts) := by
    rw [upd_ne ne1]; exact s _ _ et
  refine r_app e1 (by rw [pt.length]; exact sz5l hz) ?_
  walk_at "rd"
  have s2 : Same H (upd H1 b (.tup [V.str w', V.int (o.owing - n)])) := s.trans (same_upd hb)
  have bt : But (· = p.lm) H (upd (upd H1 b (.tup [V.str w', V.int (o.owing - n)])) p.lm (.lst (ts ++ [.ref b]))) := (But.of s2).trans (But.lst e1 rfl)
  refine k _ ⟨⟨dx, ?_⟩, ?_, O.len, fun i a l h1 h2 => ?_, O.nd, O.dif, _, upd_same, ?_⟩ bt
  · exact bt.keep _ _ ho (ne_of ho et (by intro q; cases q))
  · exact bt.keep _ _ O.ll O.dif
  · obtain ⟨dl, hl⟩ := O.ln i a l h1 h2
    exact bt.lnAt ⟨dl, hl⟩ (ne_of hl et (by intro q; cases q))
  · refine Paired.snoc (bt.mks pt) ⟨b, rfl, ?_⟩
    rw [upd_ne (Ne.symm ne1)]
    exact upd_same

/-! ### an order's line is turned -/
theorem OdAt.line {K : PySem.W.Frag} {H H' : Hp} {p : OL} {o : Od} {i : Nat} {a : Addr} {l l' : Ln} (O : OdAt K H p o) (ea : p.las[i]? = some a) (el : o.lines[i]? = some l) (h : LnAt K H' a l') (b : But (· = a) H H') :
    OdAt K H' p { o with lines := o.lines.set i l' } := by
  obtain ⟨dx, ho⟩ := O.ob
  obtain ⟨da, ha⟩ := O.ln i a l ea el
  obtain ⟨ts, et, pt⟩ := O.lm
  refine ⟨⟨dx, b.keep _ _ ho (Ne.symm (ln_ne ⟨da, ha⟩ ho))⟩, b.keep _ _ O.ll (ne_of O.ll ha (by intro q; cases q)), by simp [O.len], fun j c m e1 e2 => ?_, O.nd, O.dif, ts, b.keep _ _ et (ne_of et ha (by intro q; cases q)), b.mks pt⟩
  by_cases hj : i = j
  · subst hj
    have hl : i < o.lines.length := (List.getElem?_eq_some_iff.mp el).1
    rw [ea] at e1
    cases e1
    rw [List.getElem?_set_self hl] at e2
    cases e2
    exact h
  · rw [List.getElem?_set_ne hj] at e2
    refine b.lnAt (O.ln j c m e1 e2) fun z => hj ?_
    subst z
    exact nd_ix O.nd ea e1
def Ln.turn (w : Str) (l : Ln) (n : Int) : Option Ln := if w = "deliver" then l.deliver n else if w = "credit" then l.reduce n else l.bring (decide (w = "swap")) n
def spOrderTurnLine (K : PySem.W.Frag) : Sp := fun vs H Q E => ∃ (p : OL) (o : Od) (w : Str) (i : Nat) (l : Ln) (n : Int), vs = [.ref p.o, .str w, .int (i : Int), .int n] ∧ OdAt K H p o ∧ o.ok ∧ o.lines[i]? = some l ∧
  (l.turn w n = none → E (.ref (He.ga K "TooMuch")) none H) ∧ ∀ l', l.turn w n = some l' → ∀ H', OdAt K H' p { o with lines := o.lines.set i l' } → But (· ∈ p.las) H H' → Q .non H'
theorem len_OrderTurnLine {K : PySem.W.Frag} {vs : List V} {H : Hp} {Q : VK} {E : XK} (h : spOrderTurnLine K vs H Q E) : vs.length = 4 := by
  obtain ⟨_, _, _, _, _, _, rfl, _⟩ := h; rfl
theorem ok_OrderTurnLine {P : Program} {w : World} {K : PySem.W.Frag} {mg : Str → Option Value} {base : Heap} (T : Tx w K mg) : FnOk P w K mg base (L2.CX P w) 5 (He.fAd K dOrderTurnLine.at_) (fdO K dOrderTurnLine.at_) P_OrderTurnLine (spOrderTurnLine K) := by
  refine T.f_OrderTurnLine.ok sc_OrderTurnLine (fun vs H Q E h => len_OrderTurnLine h) (fun cdv A outer s H vs Q E hr h => ⟨_, ((pss_cons (ps_set (i := 4) sc_OrderTurnLine.nd rfl (Or.inl rfl) (pe_meth (pv 0) T.cl_Order T.m_Order_line_of (ok_OrderLineOf T) (hr.mono (by decide)) T.b_OrderLineOf .nil (passes_call (takes_of rfl rfl rfl rfl) (fun _ _ _ _ h => h)) (pa_cons (pv 2) pa_nil)))
      (pss_one (ps_if (pt_cmpR op_eq (pv 1) pe_str (nomark _)) (pss_one (ps_expr (pe_meth (pv 4) T.cl_Line T.m_Line_deliver (ok_LineDeliver T) (hr.mono (by decide)) T.b_LineDeliver .nil (passes_call (takes_of rfl rfl rfl rfl) (fun _ _ _ _ h => h)) (pa_cons (pv 3) pa_nil)))) (pss_one (ps_if (pt_cmpR op_eq (pv 1) pe_str (nomark _)) (pss_one (ps_expr (pe_meth (pv 4) T.cl_Line T.m_Line_reduce (ok_LineReduce T) (hr.mono (by decide)) T.b_LineReduce .nil (passes_call (takes_of rfl rfl rfl rfl) (fun _ _ _ _ h => h)) (pa_cons (pv 3) pa_nil)))) (pss_one (ps_expr (pe_meth (pv 4) T.cl_Line T.m_Line_bring (ok_LineBring T) (hr.mono (by decide)) T.b_LineBring .nil (passes_call (takes_of rfl rfl rfl rfl) (fun _ _ _ _ h => h)) (pa_cons (pv 3) (pa_cons (pe_cmpR op_eq (pv 1) pe_str (nomark _)) pa_nil))))))))))), ?_⟩)
  obtain ⟨p, o, w', i, l, n, rfl, O, ok, el, k1, k2⟩ := h
  obtain ⟨dx, ho⟩ := O.ob
  walk_at "rd"
  refine r_m ho (no_Order_line_of _ _ _) ?_
  walk_at "rd"
  have hi : i < o.lines.length := (List.getElem?_eq_some_iff.mp el).1
  refine ⟨p, o, _, rfl, O, fun c => absurd ⟨by omega, by omega⟩ c, fun j a ej ea => ?_⟩
  have ej2 : i = j := by omega
  subst ej2
  have okl := ok.ln l (List.mem_of_getElem? el)
  obtain ⟨da, ha⟩ := O.ln i a l ea el
  walk_at "rd"
  unfold Ln.turn at k1 k2
  have mem : a ∈ p.las := List.mem_of_getElem? ea
  refine r_itd (fun c => ?_) (fun c => ?_)
  · rw [if_pos c] at k1 k2
    walk_at "rd"
    refine r_m ha (no_Line_deliver l) ?_
    walk_at "rd"
    refine ⟨a, l, n, rfl, ⟨da, ha⟩, okl, k1, fun l' e' H' h' b => ?_⟩
    exact k2 l' e' H' (O.line ea el h' b) (b.mono fun x hx => by rw [hx]; exact mem)
  · rw [if_neg c] at k1 k2
    walk_at "rd"
    refine r_itd (fun c2 => ?_) (fun c2 => ?_)
    · rw [if_pos c2] at k1 k2
      walk_at "rd"
      refine r_m ha (no_Line_reduce l) ?_
      walk_at "rd"
      refine ⟨a, l, n, rfl, ⟨da, ha⟩, okl, k1, fun l' e' H' h' b => ?_⟩
      exact k2 l' e' H' (O.line ea el h' b) (b.mono fun x hx => by rw [hx]; exact mem)
    · rw [if_neg c2] at k1 k2
      walk_at "rd"
      refine r_m ha (no_Line_bring l) ?_
      walk_at "rd"
      refine ⟨_, _, _, rfl, a, l, n, rfl, ⟨da, ha⟩, okl, k1, fun l' e' H' h' b => ?_⟩
      exact k2 l' e' H' (O.line ea el h' b) (b.mono fun x hx => by rw [hx]; exact mem)
/-! ### a new order -/
abbrev LtsAt (H : Hp) : List V → List Lt → Prop := Paired (LtAt H)
theorem Paired.get {α β : Type} {F : α → β → Prop} : ∀ {l₁ : List α} {l₂ : List β} {i : Nat} {a : α} {b : β}, Paired F l₁ l₂ → l₁[i]? = some a → l₂[i]? = some b → F a b
  | _, _, _, _, _, .nil, h, _ => by simp at h
  | _, _, 0, _, _, .cons r _, h, q => by
    cases h
    cases q
    exact r
  | _, _, i + 1, _, _, .cons _ t, h, q => Paired.get (i := i) t h q
theorem But.lt {S : Addr → Prop} {H H' : Hp} (b : But S H H') {v : V} {t : Lt} (h : LtAt H v t) : LtAt H' v t := by
  obtain ⟨a, e, q⟩ := h
  exact ⟨a, e, b.tup _ _ q⟩
theorem But.lts {S : Addr → Prop} {H H' : Hp} (b : But S H H') {vs : List V} {ts : List Lt} (h : LtsAt H vs ts) : LtsAt H' vs ts := Paired.mapP h fun _ _ q => b.lt q
theorem nodup_snoc {as : List Addr} {a : Addr} (h : as.Nodup) (n : ¬ a ∈ as) : (as ++ [a]).Nodup := by
  rw [List.nodup_append]
  refine ⟨h, by simp, fun x hx y hy => ?_⟩
  have e : y = a := by simpa using hy
  subst e
  exact fun z => n (by rw [← z]; exact hx)
def spOrderInit (K : PySem.W.Frag) : Sp := fun vs H Q _ => ∃ (a dx l : Addr) (xs : List V) (ts : List Lt), vs = [.ref a, .ref l] ∧ H a = some (.ins (He.ga K "Order") dx []) ∧ SqL K H l xs ∧ LtsAt H xs ts ∧ xs.length ≤ 100000 ∧
  ∀ (p : OL) (H' : Hp), p.o = a → OdAt K H' p ⟨ts.map Lt.ln, 0, []⟩ → (∀ b, p.foot b → b = a ∨ H b = none) → But (· = a) H H' → Q .non H'
theorem len_OrderInit {K : PySem.W.Frag} {vs : List V} {H : Hp} {Q : VK} {E : XK} (h : spOrderInit K vs H Q E) : vs.length = 2 := by
  obtain ⟨_, _, _, _, _, rfl, _⟩ := h; rfl
theorem ok_OrderInit {P : Program} {w : World} {K : PySem.W.Frag} {mg : Str → Option Value} {base : Heap} (T : Tx w K mg) : FnOk P w K mg base CX0 3 (He.fAd K dOrderInit.at_) (fdO K dOrderInit.at_) P_OrderInit (spOrderInit K) := by
  refine T.f_OrderInit.ok sc_OrderInit (fun vs H Q E h => len_OrderInit h) (fun cdv A outer s H vs Q E hr h => ⟨_, PSs.nox ((pss_cons (ps_fld (pv 0) (pe_lc (own := [("told", 2)]) (g := gName 2) (tt := tYes) rfl sc_OrderInit.nd (pi_list (pv 1)) (blkOk_by (N := N_OrderInit) (sc := defScope sOrderInit) (by decide +kernel)) (fun _ _ _ _ _ => pg_name (i := 2) sc_OrderInit.nd rfl (Or.inl rfl)) (fun _ _ _ _ _ => pts_nil) (fun _ _ _ _ _ => (pe_make T.mk_Line (ok_LineInit T) (hr.mono (by decide)) rfl T.g_Line T.b_LineInit .nil pass0 (pa_cons (pv 2) pa_nil)))) rfl)
      (pss_cons (ps_fld (pv 0) pe_int rfl)
      (pss_one (ps_fld (pv 0) (pe_lst pa_nil) rfl))))), ?_⟩)
  obtain ⟨a, dx, l, xs, ts, rfl, ha, hl, pt, hz, k⟩ := h
  walk_at "rd"
  refine ⟨l, rfl, ⟨xs, hl⟩, fun D hD => ?_⟩
  refine lc_list (K := K) (a := l) (xs := xs) (fun i H' => ∃ as : List Addr, as.length = i ∧ H' D = some (.lst (as.map V.ref)) ∧ as.Nodup ∧ Same H H' ∧ (∀ b, b ∈ as → H b = none ∧ b ≠ D) ∧
    ∀ (j : Nat) b t, as[j]? = some b → ts[j]? = some t → LnAt K H' b t.ln) ⟨[], rfl, upd_same, List.nodup_nil, same_upd hD, fun b hb => (by cases hb), fun j b t h => by simp at h⟩ (fun i H' _ ⟨_, _, _, _, s, _⟩ => s.seq hl) ?_ ?_
  · rintro i x H' hi ⟨as, hlen, hd, nd, s, fr, hln⟩
    have hi2 : i < ts.length := by rw [← pt.length]; exact (List.getElem?_eq_some_iff.mp hi).1
    have ht : LtAt H' x ts[i] := (But.of (S := fun _ => False) s).lt (Paired.get pt hi (List.getElem?_eq_getElem hi2))
    refine ⟨wipe1, r_yes (r_itT ?_)⟩
    walk_at "rd"
    intro y dy ny ndy ne
    have s1 : Same H' (upd (upd H' dy (.own y)) y (.ins (He.ga K "Line") dy [])) := fun b o e => by
      rw [upd_ne (ne_of_none e ny), upd_ne (ne_of_none e ndy)]
      exact e
    refine ⟨y, dy, x, ts[i], rfl, upd_same, (But.of (S := fun _ => False) s1).lt ht, fun H2 h2 b2 => ⟨rfl, ?_⟩⟩
    have s2 : Same H' H2 := fun b o e => b2.keep _ _ (s1 _ _ e) (ne_of_none e ny)
    have nyD : y ≠ D := Ne.symm (ne_of_none hd ny)
    have nya : ¬ y ∈ as := fun hm => by
      obtain ⟨j, hj⟩ := List.getElem?_of_mem hm
      have hj2 : j < as.length := (List.getElem?_eq_some_iff.mp hj).1
      have hjt : j < ts.length := by omega
      obtain ⟨_, q⟩ := hln j y _ hj (List.getElem?_eq_getElem hjt)
      rw [q] at ny
      cases ny
    refine ⟨_, s2 _ _ hd, ?_, as ++ [y], by simp [hlen], ?_, nodup_snoc nd nya, ?_, ?_, ?_⟩
    · refine sz5l ?_
      rw [List.length_map, hlen]
      have := (List.getElem?_eq_some_iff.mp hi).1
      omega
    · rw [upd_same, List.map_append]; rfl
    · exact fun b o e => by
        rw [upd_ne (ne_of_none e hD)]
        exact s2 _ _ (s _ _ e)
    · intro b hb
      rcases List.mem_append.mp hb with h | h
      · exact fr b h
      · have e : b = y := by simpa using h
        subst e
        exact ⟨Same.free s ny, nyD⟩
    · intro j b t e1 e2
      by_cases hj : j < as.length
      · rw [List.getElem?_append_left hj] at e1
        obtain ⟨d, q⟩ := hln j b t e1 e2
        exact ⟨d, by rw [upd_ne (fr b (List.mem_of_getElem? e1)).2]; exact s2 _ _ q⟩
      · have hj2 : j = as.length := by
          have := (List.getElem?_eq_some_iff.mp e1).1
          simp at this
          omega
        subst hj2
        rw [List.getElem?_append_right (Nat.le_refl _), Nat.sub_self] at e1
        cases e1
        rw [hlen, List.getElem?_eq_getElem hi2] at e2
        cases e2
        obtain ⟨d, q⟩ := h2
        exact ⟨d, by rw [upd_ne nyD]; exact q⟩
  · rintro H2 ⟨as, hlen, hd, nd, s, fr, hln⟩
    have Da : a ≠ D := ne_of_none ha hD
    walk_at "rd"
    refine r_sf (s _ _ ha) T.cl_Order T.n_Order_lines (by walk_at "pf") (by simp) ?_
    walk_at "rd"
    refine r_sf upd_same T.cl_Order T.n_Order_money (by walk_at "pf") (by simp) ?_
    rw [upd_upd]
    walk_at "rd"
    refine r_mk (by simp) fun M hM => ?_
    have hM2 : H2 M = none := by
      by_cases z : M = a
      · subst z
        rw [upd_same] at hM
        cases hM
      · rw [upd_ne z] at hM
        exact hM
    have aM : a ≠ M := ne_of_none (s _ _ ha) hM2
    walk_at "rd"
    refine r_sf (by rw [upd_ne aM]; exact upd_same) T.cl_Order T.n_Order_marks (by walk_at "pf") (by simp) ?_
    have DM : D ≠ M := ne_of_none hd hM2
    have b1 : But (· = a) H (upd (upd (upd H2 a (.ins (He.ga K "Order") dx [("lines", .ref D), ("money", .int 0)])) M (.lst [])) a (.ins (He.ga K "Order") dx [("lines", .ref D), ("money", .int 0), ("marks", .ref M)])) := by
      have c1 : But (· = a) H (upd H2 a (.ins (He.ga K "Order") dx [("lines", .ref D), ("money", .int 0)])) := (But.of s).trans (But.ins (s _ _ ha) rfl)
      have c2 : But (· = a) H (upd (upd H2 a (.ins (He.ga K "Order") dx [("lines", .ref D), ("money", .int 0)])) M (.lst [])) := c1.trans (But.of (same_upd hM))
      exact c2.trans (But.ins (C := He.ga K "Order") (dx := dx) (fs := [("lines", .ref D), ("money", .int 0)]) (by rw [upd_ne aM]; exact upd_same) rfl)
    refine k ⟨a, D, M, as⟩ _ rfl ⟨⟨dx, upd_same⟩, ?_, by simp [hlen, pt.length], fun i c m e1 e2 => ?_, nd, DM, [], ?_, .nil⟩ ?_ b1
    · show upd _ _ _ D = _
      rw [upd_ne (Ne.symm Da), upd_ne DM, upd_ne (Ne.symm Da)]
      exact hd
    · have e2' : (ts.map Lt.ln)[i]? = some m := e2
      rw [List.getElem?_map] at e2'
      cases et : ts[i]? with
      | none => rw [et] at e2'; cases e2'
      | some t =>
        rw [et] at e2'
        cases e2'
        obtain ⟨d, q⟩ := hln i c t e1 et
        have ca : c ≠ a := Ne.symm (ne_of_none ha (fr c (List.mem_of_getElem? e1)).1)
        have cM : c ≠ M := ne_of_none q hM2
        exact ⟨d, by rw [upd_ne ca, upd_ne cM, upd_ne ca]; exact q⟩
    · show upd _ _ _ M = _
      rw [upd_ne (Ne.symm aM)]
      exact upd_same
    · intro b hb
      rcases hb with h | h | h | h
      · exact .inl h
      · rw [h]; exact .inr hD
      · rw [h]; exact .inr (Same.free s hM2)
      · exact .inr (fr b h).1

/-! ### a book -/
inductive Dd where
  | ord (ls : List Lt)
  | ln (w : Str) (o l n : Int)
  | mo (w : Str) (o n : Int)
  | mv (o p n : Int)
structure Bk where
  each : List Od
  trail : List Dd
inductive Role where
  | no | book | each | trail | deed | ord (j : Nat)
structure Lay where
  each : Addr
  trail : Addr
  ords : List OL
  own : Addr → Role
def Dd.good : Dd → Prop
  | .ord _ => True
  | .ln w _ _ _ => w = "deliver" ∨ w = "back" ∨ w = "swap" ∨ w = "credit"
  | .mo w _ _ => w = "pay" ∨ w = "refund"
  | .mv _ _ _ => True
/-- a deed as it lies: F holds of the list of an order's lines -/
def DdAt (F : Addr → Prop) (H : Hp) (v : V) : Dd → Prop
  | .ord ls => ∃ t l xs, v = .ref t ∧ H t = some (.tup [.str "order", .ref l]) ∧ H l = some (.lst xs) ∧ F l ∧ LtsAt H xs ls
  | .ln w o l n => ∃ t, v = .ref t ∧ H t = some (.tup [.str w, .int o, .int l, .int n])
  | .mo w o n => ∃ t, v = .ref t ∧ H t = some (.tup [.str w, .int o, .int n])
  | .mv o p n => ∃ t, v = .ref t ∧ H t = some (.tup [.str "move", .int o, .int p, .int n])
theorem DdAt.imp {F F' : Addr → Prop} {H : Hp} {v : V} {d : Dd} (h : DdAt F H v d) (m : ∀ a, F a → (∃ o, H a = some o) → F' a) : DdAt F' H v d := by
  cases d with
  | ord ls => obtain ⟨t, l, xs, e, h1, h2, f, q⟩ := h; exact ⟨t, l, xs, e, h1, h2, m _ f ⟨_, h2⟩, q⟩
  | _ => exact h
theorem DdAt.keep {F S : Addr → Prop} {H H' : Hp} {v : V} {d : Dd} (h : DdAt F H v d) (b : But S H H') (n : ∀ a, F a → ¬ S a) : DdAt F H' v d := by
  cases d with
  | ord ls => obtain ⟨t, l, xs, e, h1, h2, f, q⟩ := h; exact ⟨t, l, xs, e, b.tup _ _ h1, b.keep _ _ h2 (n _ f), f, b.lts q⟩
  | ln w o l n => obtain ⟨t, e, h1⟩ := h; exact ⟨t, e, b.tup _ _ h1⟩
  | mo w o n => obtain ⟨t, e, h1⟩ := h; exact ⟨t, e, b.tup _ _ h1⟩
  | mv o p n => obtain ⟨t, e, h1⟩ := h; exact ⟨t, e, b.tup _ _ h1⟩
structure BookAt (K : PySem.W.Frag) (H : Hp) (b : Addr) (B : Bk) (L : Lay) : Prop where
  ob : ∃ dx, H b = some (.ins (He.ga K "Book") dx (bkF L.each L.trail))
  rb : L.own b = .book
  ev : H L.each = some (.lst (L.ords.map fun p => V.ref p.o))
  re : L.own L.each = .each
  tr : ∃ ts, H L.trail = some (.lst ts) ∧ Paired (DdAt (fun a => L.own a = .deed) H) ts B.trail
  rt : L.own L.trail = .trail
  len : L.ords.length = B.each.length
  od : ∀ (j : Nat) p o, L.ords[j]? = some p → B.each[j]? = some o → OdAt K H p o
  ro : ∀ (j : Nat) p, L.ords[j]? = some p → ∀ a, p.foot a → L.own a = .ord j
  dom : ∀ a, L.own a ≠ .no → ∃ o, H a = some o
structure Bk.ok (B : Bk) : Prop where
  od : ∀ o, o ∈ B.each → o.ok
  few : B.each.length ≤ 40
  mks : ∀ o, o ∈ B.each → o.marks.length ≤ B.trail.length
  good : ∀ d, d ∈ B.trail → d.good
def Lay.foot (L : Lay) (a : Addr) : Prop := L.own a ≠ .no
theorem BookAt.fresh {K : PySem.W.Frag} {H : Hp} {b : Addr} {B : Bk} {L : Lay} (h : BookAt K H b B L) {a : Addr} (e : H a = none) : L.own a = .no := by
  by_cases z : L.own a = .no
  · exact z
  · obtain ⟨o, q⟩ := h.dom a z
    rw [e] at q
    cases q
theorem BookAt.keep {K : PySem.W.Frag} {S : Addr → Prop} {H H' : Hp} {b : Addr} {B : Bk} {L : Lay} (h : BookAt K H b B L) (bt : But S H H') (n : ∀ a, L.own a ≠ .no → ¬ S a) : BookAt K H' b B L where
  ob := by
    obtain ⟨dx, e⟩ := h.ob
    exact ⟨dx, bt.keep _ _ e (n _ (by rw [h.rb]; intro q; cases q))⟩
  rb := h.rb
  ev := bt.keep _ _ h.ev (n _ (by rw [h.re]; intro q; cases q))
  re := h.re
  tr := by
    obtain ⟨ts, e, q⟩ := h.tr
    exact ⟨ts, bt.keep _ _ e (n _ (by rw [h.rt]; intro q; cases q)), Paired.mapP q fun _ _ z => z.keep bt fun a f => n a (by rw [f]; intro q; cases q)⟩
  rt := h.rt
  len := h.len
  od := fun j p o e1 e2 => (h.od j p o e1 e2).keep bt fun a f => n a (by rw [h.ro j p e1 a f]; intro q; cases q)
  ro := h.ro
  dom := fun a z => by
    obtain ⟨o, e⟩ := h.dom a z
    exact ⟨o, bt.keep _ _ e (n a z)⟩
theorem BookAt.same {K : PySem.W.Frag} {H H' : Hp} {b : Addr} {B : Bk} {L : Lay} (h : BookAt K H b B L) (s : Same H H') : BookAt K H' b B L := h.keep (But.of (S := fun _ => False) s) fun _ _ => id
/-- one order is changed -/
theorem BookAt.one {K : PySem.W.Frag} {H H' : Hp} {b : Addr} {B : Bk} {L : Lay} {j : Nat} {p : OL} {o' : Od} (h : BookAt K H b B L) (hp : L.ords[j]? = some p) (O : OdAt K H' p o') (bt : But p.foot H H')
    (dm : ∀ a, p.foot a → ∃ o, H' a = some o) : BookAt K H' b { B with each := B.each.set j o' } L := by
  have n : ∀ a, L.own a ≠ .ord j → ¬ p.foot a := fun a z f => z (h.ro j p hp a f)
  refine ⟨?_, h.rb, bt.keep _ _ h.ev (n _ (by rw [h.re]; intro q; cases q)), h.re, ?_, h.rt, by simp [h.len], fun i q o e1 e2 => ?_, h.ro, fun a z => ?_⟩
  · obtain ⟨dx, e⟩ := h.ob
    exact ⟨dx, bt.keep _ _ e (n _ (by rw [h.rb]; intro q; cases q))⟩
  · obtain ⟨ts, e, q⟩ := h.tr
    exact ⟨ts, bt.keep _ _ e (n _ (by rw [h.rt]; intro q; cases q)), Paired.mapP q fun _ _ z => z.keep bt fun a f => n a (by rw [f]; intro q; cases q)⟩
  · by_cases hj : j = i
    · subst hj
      rw [hp] at e1
      cases e1
      have hl : j < B.each.length := by rw [← h.len]; exact (List.getElem?_eq_some_iff.mp hp).1
      have e2' : (B.each.set j o')[j]? = some o := e2
      rw [List.getElem?_set_self hl] at e2'
      cases e2'
      exact O
    · have e2' : (B.each.set j o')[i]? = some o := e2
      rw [List.getElem?_set_ne hj] at e2'
      refine (h.od i q o e1 e2').keep bt fun a f => n a ?_
      rw [h.ro i q e1 a f]
      intro z
      cases z
      exact hj rfl
  · by_cases f : p.foot a
    · exact dm a f
    · obtain ⟨o, e⟩ := h.dom a z
      exact ⟨o, bt.keep _ _ e f⟩
theorem OdAt.dom {K : PySem.W.Frag} {H : Hp} {p : OL} {o : Od} (O : OdAt K H p o) : ∀ a, p.foot a → ∃ u, H a = some u := by
  intro a f
  rcases f with f | f | f | f
  · obtain ⟨dx, e⟩ := O.ob
    exact ⟨_, by rw [f]; exact e⟩
  · exact ⟨_, by rw [f]; exact O.ll⟩
  · obtain ⟨ts, e, _⟩ := O.lm
    exact ⟨_, by rw [f]; exact e⟩
  · obtain ⟨i, hi⟩ := List.getElem?_of_mem f
    have hl : i < o.lines.length := by rw [← O.len]; exact (List.getElem?_eq_some_iff.mp hi).1
    obtain ⟨dx, e⟩ := O.ln i a _ hi (List.getElem?_eq_getElem hl)
    exact ⟨_, e⟩
/-- how the heap may be behind a book's method -/
structure Mod (L L' : Lay) (H H' : Hp) : Prop where
  but : But L.foot H H'
  grow : ∀ a, L'.own a ≠ .no → L.own a ≠ .no ∨ H a = none
theorem Mod.same {L : Lay} {H H' : Hp} (s : Same H H') : Mod L L H H' := ⟨But.of s, fun _ z => .inl z⟩
theorem Mod.trans {L L1 L2 : Lay} {H H1 H2 : Hp} (a : Mod L L1 H H1) (b : Mod L1 L2 H1 H2) (back : ∀ x, H1 x = none → H x = none) : Mod L L2 H H2 where
  but := a.but.mut b.but fun x z => (a.grow x z).elim .inl .inr
  grow := fun x z => (b.grow x z).elim (fun q => a.grow x q) fun q => .inr (back x q)
/-! ### the small methods -/
def spBookOrderOf (K : PySem.W.Frag) : Sp := fun vs H Q E => ∃ (b : Addr) (B : Bk) (L : Lay) (n : Int), vs = [.ref b, .int n] ∧ BookAt K H b B L ∧
  (¬ (0 ≤ n ∧ n < B.each.length) → E (.ref (He.ga K "NoOrder")) none H) ∧ ∀ (j : Nat) p o, n = (j : Int) → L.ords[j]? = some p → B.each[j]? = some o → Q (.ref p.o) H
theorem len_BookOrderOf {K : PySem.W.Frag} {vs : List V} {H : Hp} {Q : VK} {E : XK} (h : spBookOrderOf K vs H Q E) : vs.length = 2 := by
  obtain ⟨_, _, _, _, rfl, _⟩ := h; rfl
theorem ok_BookOrderOf {P : Program} {w : World} {K : PySem.W.Frag} {mg : Str → Option Value} {base : Heap} (T : Tx w K mg) : FnOk P w K mg base (L2.CX P w) 1 (He.fAd K dBookOrderOf.at_) (fdO K dBookOrderOf.at_) P_BookOrderOf (spBookOrderOf K) := by
  refine T.f_BookOrderOf.ok sc_BookOrderOf (fun vs H Q E h => len_BookOrderOf h) (fun cdv A outer s H vs Q E hr h => ⟨_, ((pss_cons (ps_if (pt_not (pt_chain op_le op_lt pe_int (pv 1) (pe_callB call_len_seq (by rfl) T.b_len (by decide +kernel) (pa_cons (pe_fld (pv 0) rfl) pa_nil)))) (pss_one (ps_raise rfl (takes_of rfl rfl rfl rfl) (pmk_own PySem.F.excBase_ValueError T.x_NoOrder.1 T.g_NoOrder T.x_NoOrder.2.1 (raises_own T.x_NoOrder.2.2.1 T.x_NoOrder.2.2.2) rfl))) pss_nil)
      (pss_one (ps_ret (pe_ix ix_list (pe_fld (pv 0) rfl) (pv 1) (fun _ _ => rfl)))))), ?_⟩)
  obtain ⟨b, B, L, n, rfl, h, k1, k2⟩ := h
  obtain ⟨dx, hb⟩ := h.ob
  walk_at "rd"
  refine r_itd (fun c => ?_) (fun c => ?_)
  · walk_at "rd"
    refine r_f hb T.cl_Book T.n_Book_each (lk_Book_each _ _) ?_
    walk_at "rd"
    refine ⟨_, _, rfl, .inl (SqL.of h.ev), ?_⟩
    walk_at "rd"
    rw [List.length_map, h.len]
    refine r_itn (fun c2 => k1 fun z => c2 z.2) (fun c2 => ?_)
    walk_at "rd"
    refine r_f hb T.cl_Book T.n_Book_each (lk_Book_each _ _) ?_
    walk_at "rd"
    obtain ⟨j, rfl⟩ : ∃ i : Nat, n = (i : Int) := ⟨n.toNat, by omega⟩
    have hj2 : j < B.each.length := by omega
    have hj : j < L.ords.length := by rw [h.len]; exact hj2
    refine r_ixL (SqL.of h.ev) (atI_get (j := j) rfl (by rw [List.getElem?_map, List.getElem?_eq_getElem hj]; rfl)) ?_
    exact k2 j _ _ rfl (List.getElem?_eq_getElem hj) (List.getElem?_eq_getElem hj2)
  · walk_at "rd"
    exact k1 fun z => c z.1
def spBookNeedNumber (K : PySem.W.Frag) : Sp := fun vs H Q E => ∃ (v : V) (n : Int), vs = [v, .int n] ∧ (n < 1 → E (.ref (He.ga K "NoNumber")) none H) ∧ (¬ n < 1 → Q .non H)
theorem len_BookNeedNumber {K : PySem.W.Frag} {vs : List V} {H : Hp} {Q : VK} {E : XK} (h : spBookNeedNumber K vs H Q E) : vs.length = 2 := by
  obtain ⟨_, _, rfl, _⟩ := h; rfl
theorem ok_BookNeedNumber {P : Program} {w : World} {K : PySem.W.Frag} {mg : Str → Option Value} {base : Heap} (T : Tx w K mg) : FnOk P w K mg base (L2.CX P w) 1 (He.fAd K dBookNeedNumber.at_) (fdO K dBookNeedNumber.at_) P_BookNeedNumber (spBookNeedNumber K) := by
  refine T.f_BookNeedNumber.ok sc_BookNeedNumber (fun vs H Q E h => len_BookNeedNumber h) (fun cdv A outer s H vs Q E hr h => ⟨_, ((pss_one (ps_if (pt_cmpR op_lt (pv 1) pe_int (nomark _)) (pss_one (ps_raise rfl (takes_of rfl rfl rfl rfl) (pmk_own PySem.F.excBase_ValueError T.x_NoNumber.1 T.g_NoNumber T.x_NoNumber.2.1 (raises_own T.x_NoNumber.2.2.1 T.x_NoNumber.2.2.2) rfl))) pss_nil))), ?_⟩)
  obtain ⟨v, n, rfl, k1, k2⟩ := h
  walk_at "rd"
  refine r_itd (fun c => k1 c) (fun c => ?_)
  walk_at "rd"
  exact k2 c
def spOwn (_ : PySem.W.Frag) : Sp := fun vs H Q _ => ∃ (v : V) (d : Dd), vs = [v] ∧ DdAt (fun _ => True) H v d ∧ d.good ∧ (∀ ls, d = .ord ls → ls.length ≤ 100000) ∧ ∀ v' H', Same H H' → DdAt (fun a => H a = none) H' v' d → Q v' H'
theorem len_Own {K : PySem.W.Frag} {vs : List V} {H : Hp} {Q : VK} {E : XK} (h : spOwn K vs H Q E) : vs.length = 1 := by
  obtain ⟨_, _, rfl, _⟩ := h; rfl
theorem good_ord {d : Dd} (g : d.good) : (∀ w o l n, d = .ln w o l n → ¬ w = "order") ∧ ∀ w o n, d = .mo w o n → ¬ w = "order" := by
  refine ⟨fun w o l n e => ?_, fun w o n e => ?_⟩
  · subst e
    rcases g with rfl | rfl | rfl | rfl <;> decide +kernel
  · subst e
    rcases g with rfl | rfl <;> decide +kernel
theorem ok_Own {P : Program} {w : World} {K : PySem.W.Frag} {mg : Str → Option Value} {base : Heap} (T : Tx w K mg) : FnOk P w K mg base CX0 1 (He.fAd K dOwn.at_) (fdO K dOwn.at_) P_Own (spOwn K) := by
  refine T.f_Own.ok sc_Own (fun vs H Q E h => len_Own h) (fun cdv A outer s H vs Q E hr h => ⟨_, PSs.nox ((pss_cons (ps_if (pt_cmpR op_eq (pe_ix ix_tup (pv 0) pe_int (fun _ _ => rfl)) pe_str (nomark _)) (pss_one (ps_ret (pe_tup (pa_cons pe_str (pa_cons (pe_lc (own := [("line", 1)]) (g := gName 1) (tt := tYes) rfl sc_Own.nd (pi_list (pe_ix ix_tup (pv 0) pe_int (fun _ _ => rfl))) (blkOk_by (N := N_Own) (sc := defScope sOwn) (by decide +kernel)) (fun _ _ _ _ _ => pg_name (i := 1) sc_Own.nd rfl (Or.inl rfl)) (fun _ _ _ _ _ => pts_nil) (fun _ _ _ _ _ => (pv 1))) pa_nil))))) pss_nil)
      (pss_one (ps_ret (pv 0))))), ?_⟩)
  obtain ⟨v, d, rfl, hd, g, few, k⟩ := h
  cases d with
  | ord ls =>
    obtain ⟨t, l, xs, rfl, ht, hl, _, pt⟩ := hd
    walk_at "rd"
    refine r_ixT (SqT.of ht) (atI_get (j := 0) rfl rfl) ?_
    walk_at "rd"
    refine r_ity rfl ?_
    walk_at "rd"
    refine r_ixT (SqT.of ht) (atI_get (j := 1) rfl rfl) ?_
    refine lcp_list (ys := xs) (SqL.of hl) rfl (by rw [pt.length]; exact few _ rfl) (fun i x y H' R ex ey s q => ?_) (fun D H' hD s e => ?_)
    · rw [ex] at ey
      cases ey
      walk_at "rd"
      exact q _ (Same.refl _)
    · walk_at "rd"
      refine r_mk (by simp) fun t2 ht2 => ?_
      refine k _ _ (s.trans (same_upd ht2)) ⟨t2, D, xs, rfl, upd_same, by rw [upd_ne (ne_of_none e ht2)]; exact e, hD, ?_⟩
      exact (But.of (S := fun _ => False) (s.trans (same_upd ht2))).lts pt
  | ln w o l n =>
    obtain ⟨t, rfl, ht⟩ := hd
    walk_at "rd"
    refine r_ixT (SqT.of ht) (atI_get (j := 0) rfl rfl) ?_
    walk_at "rd"
    refine r_itz ((good_ord g).1 _ _ _ _ rfl) ?_
    walk_at "rd"
    exact k _ _ (Same.refl _) ⟨t, rfl, ht⟩
  | mo w o n =>
    obtain ⟨t, rfl, ht⟩ := hd
    walk_at "rd"
    refine r_ixT (SqT.of ht) (atI_get (j := 0) rfl rfl) ?_
    walk_at "rd"
    refine r_itz ((good_ord g).2 _ _ _ rfl) ?_
    walk_at "rd"
    exact k _ _ (Same.refl _) ⟨t, rfl, ht⟩
  | mv o p n =>
    obtain ⟨t, rfl, ht⟩ := hd
    walk_at "rd"
    refine r_ixT (SqT.of ht) (atI_get (j := 0) rfl rfl) ?_
    walk_at "rd"
    refine r_itz (by decide +kernel) ?_
    walk_at "rd"
    exact k _ _ (Same.refl _) ⟨t, rfl, ht⟩

/-! ### what a deed does -/
def errV (K : PySem.W.Frag) (e : Er) : Value := .ref (He.ga K e.name)
def firstErr (ls : List Lt) : Option Er := ls.findSome? ltCheck
def ordErr (n : Nat) (ls : List Lt) : Option Er := if ¬ (1 ≤ ls.length ∧ ls.length ≤ 20) then some .noLines else match firstErr ls with
  | some e => some e
  | none => if n = 40 then some .fullBook else none
def at_ {α : Type} (xs : List α) (n : Int) : Option (Nat × α) := if 0 ≤ n then (xs[n.toNat]?).map fun x => (n.toNat, x) else none
theorem at_some {α : Type} {xs : List α} {j : Nat} {x : α} (h : xs[j]? = some x) : at_ xs (j : Int) = some (j, x) := by
  unfold at_
  rw [if_pos (by omega)]
  simp [h]
theorem at_0 {α : Type} {x : α} {xs : List α} : at_ (x :: xs) 0 = some (0, x) := by
  simp [at_]
theorem at_none {α : Type} {xs : List α} {n : Int} (h : ¬ (0 ≤ n ∧ n < xs.length)) : at_ xs n = none := by
  unfold at_
  by_cases c : 0 ≤ n
  · rw [if_pos c, List.getElem?_eq_none (by omega)]; rfl
  · rw [if_neg c]
theorem at_of {α : Type} {xs : List α} {n : Int} {j : Nat} {x : α} (h : at_ xs n = some (j, x)) : n = (j : Int) ∧ xs[j]? = some x := by
  unfold at_ at h
  by_cases c : 0 ≤ n
  · rw [if_pos c] at h
    cases e : xs[n.toNat]? with
    | none => rw [e] at h; cases h
    | some y =>
      rw [e] at h
      cases h
      exact ⟨by omega, e⟩
  · rw [if_neg c] at h
    cases h
theorem at_or {α : Type} (xs : List α) (n : Int) : (at_ xs n = none ∧ ¬ (0 ≤ n ∧ n < xs.length)) ∨ ∃ (j : Nat) (x : α), n = (j : Int) ∧ xs[j]? = some x ∧ at_ xs n = some (j, x) := by
  by_cases c : 0 ≤ n ∧ n < xs.length
  · obtain ⟨j, rfl⟩ : ∃ i : Nat, n = (i : Int) := ⟨n.toNat, by omega⟩
    have hj : j < xs.length := by omega
    exact .inr ⟨j, xs[j], rfl, List.getElem?_eq_getElem hj, at_some (List.getElem?_eq_getElem hj)⟩
  · exact .inl ⟨at_none c, c⟩
def Od.pay (o : Od) (n : Int) : Od := { o with money := o.money + n }
def Od.mark (o : Od) (w : Str) (c : Int) : Od := { o with marks := o.marks ++ [(w, c)] }
abbrev Res := Except Er (List Od × List (Int × Int))
def stepLn (es : List Od) (w : Str) (o l n : Int) : Res := match at_ es o with
  | none => .error .noOrder
  | some (j, od) => match at_ od.lines l with
    | none => .error .noLine
    | some (i, x) => if n < 1 then .error .noNumber else match x.turn w n with
      | none => .error .tooMuch
      | some x' => .ok (es.set j (Od.mark { od with lines := od.lines.set i x' } w (Od.owing { od with lines := od.lines.set i x' } - od.owing)), [(o, Od.owing { od with lines := od.lines.set i x' } - od.owing)])
def stepMo (es : List Od) (w : Str) (o n : Int) : Res := match at_ es o with
  | none => .error .noOrder
  | some (j, od) => if n < 1 then .error .noNumber else if w = "pay" then .ok (es.set j (Od.mark (od.pay n) w ((od.pay n).owing - od.owing)), [(o, (od.pay n).owing - od.owing)])
    else if n > -od.owing then .error .tooMuch else .ok (es.set j (Od.mark (od.pay (-n)) w ((od.pay (-n)).owing - od.owing)), [(o, (od.pay (-n)).owing - od.owing)])
def stepMv (es : List Od) (o p n : Int) : Res := match at_ es o with
  | none => .error .noOrder
  | some (i, a) => match at_ es p with
    | none => .error .noOrder
    | some (j, b) => if o = p then .error .sameOrder else if n < 1 then .error .noNumber else if n > -a.owing then .error .tooMuch
      else .ok ((es.set i (Od.mark (a.pay (-n)) "move" ((a.pay (-n)).owing - a.owing))).set j (Od.mark (b.pay n) "move" ((b.pay n).owing - b.owing)), [(o, (a.pay (-n)).owing - a.owing), (p, (b.pay n).owing - b.owing)])
def stepOrd (es : List Od) (ls : List Lt) : Res := match ordErr es.length ls with
  | some e => .error e
  | none => .ok (es ++ [⟨ls.map Lt.ln, 0, []⟩], [])
def step (es : List Od) : Dd → Res
  | .ord ls => stepOrd es ls
  | .ln w o l n => stepLn es w o l n
  | .mo w o n => stepMo es w o n
  | .mv o p n => stepMv es o p n
/-- what a deed changed, as it is told -/
def PrAt (H : Hp) (v : V) (c : Int × Int) : Prop := ∃ t, v = .ref t ∧ H t = some (.tup [.int c.1, .int c.2])
def ChAt (H : Hp) (r : Addr) (cs : List (Int × Int)) : Prop := ∃ xs, H r = some (.lst xs) ∧ Paired (PrAt H) xs cs
theorem But.prs {S : Addr → Prop} {H H' : Hp} (b : But S H H') {xs : List V} {cs : List (Int × Int)} (h : Paired (PrAt H) xs cs) : Paired (PrAt H') xs cs := Paired.mapP h fun _ _ ⟨t, e, q⟩ => ⟨t, e, b.tup _ _ q⟩
/-! ### a new order -/
noncomputable def Lay.add (L : Lay) (p : OL) : Lay := ⟨L.each, L.trail, L.ords ++ [p], fun a => @ite _ (p.foot a) (Classical.propDecidable _) (.ord L.ords.length) (L.own a)⟩
theorem Lay.add_in {L : Lay} {p : OL} {a : Addr} (h : p.foot a) : (L.add p).own a = .ord L.ords.length := by
  exact @if_pos _ (Classical.propDecidable _) h _ _ _
theorem Lay.add_out {L : Lay} {p : OL} {a : Addr} (h : ¬ p.foot a) : (L.add p).own a = L.own a := by
  exact @if_neg _ (Classical.propDecidable _) h _ _ _
theorem BookAt.add {K : PySem.W.Frag} {H H2 : Hp} {b : Addr} {B : Bk} {L : Lay} {p : OL} {o : Od} (h : BookAt K H b B L) (hx : ∀ a, p.foot a → H a = none) (O : OdAt K H2 p o) (s : Same H H2) :
    BookAt K (upd H2 L.each (.lst ((L.ords ++ [p]).map fun p => V.ref p.o))) b { B with each := B.each ++ [o] } (L.add p) ∧ Mod L (L.add p) H (upd H2 L.each (.lst ((L.ords ++ [p]).map fun p => V.ref p.o))) := by
  have ev2 := s _ _ h.ev
  have bt : But (· = L.each) H (upd H2 L.each (.lst ((L.ords ++ [p]).map fun p => V.ref p.o))) := (But.of s).trans (But.lst ev2 rfl)
  have bt2 : But (· = L.each) H2 (upd H2 L.each (.lst ((L.ords ++ [p]).map fun p => V.ref p.o))) := But.lst ev2 rfl
  have old : ∀ a, L.own a ≠ .no → ¬ p.foot a := fun a z f => by
    obtain ⟨u, q⟩ := h.dom a z
    rw [hx a f] at q
    cases q
  have fe : ∀ a, p.foot a → ¬ a = L.each := fun a f z => by
    have q := h.ev
    rw [← z, hx a f] at q
    cases q
  have own : ∀ a, L.own a ≠ .no → (L.add p).own a = L.own a := fun a z => Lay.add_out (old a z)
  have z1 : ∀ {r : Role} {a : Addr}, L.own a = r → r ≠ .no → (L.add p).own a = r := fun {r a} e n => by
    rw [own a (by rw [e]; exact n), e]
  refine ⟨⟨?_, z1 h.rb (by intro q; cases q), upd_same, z1 h.re (by intro q; cases q), ?_, z1 h.rt (by intro q; cases q), by simp [Lay.add, h.len], fun j q u e1 e2 => ?_, fun j q e1 a f => ?_, fun a z => ?_⟩, ⟨?_, ?_⟩⟩
  · obtain ⟨dx, e⟩ := h.ob
    exact ⟨dx, bt.keep _ _ e (ne_of e h.ev (by intro q; cases q))⟩
  · obtain ⟨ts, e, q⟩ := h.tr
    refine ⟨ts, bt.keep _ _ e fun z => ?_, Paired.mapP q fun _ _ z => (z.keep bt fun a f y => ?_).imp fun a f _ => z1 f (by intro q; cases q)⟩
    · have q1 := h.rt
      have z' : L.trail = L.each := z
      rw [z', h.re] at q1
      cases q1
    · have f' : L.own a = .deed := f
      have y' : a = L.each := y
      rw [y', h.re] at f'
      cases f'
  · by_cases hj : j < L.ords.length
    · have e1' : (L.ords ++ [p])[j]? = some q := e1
      rw [List.getElem?_append_left hj] at e1'
      have e2' : (B.each ++ [o])[j]? = some u := e2
      rw [List.getElem?_append_left (by rw [← h.len]; exact hj)] at e2'
      refine (h.od j q u e1' e2').keep bt fun a f z => ?_
      have q1 := h.ro j q e1' a f
      have z' : a = L.each := z
      rw [z', h.re] at q1
      cases q1
    · have e1' : (L.ords ++ [p])[j]? = some q := e1
      have hj2 : j = L.ords.length := by
        have := (List.getElem?_eq_some_iff.mp e1').1
        simp at this
        omega
      subst hj2
      rw [List.getElem?_append_right (Nat.le_refl _), Nat.sub_self] at e1'
      cases e1'
      have e2' : (B.each ++ [o])[L.ords.length]? = some u := e2
      rw [h.len, List.getElem?_append_right (Nat.le_refl _), Nat.sub_self] at e2'
      cases e2'
      exact O.keep bt2 fun a f z => fe a f z
  · by_cases hj : j < L.ords.length
    · have e1' : (L.ords ++ [p])[j]? = some q := e1
      rw [List.getElem?_append_left hj] at e1'
      exact z1 (h.ro j q e1' a f) (by intro q; cases q)
    · have e1' : (L.ords ++ [p])[j]? = some q := e1
      have hj2 : j = L.ords.length := by
        have := (List.getElem?_eq_some_iff.mp e1').1
        simp at this
        omega
      subst hj2
      rw [List.getElem?_append_right (Nat.le_refl _), Nat.sub_self] at e1'
      cases e1'
      exact Lay.add_in f
  · by_cases f : p.foot a
    · obtain ⟨u, q⟩ := O.dom a f
      exact ⟨u, bt2.keep _ _ q (fe a f)⟩
    · rw [Lay.add_out f] at z
      by_cases y : a = L.each
      · exact ⟨_, by rw [y]; exact upd_same⟩
      · obtain ⟨u, q⟩ := h.dom a z
        exact ⟨u, bt.keep _ _ q y⟩
  · refine bt.mono fun a y => ?_
    have y' : a = L.each := y
    show L.own a ≠ .no
    rw [y', h.re]
    intro q
    cases q
  · intro a z
    by_cases f : p.foot a
    · exact .inr (hx a f)
    · rw [Lay.add_out f] at z
      exact .inl z
theorem firstErr_at {ls : List Lt} {i : Nat} {t : Lt} {e : Er} (h : ∀ (j : Nat) u, j < i → ls[j]? = some u → ltCheck u = none) (ht : ls[i]? = some t) (he : ltCheck t = some e) : firstErr ls = some e := by
  induction ls generalizing i with
  | nil => simp at ht
  | cons a l ih =>
    cases i with
    | zero =>
      cases ht
      unfold firstErr
      rw [List.findSome?_cons, he]
    | succ n =>
      have ha : ltCheck a = none := h 0 a (Nat.succ_pos _) rfl
      have q := ih (i := n) (fun j u hj hu => h (j + 1) u (by omega) (by simpa using hu)) (by simpa using ht)
      unfold firstErr at q ⊢
      rw [List.findSome?_cons, ha]
      exact q
theorem firstErr_none {ls : List Lt} (h : ∀ (j : Nat) u, j < ls.length → ls[j]? = some u → ltCheck u = none) : firstErr ls = none := by
  unfold firstErr
  rw [List.findSome?_eq_none_iff]
  intro x hx
  obtain ⟨j, hj⟩ := List.getElem?_of_mem hx
  exact h j x (List.getElem?_eq_some_iff.mp hj).1 hj
def spBookBegin (K : PySem.W.Frag) : Sp := fun vs H Q E => ∃ (b : Addr) (B : Bk) (L : Lay) (l : Addr) (xs : List V) (ls : List Lt), vs = [.ref b, .ref l] ∧ BookAt K H b B L ∧ B.each.length ≤ 40 ∧ H l = some (.lst xs) ∧ LtsAt H xs ls ∧ xs.length ≤ 100000 ∧
  (∀ t, t ∈ ls → t.item.length ≤ 100000) ∧ (∀ e, ordErr B.each.length ls = some e → E (errV K e) none H) ∧
  (ordErr B.each.length ls = none → ∀ r L' H', BookAt K H' b { B with each := B.each ++ [⟨ls.map Lt.ln, 0, []⟩] } L' → Mod L L' H H' → (∀ a, H' a = none → H a = none) → H r = none → L'.own r = .no → H' r = some (.lst []) → Q (.ref r) H')
theorem len_BookBegin {K : PySem.W.Frag} {vs : List V} {H : Hp} {Q : VK} {E : XK} (h : spBookBegin K vs H Q E) : vs.length = 2 := by
  obtain ⟨_, _, _, _, _, _, rfl, _⟩ := h; rfl
theorem ok_BookBegin {P : Program} {w : World} {K : PySem.W.Frag} {mg : Str → Option Value} {base : Heap} (T : Tx w K mg) : FnOk P w K mg base (L2.CX P w) 5 (He.fAd K dBookBegin.at_) (fdO K dBookBegin.at_) P_BookBegin (spBookBegin K) := by
  refine T.f_BookBegin.ok sc_BookBegin (fun vs H Q E h => len_BookBegin h) (fun cdv A outer s H vs Q E hr h => ⟨_, ((pss_cons (ps_if (pt_not (pt_chain op_le op_le pe_int (pe_callB call_len_seq (by rfl) T.b_len (by decide +kernel) (pa_cons (pv 1) pa_nil)) (pe_gc rfl T.c_MOST_LINES))) (pss_one (ps_raise rfl (takes_of rfl rfl rfl rfl) (pmk_own PySem.F.excBase_ValueError T.x_NoLines.1 T.g_NoLines T.x_NoLines.2.1 (raises_own T.x_NoLines.2.2.1 T.x_NoLines.2.2.2) rfl))) pss_nil)
      (pss_cons (ps_for (passes_of rfl) rfl (pi_list (pv 1)) (pg_name (i := 2) sc_BookBegin.nd rfl (Or.inl rfl)) (pss_one (ps_expr (pe_call (ok_CheckLine T) (hr.mono (by decide)) rfl T.g_CheckLine T.f_CheckLine.kp T.b_CheckLine .nil (passes_call (takes_of rfl rfl rfl rfl) (fun _ _ _ _ h => h)) (pa_cons (pv 2) pa_nil)))))
      (pss_cons (ps_if (pt_cmpR op_eq (pe_callB call_len_seq (by rfl) T.b_len (by decide +kernel) (pa_cons (pe_fld (pv 0) rfl) pa_nil)) (pe_gc rfl T.c_MOST_ORDERS) (nomark _)) (pss_one (ps_raise rfl (takes_of rfl rfl rfl rfl) (pmk_own PySem.F.excBase_ValueError T.x_FullBook.1 T.g_FullBook T.x_FullBook.2.1 (raises_own T.x_FullBook.2.2.1 T.x_FullBook.2.2.2) rfl))) pss_nil)
      (pss_cons (ps_expr (pe_bm PySem.F.plainAttrs_list PySem.F.slot_list_append PySem.F.type_list_append mt_append (pe_fld (pv 0) rfl) (pa_cons (pe_make T.mk_Order (ok_OrderInit T) (hr.mono (by decide)) rfl T.g_Order T.b_OrderInit .nil pass0 (pa_cons (pv 1) pa_nil)) pa_nil)))
      (pss_one (ps_ret (pe_lst pa_nil)))))))), ?_⟩)
  obtain ⟨b, B, L, l, xs, ls, rfl, h, hfew, hl, pt, hz, hit, kE, k⟩ := h
  obtain ⟨dx, hb⟩ := h.ob
  have len := pt.length
  walk_at "rd"
  refine ⟨_, _, rfl, .inl (SqL.of hl), ?_⟩
  walk_at "rd"
  have bad : ¬ (1 ≤ ls.length ∧ ls.length ≤ 20) → E (.ref (He.ga K "NoLines")) none H := fun n => kE .noLines (by unfold ordErr; rw [if_pos n])
  refine r_itd (fun c1 => ?_) (fun c1 => ?_)
  rotate_left
  · walk_at "rd"
    exact bad fun z => by omega
  walk_at "rd"
  refine r_itn (fun c2 => ?_) (fun c2 => ?_)
  · exact bad fun z => by omega
  walk_at "rd"
  have gl : 1 ≤ ls.length ∧ ls.length ≤ 20 := by omega
  refine ⟨l, rfl, ⟨xs, SqL.of hl⟩, for_list (K := K) (a := l) (xs := xs) (fun i σ H' => ∃ v, σ = [some (.ref b), some (.ref l), v] ∧ H' = H ∧ ∀ (j : Nat) u, j < i → ls[j]? = some u → ltCheck u = none)
    ⟨none, rfl, rfl, fun j u hj => absurd hj (Nat.not_lt_zero _)⟩ (fun i σ H' _ ⟨_, _, e, _⟩ => by rw [e]; exact SqL.of hl) ?_ ?_⟩
  · rintro i x σ H' hi ⟨v, rfl, rfl, hp⟩
    have hi2 : i < ls.length := by rw [← len]; exact (List.getElem?_eq_some_iff.mp hi).1
    have et : ls[i]? = some ls[i] := List.getElem?_eq_getElem hi2
    walk_at "rd"
    refine ⟨x, ls[i], rfl, Paired.get pt hi et, hit _ (List.mem_of_getElem? et), ?_⟩
    cases ce : ltCheck ls[i] with
    | none =>
      refine ⟨_, rfl, rfl, fun j u hj hu => ?_⟩
      by_cases hji : j = i
      · subst hji
        rw [et] at hu
        cases hu
        exact ce
      · exact hp j u (by omega) hu
    | some e =>
      refine kE e ?_
      unfold ordErr
      rw [if_neg (fun z => z gl), firstErr_at hp et ce]
  · rintro σ H' ⟨v, rfl, rfl, hp⟩
    have fe : firstErr ls = none := firstErr_none fun j u hj hu => hp j u (by rw [len]; exact hj) hu
    walk_at "rd"
    refine r_f hb T.cl_Book T.n_Book_each (lk_Book_each _ _) ?_
    walk_at "rd"
    refine ⟨_, _, rfl, .inl (SqL.of h.ev), ?_⟩
    walk_at "rd"
    rw [List.length_map, h.len]
    refine r_itd (fun c => ?_) (fun c => ?_)
    · walk_at "rd"
      refine kE .fullBook ?_
      unfold ordErr
      rw [if_neg (fun z => z gl), fe]
      show (if B.each.length = 40 then some Er.fullBook else none) = _
      rw [if_pos (by omega)]
    walk_at "rd"
    refine r_f hb T.cl_Book T.n_Book_each (lk_Book_each _ _) ?_
    refine r_tyL (SqL.of h.ev) ?_
    walk_at "rd"
    intro x dy nx ndy ne
    have s1 : Same H' (upd (upd H' dy (.own x)) x (.ins (He.ga K "Order") dy [])) := fun a u e => by
      rw [upd_ne (ne_of_none e nx), upd_ne (ne_of_none e ndy)]
      exact e
    refine ⟨x, dy, l, xs, ls, rfl, upd_same, s1.seq (SqL.of hl), (But.of (S := fun _ => False) s1).lts pt, hz, fun p H2 hpo O hfr b2 => ⟨rfl, ?_⟩⟩
    have s2 : Same H' H2 := fun a u e => b2.keep _ _ (s1 _ _ e) (ne_of_none e nx)
    walk_at "rd"
    refine r_app (s2 _ _ h.ev) (by rw [List.length_map, h.len]; refine sz5l ?_; omega) ?_
    have hfoot : ∀ a, p.foot a → H' a = none := fun a f => by
      rcases hfr a f with z | z
      · rw [z]; exact nx
      · exact Same.free s1 z
    obtain ⟨BA, MA⟩ := h.add hfoot O s2
    have e3 : (L.ords ++ [p]).map (fun p => V.ref p.o) = L.ords.map (fun p => V.ref p.o) ++ [V.ref x] := by
      rw [List.map_append, ← hpo]; rfl
    rw [e3] at BA MA
    walk_at "rd"
    refine r_mk (by simp) fun r hr => ?_
    have back : ∀ a, upd H2 L.each (.lst (L.ords.map (fun p => V.ref p.o) ++ [V.ref x])) a = none → H' a = none := fun a e => by
      by_cases z : a = L.each
      · rw [z, upd_same] at e; cases e
      · rw [upd_ne z] at e
        exact Same.free s2 e
    refine k ?_ r (L.add p) _ (BA.same (same_upd hr)) ⟨MA.but.trans (But.of (same_upd hr)), MA.grow⟩ (fun a e => back a ?_) (back r hr) (BA.fresh hr) upd_same
    · unfold ordErr
      rw [if_neg (fun z => z gl), fe]
      show (if B.each.length = 40 then some Er.fullBook else none) = none
      rw [if_neg (by omega)]
    · by_cases z : a = r
      · rw [z, upd_same] at e; cases e
      · rw [upd_ne z] at e
        exact e

/-! ### deeds of one order, moves -/
theorem turn_ok {w : Str} {l l' : Ln} {n : Int} (h : l.ok) (e : l.turn w n = some l') : l'.ok := by
  unfold Ln.turn Ln.deliver Ln.reduce Ln.bring Ln.cut at e
  obtain ⟨h1, h2⟩ := h
  repeat' split at e
  all_goals first
    | (cases e; exact ⟨h1, h2⟩)
    | cases e
theorem Od.ok.line {o : Od} {i : Nat} {l l' : Ln} {w : Str} {n : Int} (h : o.ok) (el : o.lines[i]? = some l) (e : l.turn w n = some l') : Od.ok { o with lines := o.lines.set i l' } := by
  refine ⟨fun x hx => ?_, by simpa using h.few⟩
  have hx' : x ∈ o.lines.set i l' := hx
  rcases List.mem_or_eq_of_mem_set hx' with z | z
  · exact h.ln x z
  · rw [z]
    exact turn_ok (h.ln l (List.mem_of_getElem? el)) e
theorem Od.ok.pay {o : Od} {n : Int} (h : o.ok) : (o.pay n).ok := ⟨h.ln, h.few⟩
theorem Od.ok.mark {o : Od} {w : Str} {n : Int} (h : o.ok) : (o.mark w n).ok := ⟨h.ln, h.few⟩
theorem BookAt.footOf {K : PySem.W.Frag} {H : Hp} {b : Addr} {B : Bk} {L : Lay} {j : Nat} {p : OL} (h : BookAt K H b B L) (hp : L.ords[j]? = some p) : ∀ a, p.foot a → L.foot a := fun a f => by
  show L.own a ≠ .no
  rw [h.ro j p hp a f]
  intro q
  cases q
theorem OL.foot_las {p : OL} {a : Addr} (h : a ∈ p.las) : p.foot a := .inr (.inr (.inr h))
theorem OL.foot_lm {p : OL} {a : Addr} (h : a = p.lm) : p.foot a := .inr (.inr (.inl h))
theorem OL.foot_o {p : OL} {a : Addr} (h : a = p.o) : p.foot a := .inl h
/-- what a deed of one order ends in: the pair told in a new list -/
def OneK (K : PySem.W.Frag) (b : Addr) (B : Bk) (L : Lay) (H : Hp) (r : Res) (Q : VK) (E : XK) : Prop :=
  (∀ e, r = .error e → ∀ H', Same H H' → E (errV K e) none H') ∧
  ∀ es cs, r = .ok (es, cs) → ∀ r H', BookAt K H' b { B with each := es } L → But L.foot H H' → (∀ a, H' a = none → H a = none) → H r = none → ChAt H' r cs → Q (.ref r) H'
def spBookOne (K : PySem.W.Frag) : Sp := fun vs H Q E => ∃ (b : Addr) (B : Bk) (L : Lay) (v : V) (d : Dd), vs = [.ref b, v] ∧ BookAt K H b B L ∧ B.ok ∧ B.trail.length < 100000 ∧ DdAt (fun _ => True) H v d ∧
  ((∃ w o l n, d = .ln w o l n) ∨ ∃ w o n, d = .mo w o n) ∧ OneK K b B L H (step B.each d) Q E
theorem len_BookOne {K : PySem.W.Frag} {vs : List V} {H : Hp} {Q : VK} {E : XK} (h : spBookOne K vs H Q E) : vs.length = 2 := by
  obtain ⟨_, _, _, _, _, rfl, _⟩ := h; rfl
theorem same_none {H H' : Hp} (s : Same H H') {a : Addr} (h : H' a = none) : H a = none := Same.free s h
theorem upd_none {H : Hp} {a b : Addr} {o : HO} (h : upd H a o b = none) : b ≠ a ∧ H b = none := by
  by_cases z : b = a
  · rw [z, upd_same] at h; cases h
  · rw [upd_ne z] at h
    exact ⟨z, h⟩
/-- nothing goes -/
def Stay (H H' : Hp) : Prop := ∀ a, H' a = none → H a = none
theorem But.stay {p : OL} {K : PySem.W.Frag} {H H' : Hp} {o : Od} (b : But p.foot H H') (O : OdAt K H' p o) : Stay H H' := fun a e => by
  cases q : H a with
  | none => rfl
  | some u =>
    by_cases f : p.foot a
    · obtain ⟨x, z⟩ := O.dom a f
      rw [z] at e; cases e
    · rw [b.keep _ _ q f] at e; cases e
/-- the end of a deed of one order: mark, the pair, the list -/
theorem one_end {K : PySem.W.Frag} {H H1 H2 : Hp} {b : Addr} {B : Bk} {L : Lay} {j : Nat} {p : OL} {od' : Od} {o c : Int} {Q : VK} {t r : Addr} (h : BookAt K H b B L) (hp : L.ords[j]? = some p) (s : Same H H1)
    (O : OdAt K H2 p od') (bt : But p.foot H1 H2) (ht : H2 t = none) (hr : upd H2 t (.tup [.int o, .int c]) r = none)
    (k : ∀ r H', BookAt K H' b { B with each := B.each.set j od' } L → But L.foot H H' → (∀ a, H' a = none → H a = none) → H r = none → ChAt H' r [(o, c)] → Q (.ref r) H') :
    Q (.ref r) (upd (upd H2 t (.tup [.int o, .int c])) r (.lst [.ref t])) := by
  obtain ⟨rt, r2⟩ := upd_none hr
  have h1 := h.same s
  have h2 := h1.one hp O bt O.dom
  have s3 : Same H2 (upd (upd H2 t (.tup [.int o, .int c])) r (.lst [.ref t])) := (same_upd ht).trans (same_upd hr)
  refine k r _ (h2.same s3) (((But.of s).trans (bt.mono (h1.footOf hp))).trans (But.of s3)) (fun a e => same_none s (bt.stay O a (same_none s3 e))) (same_none s (bt.stay O r r2)) ⟨[.ref t], upd_same, .cons ⟨t, rfl, ?_⟩ .nil⟩
  rw [upd_ne (Ne.symm rt)]
  exact upd_same
theorem ok_BookOne {P : Program} {w : World} {K : PySem.W.Frag} {mg : Str → Option Value} {base : Heap} (T : Tx w K mg) : FnOk P w K mg base (L2.CX P w) 6 (He.fAd K dBookOne.at_) (fdO K dBookOne.at_) P_BookOne (spBookOne K) := by
  refine T.f_BookOne.ok sc_BookOne (fun vs H Q E h => len_BookOne h) (fun cdv A outer s H vs Q E hr h => ⟨_, ((pss_cons (ps_set (i := 2) sc_BookOne.nd rfl (Or.inl rfl) (pe_meth (pv 0) T.cl_Book T.m_Book_order_of (ok_BookOrderOf T) (hr.mono (by decide)) T.b_BookOrderOf .nil (passes_call (takes_of rfl rfl rfl rfl) (fun _ _ _ _ h => h)) (pa_cons (pe_ix ix_tup (pv 1) pe_int (fun _ _ => rfl)) pa_nil)))
      (pss_cons (ps_if (pt_cmpR op_eq (pe_callB call_len_seq (by rfl) T.b_len (by decide +kernel) (pa_cons (pv 1) pa_nil)) pe_int (nomark _)) (pss_one (ps_expr (pe_meth (pv 2) T.cl_Order T.m_Order_line_of (ok_OrderLineOf T) (hr.mono (by decide)) T.b_OrderLineOf .nil (passes_call (takes_of rfl rfl rfl rfl) (fun _ _ _ _ h => h)) (pa_cons (pe_ix ix_tup (pv 1) pe_int (fun _ _ => rfl)) pa_nil)))) pss_nil)
      (pss_cons (ps_set (i := 3) sc_BookOne.nd rfl (Or.inl rfl) (pe_ix ix_tup (pv 1) (pe_op op_sub (pe_callB call_len_seq (by rfl) T.b_len (by decide +kernel) (pa_cons (pv 1) pa_nil)) pe_int) (fun _ _ => rfl)))
      (pss_cons (ps_expr (pe_meth (pv 0) T.cl_Book T.m_Book_need_number (ok_BookNeedNumber T) (hr.mono (by decide)) T.b_BookNeedNumber .nil (passes_call (takes_of rfl rfl rfl rfl) (fun _ _ _ _ h => h)) (pa_cons (pv 3) pa_nil)))
      (pss_cons (ps_set (i := 4) sc_BookOne.nd rfl (Or.inl rfl) (pe_meth0 (pv 2) T.cl_Order T.m_Order_owing (ok_OrderOwing T) (hr.mono (by decide)) T.b_OrderOwing .nil pass0))
      (pss_cons (ps_if (pt_cmpR op_eq (pe_callB call_len_seq (by rfl) T.b_len (by decide +kernel) (pa_cons (pv 1) pa_nil)) pe_int (nomark _)) (pss_one (ps_expr (pe_meth (pv 2) T.cl_Order T.m_Order_turn_line (ok_OrderTurnLine T) (hr.mono (by decide)) T.b_OrderTurnLine .nil (passes_call (takes_of rfl rfl rfl rfl) (fun _ _ _ _ h => h)) (pa_cons (pe_ix ix_tup (pv 1) pe_int (fun _ _ => rfl)) (pa_cons (pe_ix ix_tup (pv 1) pe_int (fun _ _ => rfl)) (pa_cons (pv 3) pa_nil)))))) (pss_one (ps_if (pt_cmpR op_eq (pe_ix ix_tup (pv 1) pe_int (fun _ _ => rfl)) pe_str (nomark _)) (pss_one (ps_expr (pe_meth (pv 2) T.cl_Order T.m_Order_take (ok_OrderTake T) (hr.mono (by decide)) T.b_OrderTake .nil pass0 (pa_cons (pv 3) pa_nil)))) (pss_cons (ps_expr (pe_meth (pv 2) T.cl_Order T.m_Order_need_over (ok_OrderNeedOver T) (hr.mono (by decide)) T.b_OrderNeedOver .nil (passes_call (takes_of rfl rfl rfl rfl) (fun _ _ _ _ h => h)) (pa_cons (pv 3) pa_nil)))
      (pss_one (ps_expr (pe_meth (pv 2) T.cl_Order T.m_Order_take (ok_OrderTake T) (hr.mono (by decide)) T.b_OrderTake .nil pass0 (pa_cons (pe_un un_neg (pv 3)) pa_nil))))))))
      (pss_one (ps_ret (pe_lst (pa_cons (pe_tup (pa_cons (pe_ix ix_tup (pv 1) pe_int (fun _ _ => rfl)) (pa_cons (pe_meth (pv 2) T.cl_Order T.m_Order_mark (ok_OrderMark T) (hr.mono (by decide)) T.b_OrderMark .nil pass0 (pa_cons (pe_ix ix_tup (pv 1) pe_int (fun _ _ => rfl)) (pa_cons (pv 4) pa_nil))) pa_nil))) pa_nil))))))))))), ?_⟩)
  obtain ⟨b, B, L, v, d, rfl, h, ok, hz, hd, hc, kE, k⟩ := h
  obtain ⟨dx, hb⟩ := h.ob
  rcases hc with ⟨w', o, l, n, rfl⟩ | ⟨w', o, n, rfl⟩
  · obtain ⟨t, rfl, ht⟩ := hd
    walk_at "rd"
    refine r_m hb (no_Book_order_of _ _) ?_
    walk_at "rd"
    refine r_ixT (SqT.of ht) (atI_get (j := 1) rfl rfl) ?_
    walk_at "rd"
    change (∀ e, stepLn B.each w' o l n = .error e → _) at kE
    change (∀ es cs, stepLn B.each w' o l n = .ok (es, cs) → _) at k
    unfold stepLn at kE k
    refine ⟨b, B, L, o, rfl, h, fun c => kE .noOrder (by rw [at_none c]) _ (Same.refl _), fun j p od ej ep eo => ?_⟩
    subst ej
    rw [at_some eo] at kE k
    dsimp only at kE k
    have O := h.od j p od ep eo
    obtain ⟨do_, ho⟩ := O.ob
    have oko := ok.od od (List.mem_of_getElem? eo)
    walk_at "rd"
    refine ⟨_, _, rfl, .inr (SqT.of ht), ?_⟩
    walk_at "rd"
    refine r_ity rfl ?_
    walk_at "rd"
    refine r_m ho (no_Order_line_of _ _ _) ?_
    walk_at "rd"
    refine r_ixT (SqT.of ht) (atI_get (j := 2) rfl rfl) ?_
    walk_at "rd"
    refine ⟨p, od, l, rfl, O, fun c => kE .noLine (by rw [at_none c]) _ (Same.refl _), fun i a ei ea => ?_⟩
    subst ei
    have hi : i < od.lines.length := by rw [← O.len]; exact (List.getElem?_eq_some_iff.mp ea).1
    have el : od.lines[i]? = some od.lines[i] := List.getElem?_eq_getElem hi
    rw [at_some el] at kE k
    dsimp only at kE k
    walk_at "rd"
    refine ⟨_, _, rfl, .inr (SqT.of ht), ?_⟩
    walk_at "rd"
    refine r_ixT (SqT.of ht) (atI_get (j := 3) rfl rfl) ?_
    walk_at "rd"
    refine r_m hb (no_Book_need_number _ _) ?_
    walk_at "rd"
    refine ⟨_, n, rfl, fun c => kE .noNumber (by rw [if_pos c]) _ (Same.refl _), fun c => ?_⟩
    rw [if_neg c] at kE k
    walk_at "rd"
    refine r_m ho (no_Order_owing _ _ _) ?_
    walk_at "rd"
    refine ⟨p, od, rfl, O, oko, fun H1 s1 => ?_⟩
    walk_at "rd"
    refine ⟨_, _, rfl, .inr (SqT.of (s1 _ _ ht)), ?_⟩
    walk_at "rd"
    refine r_ity rfl ?_
    walk_at "rd"
    have O1 := O.same s1
    refine r_m (s1 _ _ ho) (no_Order_turn_line _ _ _) ?_
    walk_at "rd"
    refine r_ixT (SqT.of (s1 _ _ ht)) (atI_get (j := 0) rfl rfl) ?_
    walk_at "rd"
    refine r_ixT (SqT.of (s1 _ _ ht)) (atI_get (j := 2) rfl rfl) ?_
    walk_at "rd"
    refine ⟨p, od, w', i, od.lines[i], n, rfl, O1, oko, el, fun e => kE .tooMuch (by rw [e]) _ s1, fun l' e H2 O2 b2 => ?_⟩
    rw [e] at k
    dsimp only at k
    obtain ⟨do2, ho2⟩ := O2.ob
    walk_at "rd"
    have ht2 : H2 t = some (.tup [.str w', .int (j : Int), .int (i : Int), .int n]) := b2.tup _ _ (s1 _ _ ht)
    refine r_ixT (SqT.of ht2) (atI_get (j := 1) rfl rfl) ?_
    walk_at "rd"
    refine r_m ho2 (no_Order_mark _ _ _) ?_
    walk_at "rd"
    refine r_ixT (SqT.of ht2) (atI_get (j := 0) rfl rfl) ?_
    walk_at "rd"
    have mk := ok.mks od (List.mem_of_getElem? eo)
    refine ⟨p, _, w', _, rfl, O2, oko.line el e, Nat.lt_of_le_of_lt mk hz, fun H3 O3 b3 => ?_⟩
    walk_at "rd"
    refine r_mk (by simp) fun t4 ht4 => ?_
    walk_at "rd"
    refine r_mk (by simp) fun r5 hr5 => ?_
    exact one_end h ep s1 O3 ((b2.mono fun a z => OL.foot_las z).trans (b3.mono fun a z => OL.foot_lm z)) ht4 hr5 (k _ _ rfl)
  · obtain ⟨t, rfl, ht⟩ := hd
    walk_at "rd"
    refine r_m hb (no_Book_order_of _ _) ?_
    walk_at "rd"
    refine r_ixT (SqT.of ht) (atI_get (j := 1) rfl rfl) ?_
    walk_at "rd"
    change (∀ e, stepMo B.each w' o n = .error e → _) at kE
    change (∀ es cs, stepMo B.each w' o n = .ok (es, cs) → _) at k
    unfold stepMo at kE k
    refine ⟨b, B, L, o, rfl, h, fun c => kE .noOrder (by rw [at_none c]) _ (Same.refl _), fun j p od ej ep eo => ?_⟩
    subst ej
    rw [at_some eo] at kE k
    dsimp only at kE k
    have O := h.od j p od ep eo
    obtain ⟨do_, ho⟩ := O.ob
    have oko := ok.od od (List.mem_of_getElem? eo)
    have mk := ok.mks od (List.mem_of_getElem? eo)
    walk_at "rd"
    refine ⟨_, _, rfl, .inr (SqT.of ht), ?_⟩
    walk_at "rd"
    refine r_itz (show ¬ ((3 : Nat) : Int) = 4 by decide) ?_
    walk_at "rd"
    refine ⟨_, _, rfl, .inr (SqT.of ht), ?_⟩
    walk_at "rd"
    refine r_ixT (SqT.of ht) (atI_get (j := 2) rfl rfl) ?_
    walk_at "rd"
    refine r_m hb (no_Book_need_number _ _) ?_
    walk_at "rd"
    refine ⟨_, n, rfl, fun c => kE .noNumber (by rw [if_pos c]) _ (Same.refl _), fun c => ?_⟩
    rw [if_neg c] at kE k
    walk_at "rd"
    refine r_m ho (no_Order_owing _ _ _) ?_
    walk_at "rd"
    refine ⟨p, od, rfl, O, oko, fun H1 s1 => ?_⟩
    walk_at "rd"
    refine ⟨_, _, rfl, .inr (SqT.of (s1 _ _ ht)), ?_⟩
    walk_at "rd"
    refine r_itz (show ¬ ((3 : Nat) : Int) = 4 by decide) ?_
    have O1 := O.same s1
    walk_at "rd"
    refine r_ixT (SqT.of (s1 _ _ ht)) (atI_get (j := 0) rfl rfl) ?_
    walk_at "rd"
    refine r_itd (fun cw => ?_) (fun cw => ?_)
    · rw [if_pos cw] at k
      walk_at "rd"
      refine r_m (s1 _ _ ho) (no_Order_take _ _ _) ?_
      walk_at "rd"
      refine ⟨p, od, n, rfl, O1, fun H2 O2 b2 => ?_⟩
      obtain ⟨do2, ho2⟩ := O2.ob
      walk_at "rd"
      have ht2 : H2 t = some (.tup [.str w', .int (j : Int), .int n]) := b2.tup _ _ (s1 _ _ ht)
      refine r_ixT (SqT.of ht2) (atI_get (j := 1) rfl rfl) ?_
      walk_at "rd"
      refine r_m ho2 (no_Order_mark _ _ _) ?_
      walk_at "rd"
      refine r_ixT (SqT.of ht2) (atI_get (j := 0) rfl rfl) ?_
      walk_at "rd"
      refine ⟨p, _, w', _, rfl, O2, oko.pay, Nat.lt_of_le_of_lt mk hz, fun H3 O3 b3 => ?_⟩
      walk_at "rd"
      refine r_mk (by simp) fun t4 ht4 => ?_
      walk_at "rd"
      refine r_mk (by simp) fun r5 hr5 => ?_
      exact one_end h ep s1 O3 ((b2.mono fun a z => OL.foot_o z).trans (b3.mono fun a z => OL.foot_lm z)) ht4 hr5 (k _ _ rfl)
    · rw [if_neg cw] at kE k
      walk_at "rd"
      refine r_m (s1 _ _ ho) (no_Order_need_over _ _ _) ?_
      walk_at "rd"
      refine ⟨p, od, n, rfl, O1, oko, fun c2 H2 s2 => kE .tooMuch (by rw [if_pos c2]) _ (s1.trans s2), fun c2 H2 s2 => ?_⟩
      rw [if_neg c2] at k
      walk_at "rd"
      refine r_m (s2 _ _ (s1 _ _ ho)) (no_Order_take _ _ _) ?_
      walk_at "rd"
      refine ⟨p, od, -n, rfl, O1.same s2, fun H3 O3 b3 => ?_⟩
      obtain ⟨do3, ho3⟩ := O3.ob
      walk_at "rd"
      have ht3 : H3 t = some (.tup [.str w', .int (j : Int), .int n]) := b3.tup _ _ (s2 _ _ (s1 _ _ ht))
      refine r_ixT (SqT.of ht3) (atI_get (j := 1) rfl rfl) ?_
      walk_at "rd"
      refine r_m ho3 (no_Order_mark _ _ _) ?_
      walk_at "rd"
      refine r_ixT (SqT.of ht3) (atI_get (j := 0) rfl rfl) ?_
      walk_at "rd"
      refine ⟨p, _, w', _, rfl, O3, oko.pay, Nat.lt_of_le_of_lt mk hz, fun H4 O4 b4 => ?_⟩
      walk_at "rd"
      refine r_mk (by simp) fun t4 ht4 => ?_
      walk_at "rd"
      refine r_mk (by simp) fun r5 hr5 => ?_
      exact one_end h ep (s1.trans s2) O4 ((b3.mono fun a z => OL.foot_o z).trans (b4.mono fun a z => OL.foot_lm z)) ht4 hr5 (k _ _ rfl)

/-! ### a move -/
theorem Stay.of {H H' : Hp} (s : Same H H') : Stay H H' := fun _ e => Same.free s e
theorem Stay.trans {H H1 H2 : Hp} (a : Stay H H1) (b : Stay H1 H2) : Stay H H2 := fun x e => a x (b x e)
def spBookShift (K : PySem.W.Frag) : Sp := fun vs H Q E => ∃ (b : Addr) (B : Bk) (L : Lay) (v : V) (o p n : Int), vs = [.ref b, v] ∧ BookAt K H b B L ∧ B.ok ∧ B.trail.length < 100000 ∧ DdAt (fun _ => True) H v (.mv o p n) ∧
  OneK K b B L H (stepMv B.each o p n) Q E
theorem len_BookShift {K : PySem.W.Frag} {vs : List V} {H : Hp} {Q : VK} {E : XK} (h : spBookShift K vs H Q E) : vs.length = 2 := by
  obtain ⟨_, _, _, _, _, _, _, rfl, _⟩ := h; rfl
theorem ok_BookShift {P : Program} {w : World} {K : PySem.W.Frag} {mg : Str → Option Value} {base : Heap} (T : Tx w K mg) : FnOk P w K mg base (L2.CX P w) 6 (He.fAd K dBookShift.at_) (fdO K dBookShift.at_) P_BookShift (spBookShift K) := by
  refine T.f_BookShift.ok sc_BookShift (fun vs H Q E h => len_BookShift h) (fun cdv A outer s H vs Q E hr h => ⟨_, ((pss_cons (ps_set (i := 2) sc_BookShift.nd rfl (Or.inl rfl) (pe_meth (pv 0) T.cl_Book T.m_Book_order_of (ok_BookOrderOf T) (hr.mono (by decide)) T.b_BookOrderOf .nil (passes_call (takes_of rfl rfl rfl rfl) (fun _ _ _ _ h => h)) (pa_cons (pe_ix ix_tup (pv 1) pe_int (fun _ _ => rfl)) pa_nil)))
      (pss_cons (ps_set (i := 3) sc_BookShift.nd rfl (Or.inl rfl) (pe_meth (pv 0) T.cl_Book T.m_Book_order_of (ok_BookOrderOf T) (hr.mono (by decide)) T.b_BookOrderOf .nil (passes_call (takes_of rfl rfl rfl rfl) (fun _ _ _ _ h => h)) (pa_cons (pe_ix ix_tup (pv 1) pe_int (fun _ _ => rfl)) pa_nil)))
      (pss_cons (ps_if (pt_cmpR op_eq (pe_ix ix_tup (pv 1) pe_int (fun _ _ => rfl)) (pe_ix ix_tup (pv 1) pe_int (fun _ _ => rfl)) (nomark _)) (pss_one (ps_raise rfl (takes_of rfl rfl rfl rfl) (pmk_own PySem.F.excBase_ValueError T.x_SameOrder.1 T.g_SameOrder T.x_SameOrder.2.1 (raises_own T.x_SameOrder.2.2.1 T.x_SameOrder.2.2.2) rfl))) pss_nil)
      (pss_cons (ps_expr (pe_meth (pv 0) T.cl_Book T.m_Book_need_number (ok_BookNeedNumber T) (hr.mono (by decide)) T.b_BookNeedNumber .nil (passes_call (takes_of rfl rfl rfl rfl) (fun _ _ _ _ h => h)) (pa_cons (pe_ix ix_tup (pv 1) pe_int (fun _ _ => rfl)) pa_nil)))
      (pss_cons (ps_expr (pe_meth (pv 2) T.cl_Order T.m_Order_need_over (ok_OrderNeedOver T) (hr.mono (by decide)) T.b_OrderNeedOver .nil (passes_call (takes_of rfl rfl rfl rfl) (fun _ _ _ _ h => h)) (pa_cons (pe_ix ix_tup (pv 1) pe_int (fun _ _ => rfl)) pa_nil)))
      (pss_cons (ps_set (i := 4) sc_BookShift.nd rfl (Or.inl rfl) (pe_lst (pa_cons (pe_meth0 (pv 2) T.cl_Order T.m_Order_owing (ok_OrderOwing T) (hr.mono (by decide)) T.b_OrderOwing .nil pass0) (pa_cons (pe_meth0 (pv 3) T.cl_Order T.m_Order_owing (ok_OrderOwing T) (hr.mono (by decide)) T.b_OrderOwing .nil pass0) pa_nil))))
      (pss_cons (ps_expr (pe_meth (pv 2) T.cl_Order T.m_Order_take (ok_OrderTake T) (hr.mono (by decide)) T.b_OrderTake .nil pass0 (pa_cons (pe_un un_neg (pe_ix ix_tup (pv 1) pe_int (fun _ _ => rfl))) pa_nil)))
      (pss_cons (ps_expr (pe_meth (pv 3) T.cl_Order T.m_Order_take (ok_OrderTake T) (hr.mono (by decide)) T.b_OrderTake .nil pass0 (pa_cons (pe_ix ix_tup (pv 1) pe_int (fun _ _ => rfl)) pa_nil)))
      (pss_one (ps_ret (pe_lst (pa_cons (pe_tup (pa_cons (pe_ix ix_tup (pv 1) pe_int (fun _ _ => rfl)) (pa_cons (pe_meth (pv 2) T.cl_Order T.m_Order_mark (ok_OrderMark T) (hr.mono (by decide)) T.b_OrderMark .nil pass0 (pa_cons pe_str (pa_cons (pe_ix ix_list (pv 4) pe_int (fun _ _ => rfl)) pa_nil))) pa_nil))) (pa_cons (pe_tup (pa_cons (pe_ix ix_tup (pv 1) pe_int (fun _ _ => rfl)) (pa_cons (pe_meth (pv 3) T.cl_Order T.m_Order_mark (ok_OrderMark T) (hr.mono (by decide)) T.b_OrderMark .nil pass0 (pa_cons pe_str (pa_cons (pe_ix ix_list (pv 4) pe_int (fun _ _ => rfl)) pa_nil))) pa_nil))) pa_nil)))))))))))))), ?_⟩)
  obtain ⟨b, B, L, v, o, p, n, rfl, h, ok, hz, ⟨t, rfl, ht⟩, kE, k⟩ := h
  obtain ⟨dx, hb⟩ := h.ob
  unfold stepMv at kE k
  walk_at "rd"
  refine r_m hb (no_Book_order_of _ _) ?_
  walk_at "rd"
  refine r_ixT (SqT.of ht) (atI_get (j := 1) rfl rfl) ?_
  walk_at "rd"
  refine ⟨b, B, L, o, rfl, h, fun c => kE .noOrder (by rw [at_none c]) _ (Same.refl _), fun i p1 od1 ei ep1 eo1 => ?_⟩
  subst ei
  rw [at_some eo1] at kE k
  dsimp only at kE k
  walk_at "rd"
  refine r_m hb (no_Book_order_of _ _) ?_
  walk_at "rd"
  refine r_ixT (SqT.of ht) (atI_get (j := 2) rfl rfl) ?_
  walk_at "rd"
  refine ⟨b, B, L, p, rfl, h, fun c => kE .noOrder (by rw [at_none c]) _ (Same.refl _), fun j p2 od2 ej ep2 eo2 => ?_⟩
  subst ej
  rw [at_some eo2] at kE k
  dsimp only at kE k
  walk_at "rd"
  refine r_ixT (SqT.of ht) (atI_get (j := 1) rfl rfl) ?_
  walk_at "rd"
  refine r_ixT (SqT.of ht) (atI_get (j := 2) rfl rfl) ?_
  walk_at "rd"
  refine r_itd (fun c => kE .sameOrder (by rw [if_pos c]) _ (Same.refl _)) (fun c => ?_)
  rw [if_neg c] at kE k
  have hij : i ≠ j := fun z => c (by rw [z])
  have O1 := h.od i p1 od1 ep1 eo1
  have O2 := h.od j p2 od2 ep2 eo2
  obtain ⟨d1, ho1⟩ := O1.ob
  obtain ⟨d2, ho2⟩ := O2.ob
  have ok1 := ok.od od1 (List.mem_of_getElem? eo1)
  have ok2 := ok.od od2 (List.mem_of_getElem? eo2)
  have mk1 := Nat.lt_of_le_of_lt (ok.mks od1 (List.mem_of_getElem? eo1)) hz
  have mk2 := Nat.lt_of_le_of_lt (ok.mks od2 (List.mem_of_getElem? eo2)) hz
  walk_at "rd"
  refine r_m hb (no_Book_need_number _ _) ?_
  walk_at "rd"
  refine r_ixT (SqT.of ht) (atI_get (j := 3) rfl rfl) ?_
  walk_at "rd"
  refine ⟨_, n, rfl, fun c => kE .noNumber (by rw [if_pos c]) _ (Same.refl _), fun c => ?_⟩
  rw [if_neg c] at kE k
  walk_at "rd"
  refine r_m ho1 (no_Order_need_over _ _ _) ?_
  walk_at "rd"
  refine r_ixT (SqT.of ht) (atI_get (j := 3) rfl rfl) ?_
  walk_at "rd"
  refine ⟨p1, od1, n, rfl, O1, ok1, fun c2 H2 s2 => kE .tooMuch (by rw [if_pos c2]) _ s2, fun c2 H1 s1 => ?_⟩
  rw [if_neg c2] at k
  walk_at "rd"
  refine r_m (s1 _ _ ho1) (no_Order_owing _ _ _) ?_
  walk_at "rd"
  refine ⟨p1, od1, rfl, O1.same s1, ok1, fun H2 s2 => ?_⟩
  walk_at "rd"
  have s12 := s1.trans s2
  refine r_m (s12 _ _ ho2) (no_Order_owing _ _ _) ?_
  walk_at "rd"
  refine ⟨p2, od2, rfl, O2.same s12, ok2, fun H3 s3 => ?_⟩
  walk_at "rd"
  have s13 := s12.trans s3
  refine r_mk (by simp) fun a ha => ?_
  have s14 : Same H (upd H3 a (.lst [.int od1.owing, .int od2.owing])) := s13.trans (same_upd ha)
  have h4 := h.same s14
  have la4 : upd H3 a (.lst [.int od1.owing, .int od2.owing]) a = some (.lst [.int od1.owing, .int od2.owing]) := upd_same
  have aH : H a = none := Same.free s13 ha
  have af : ∀ {q : OL} {m : Nat}, L.ords[m]? = some q → ¬ q.foot a := fun {q m} e f => by
    have z := h.ro m q e a f
    rw [h.fresh aH] at z
    cases z
  revert h4 la4 s14
  generalize upd H3 a (.lst [.int od1.owing, .int od2.owing]) = H4
  intro s14 h4 la4
  walk_at "rd"
  refine r_m (s14 _ _ ho1) (no_Order_take _ _ _) ?_
  walk_at "rd"
  refine r_ixT (SqT.of (s14 _ _ ht)) (atI_get (j := 3) rfl rfl) ?_
  walk_at "rd"
  refine ⟨p1, od1, -n, rfl, h4.od i p1 od1 ep1 eo1, fun H5 O5 b5 => ?_⟩
  have b5' : But p1.foot H4 H5 := b5.mono fun x z => OL.foot_o z
  have h5 := h4.one ep1 O5 b5' O5.dom
  have t5 := b5.tup _ _ (s14 _ _ ht)
  have la5 := b5'.keep _ _ la4 (af ep1)
  have O52 := h5.od j p2 od2 ep2 (by
    show (B.each.set i _)[j]? = _
    rw [List.getElem?_set_ne hij]; exact eo2)
  obtain ⟨d52, ho52⟩ := O52.ob
  walk_at "rd"
  refine r_m ho52 (no_Order_take _ _ _) ?_
  walk_at "rd"
  refine r_ixT (SqT.of t5) (atI_get (j := 3) rfl rfl) ?_
  walk_at "rd"
  refine ⟨p2, od2, n, rfl, O52, fun H6 O6 b6 => ?_⟩
  have b6' : But p2.foot H5 H6 := b6.mono fun x z => OL.foot_o z
  have h6 := h5.one ep2 O6 b6' O6.dom
  have t6 := b6.tup _ _ t5
  have la6 := b6'.keep _ _ la5 (af ep2)
  have li : i < B.each.length := (List.getElem?_eq_some_iff.mp eo1).1
  have lj : j < B.each.length := (List.getElem?_eq_some_iff.mp eo2).1
  have O61 := h6.od i p1 { od1 with money := od1.money + -n } ep1 (by
    show ((B.each.set i _).set j _)[i]? = _
    rw [List.getElem?_set_ne (Ne.symm hij), List.getElem?_set_self li])
  obtain ⟨d61, ho61⟩ := O61.ob
  walk_at "rd"
  refine r_ixT (SqT.of t6) (atI_get (j := 1) rfl rfl) ?_
  walk_at "rd"
  refine r_m ho61 (no_Order_mark _ _ _) ?_
  walk_at "rd"
  refine r_ixL (SqL.of la6) (atI_get (j := 0) rfl rfl) ?_
  walk_at "rd"
  refine ⟨p1, _, "move", _, rfl, O61, ok1.pay, mk1, fun H7 O7 b7 => ?_⟩
  have b7' : But p1.foot H6 H7 := b7.mono fun x z => OL.foot_lm z
  have h7 := h6.one ep1 O7 b7' O7.dom
  have t7 := b7.tup _ _ t6
  have la7 := b7'.keep _ _ la6 (af ep1)
  walk_at "rd"
  refine r_mk (by simp) fun t1 ht1 => ?_
  have s8 := same_upd (o := .tup [.int (i : Int), .int (Od.owing { od1 with money := od1.money + -n } - od1.owing)]) ht1
  have e1 : upd H7 t1 (.tup [.int (i : Int), .int (Od.owing { od1 with money := od1.money + -n } - od1.owing)]) t1 = some (.tup [.int (i : Int), .int (Od.owing { od1 with money := od1.money + -n } - od1.owing)]) := upd_same
  have h8 := h7.same s8
  revert e1 h8 s8
  generalize upd H7 t1 (.tup [.int (i : Int), .int (Od.owing { od1 with money := od1.money + -n } - od1.owing)]) = H8
  intro s8 e1 h8
  walk_at "rd"
  refine r_ixT (SqT.of (s8 _ _ t7)) (atI_get (j := 2) rfl rfl) ?_
  walk_at "rd"
  have O82 := h8.od j p2 { od2 with money := od2.money + n } ep2 (by
    show (((B.each.set i _).set j _).set i _)[j]? = _
    rw [List.getElem?_set_ne hij, List.getElem?_set_self (by simpa using lj)])
  obtain ⟨d82, ho82⟩ := O82.ob
  refine r_m ho82 (no_Order_mark _ _ _) ?_
  walk_at "rd"
  refine r_ixL (SqL.of (s8 _ _ la7)) (atI_get (j := 1) rfl rfl) ?_
  walk_at "rd"
  refine ⟨p2, _, "move", _, rfl, O82, ok2.pay, mk2, fun H9 O9 b9 => ?_⟩
  have b9' : But p2.foot H8 H9 := b9.mono fun x z => OL.foot_lm z
  have h9 := h8.one ep2 O9 b9' O9.dom
  have e9 := b9.tup _ _ e1
  walk_at "rd"
  refine r_mk (by simp) fun t2 ht2 => ?_
  walk_at "rd"
  refine r_mk (by simp) fun r hr => ?_
  obtain ⟨rt, hr9⟩ := upd_none hr
  have s10 := (same_upd (o := .tup [.int (j : Int), .int (Od.owing { od2 with money := od2.money + n } - od2.owing)]) ht2).trans (same_upd (o := .lst [.ref t1, .ref t2]) hr)
  have f1 := h.footOf ep1
  have f2 := h.footOf ep2
  have bt : But L.foot H H9 := (((((But.of s14).trans (b5'.mono f1)).trans (b6'.mono f2)).trans (b7'.mono f1)).trans (But.of s8)).trans (b9'.mono f2)
  have st : Stay H H9 := ((((Stay.of s14).trans (b5'.stay O5)).trans (b6'.stay O6)).trans (b7'.stay O7)).trans ((Stay.of s8).trans (b9'.stay O9))
  refine k _ _ rfl r _ ?_ (bt.trans (But.of s10)) (st.trans (Stay.of s10)) (st _ hr9) ⟨_, upd_same, .cons ⟨t1, rfl, s10 _ _ e9⟩ (.cons ⟨t2, rfl, ?_⟩ .nil)⟩
  · have h10 := h9.same s10
    have e : ((((B.each.set i { od1 with money := od1.money + -n }).set j { od2 with money := od2.money + n }).set i { { od1 with money := od1.money + -n } with marks := od1.marks ++ [(("move" : Str), Od.owing { od1 with money := od1.money + -n } - od1.owing)] }).set j
        { { od2 with money := od2.money + n } with marks := od2.marks ++ [(("move" : Str), Od.owing { od2 with money := od2.money + n } - od2.owing)] }) =
        (B.each.set i (Od.mark (od1.pay (-n)) "move" ((od1.pay (-n)).owing - od1.owing))).set j (Od.mark (od2.pay n) "move" ((od2.pay n).owing - od2.owing)) := by
      rw [List.set_comm _ _ hij, List.set_set, List.set_comm _ _ (Ne.symm hij), List.set_set]
      rfl
    rw [← e]
    exact h10
  · rw [upd_ne (Ne.symm rt)]
    exact upd_same

/-! ### the words of deeds -/
theorem key_at {es : List DictEntry} {w : World} {ks : List Str} (h : es.map He.keyOf = He.keysIn w.params ks) : ∀ e, e ∈ es → ∃ k t, k ∈ ks ∧ e.key = .str k t := by
  intro e he
  have hm : He.keyOf e ∈ He.keysIn w.params ks := by
    rw [← h]
    exact List.mem_map_of_mem he
  unfold He.keysIn at hm
  obtain ⟨k, hk, e1⟩ := List.mem_map.mp hm
  unfold He.keyOf at e1
  split at e1
  · rename_i x t q
    have e2 := congrArg Prod.fst (Option.some.inj e1)
    have e3 : k = x := e2
    subst e3
    exact ⟨k, t, hk, q⟩
  · cases e1
theorem lookup_mem {ks : List (Str × Int)} {z : Str} {n : Int} (h : ks.lookup z = some n) : (z, n) ∈ ks := by
  induction ks with
  | nil => cases h
  | cons a r ih =>
    obtain ⟨k, m⟩ := a
    rw [List.lookup_cons] at h
    by_cases c : z = k
    · subst c
      rw [beq_self_eq_true] at h
      cases h
      exact List.mem_cons_self
    · have q : (z == k) = false := by simpa using c
      rw [q] at h
      exact List.mem_cons_of_mem _ (ih h)
theorem lookup_no {ks : List (Str × Int)} {z : Str} (h : ks.lookup z = none) : ¬ z ∈ ks.map (·.1) := by
  induction ks with
  | nil => simp
  | cons a r ih =>
    obtain ⟨k, m⟩ := a
    rw [List.lookup_cons] at h
    by_cases c : z = k
    · subst c
      rw [beq_self_eq_true] at h
      cases h
    · have q : (z == k) = false := by simpa using c
      rw [q] at h
      intro hm
      rcases List.mem_cons.mp hm with e | e
      · exact c e
      · exact ih h e
theorem Tx.pt {w : World} {K : PySem.W.Frag} {mg : Str → Option Value} (T : Tx w K mg) (z : Str) :
    (∃ n, parts.lookup z = some n ∧ ∃ u, PySem.W.nsIn K (He.ga K "PARTS") z = some (some u) ∧ RelV (.int n) u) ∨ (parts.lookup z = none ∧ PySem.W.nsIn K (He.ga K "PARTS") z = some none) := by
  cases e : parts.lookup z with
  | some n =>
    refine .inl ⟨n, rfl, ?_⟩
    have hm : (z, He.Dv.int n) ∈ parts.map fun p => (p.1, He.Dv.int p.2) := List.mem_map.mpr ⟨(z, n), lookup_mem e, rfl⟩
    exact He.valsB_ok T.kv hm
  | none =>
    refine .inr ⟨rfl, ?_⟩
    obtain ⟨es, m, lk, lit, ky, low⟩ := T.kd
    have hk := key_at ky
    have no := lookup_no e
    unfold PySem.W.nsIn
    rw [lk]
    have f : es.toList.find? (fun e => e.key.isStr z) = none := by
      rw [List.find?_eq_none]
      intro d hd
      obtain ⟨k, t, hm, q⟩ := hk d hd
      rw [q]
      show ¬ (k == z) = true
      intro y
      have y2 : k = z := by simpa using y
      rw [← y2] at no
      exact no hm
    have g : es.toList.any (fun e => e.refKey) = false := by
      rw [List.any_eq_false]
      intro d hd
      obtain ⟨k, t, hm, q⟩ := hk d hd
      simp [DictEntry.refKey, q]
    dsimp only
    rw [f]
    dsimp only
    rw [g]
    rfl
section
variable {X : Cx} {d : Addr} {ks : List Str}
theorem op_notIn_pt (D : ∃ es n, X.K.lookup d = some ⟨.type "dict", none, .dict es n, #[]⟩ ∧ PySem.W.KeysLit X.w.params es.toList ∧ es.toList.map He.keyOf = He.keysIn X.w.params ks ∧ (d == sysModules) = false) :
    OpR X (compareOp .NotIn) (fun x y H Q => ∃ (z : Str) (r : Option Value), x = .str z ∧ y = .ref d ∧ PySem.W.nsIn X.K d z = some r ∧ Q (.bl (!r.isSome)) H) := by
  obtain ⟨es, n, h1, h2, _, h4⟩ := D
  exact op_notIn_kd ⟨h1, h2, h4⟩
end
/-- not a deed -/
def Bad (xs : List V) : Prop := xs = [] ∨ ∃ w r, xs = .str w :: r ∧ parts.lookup w ≠ some (xs.length : Int)
theorem dd_parts {d : Dd} (g : d.good) {F : Addr → Prop} {H : Hp} {v : V} (h : DdAt F H v d) : ∃ t w r, v = .ref t ∧ H t = some (.tup (.str w :: r)) ∧ parts.lookup w = some (((V.str w :: r).length : Nat) : Int) := by
  cases d with
  | ord ls =>
    obtain ⟨t, l, xs, e, ht, _⟩ := h
    exact ⟨t, _, _, e, ht, by show parts.lookup ("order" : Str) = some 2; decide +kernel⟩
  | ln w o l n =>
    obtain ⟨t, e, ht⟩ := h
    refine ⟨t, _, _, e, ht, ?_⟩
    show parts.lookup w = some 4
    rcases g with rfl | rfl | rfl | rfl <;> decide +kernel
  | mo w o n =>
    obtain ⟨t, e, ht⟩ := h
    refine ⟨t, _, _, e, ht, ?_⟩
    show parts.lookup w = some 3
    rcases g with rfl | rfl <;> decide +kernel
  | mv o p n =>
    obtain ⟨t, e, ht⟩ := h
    exact ⟨t, _, _, e, ht, by show parts.lookup ("move" : Str) = some 4; decide +kernel⟩
/-! ### the trail -/
noncomputable def Lay.log (L : Lay) (P : Addr → Prop) : Lay := ⟨L.each, L.trail, L.ords, fun a => @ite _ (P a) (Classical.propDecidable _) .deed (L.own a)⟩
theorem Lay.log_in {L : Lay} {P : Addr → Prop} {a : Addr} (h : P a) : (L.log P).own a = .deed := @if_pos _ (Classical.propDecidable _) h _ _ _
theorem Lay.log_out {L : Lay} {P : Addr → Prop} {a : Addr} (h : ¬ P a) : (L.log P).own a = L.own a := @if_neg _ (Classical.propDecidable _) h _ _ _
/-- the list that a deed holds -/
theorem DdAt.list {F : Addr → Prop} {H : Hp} {v : V} {d : Dd} (h : DdAt F H v d) : ∃ P : Addr → Prop, DdAt P H v d ∧ ∀ a, P a → F a ∧ ∃ xs, H a = some (.lst xs) := by
  cases d with
  | ord ls => obtain ⟨t, l, xs, e, h1, h2, f, q⟩ := h; exact ⟨(· = l), ⟨t, l, xs, e, h1, h2, rfl, q⟩, fun a z => by have z' : a = l := z; rw [z']; exact ⟨f, xs, h2⟩⟩
  | ln w o l n => exact ⟨fun _ => False, h, fun _ z => z.elim⟩
  | mo w o n => exact ⟨fun _ => False, h, fun _ z => z.elim⟩
  | mv o p n => exact ⟨fun _ => False, h, fun _ z => z.elim⟩
theorem BookAt.log {K : PySem.W.Frag} {H H2 : Hp} {b : Addr} {B : Bk} {L : Lay} {v : V} {d : Dd} {ts : List V} (h : BookAt K H b B L) (s : Same H H2) (hd : DdAt (fun a => H a = none) H2 v d) (ht : H2 L.trail = some (.lst ts)) :
    ∃ L', BookAt K (upd H2 L.trail (.lst (ts ++ [v]))) b { B with trail := B.trail ++ [d] } L' ∧ Mod L L' H (upd H2 L.trail (.lst (ts ++ [v]))) ∧ ∀ a, H a ≠ none → L'.own a = L.own a := by
  obtain ⟨P, hP, hF⟩ := hd.list
  have own : ∀ a, H a ≠ none → (L.log P).own a = L.own a := fun a z => Lay.log_out fun p => z (hF a p).1
  have own2 : ∀ a, L.own a ≠ .no → (L.log P).own a = L.own a := fun a z => own a fun q => z (h.fresh q)
  have z1 : ∀ {r : Role} {a : Addr}, L.own a = r → r ≠ .no → (L.log P).own a = r := fun {r a} e n => by
    rw [own2 a (by rw [e]; exact n), e]
  have bt : But (· = L.trail) H (upd H2 L.trail (.lst (ts ++ [v]))) := (But.of s).trans (But.lst ht rfl)
  have bt2 : But (· = L.trail) H2 (upd H2 L.trail (.lst (ts ++ [v]))) := But.lst ht rfl
  have nt : ∀ a, L.own a ≠ .trail → ¬ a = L.trail := fun a z y => z (by rw [y]; exact h.rt)
  obtain ⟨ts0, e0, q0⟩ := h.tr
  have ets : ts0 = ts := by
    have z := s _ _ e0
    rw [ht] at z
    cases z
    rfl
  subst ets
  refine ⟨L.log P, ⟨?_, z1 h.rb (by intro q; cases q), bt.keep _ _ h.ev (nt L.each (by rw [h.re]; intro q; cases q)), z1 h.re (by intro q; cases q), ⟨_, upd_same, ?_⟩, z1 h.rt (by intro q; cases q), h.len, fun j p o e1 e2 => ?_, fun j p e1 a f => z1 (h.ro j p e1 a f) (by intro q; cases q), fun a z => ?_⟩,
    ⟨bt.mono fun a y => ?_, fun a z => ?_⟩, own⟩
  · obtain ⟨dx, e⟩ := h.ob
    exact ⟨dx, bt.keep _ _ e (nt _ (by rw [h.rb]; intro q; cases q))⟩
  · refine Paired.snoc (Paired.mapP q0 fun _ _ z => (z.keep bt fun a f => nt a (by rw [f]; intro q; cases q)).imp fun a f _ => z1 f (by intro q; cases q)) ?_
    refine (hP.keep bt2 fun a p y => ?_).imp fun a p _ => Lay.log_in p
    have y' : a = L.trail := y
    have q := (hF a p).1
    rw [y', e0] at q
    cases q
  · exact (h.od j p o e1 e2).keep bt fun a f => nt a (by rw [h.ro j p e1 a f]; intro q; cases q)
  · by_cases p : P a
    · obtain ⟨_, xs, e⟩ := hF a p
      by_cases y : a = L.trail
      · exact ⟨_, by rw [y]; exact upd_same⟩
      · exact ⟨_, bt2.keep _ _ e y⟩
    · rw [Lay.log_out p] at z
      by_cases y : a = L.trail
      · exact ⟨_, by rw [y]; exact upd_same⟩
      · obtain ⟨o, e⟩ := h.dom a z
        exact ⟨o, bt.keep _ _ e y⟩
  · have y' : a = L.trail := y
    show L.own a ≠ .no
    rw [y', h.rt]
    intro q
    cases q
  · by_cases p : P a
    · exact .inr (hF a p).1
    · rw [Lay.log_out p] at z
      exact .inl z
/-! ### do -/
theorem set_mem {α : Type} {l : List α} {i : Nat} {a x : α} (h : x ∈ l.set i a) : x ∈ l ∨ x = a := List.mem_or_eq_of_mem_set h
theorem firstErr_ok {ls : List Lt} (h : firstErr ls = none) : ∀ t, t ∈ ls → numOk t := by
  unfold firstErr at h
  rw [List.findSome?_eq_none_iff] at h
  intro t ht
  have q := h t ht
  unfold ltCheck at q
  split at q
  · split at q
    · assumption
    · cases q
  · cases q
theorem step_ok {B : Bk} {d : Dd} {es : List Od} {cs : List (Int × Int)} (ok : B.ok) (g : d.good) (e : step B.each d = .ok (es, cs)) : Bk.ok ⟨es, B.trail ++ [d]⟩ := by
  have good : ∀ x, x ∈ B.trail ++ [d] → x.good := fun x hx => by
    rcases List.mem_append.mp hx with h | h
    · exact ok.good x h
    · have z : x = d := by simpa using h
      rw [z]; exact g
  have len : (B.trail ++ [d]).length = B.trail.length + 1 := by simp
  have up : ∀ o, o ∈ B.each → o.marks.length ≤ (B.trail ++ [d]).length := fun o h => by
    have := ok.mks o h
    omega
  have mk : ∀ {o : Od} {w : Str} {c : Int}, o.marks.length ≤ B.trail.length → (o.mark w c).marks.length ≤ (B.trail ++ [d]).length := fun {o w c} h => by
    show (o.marks ++ [(w, c)]).length ≤ _
    rw [len]
    simp
    exact h
  cases d with
  | ord ls =>
    have e' : stepOrd B.each ls = .ok (es, cs) := e
    unfold stepOrd at e'
    cases q : ordErr B.each.length ls with
    | some x => rw [q] at e'; cases e'
    | none =>
      rw [q] at e'
      cases e'
      unfold ordErr at q
      split at q
      · cases q
      rename_i hl
      have hl2 : 1 ≤ ls.length ∧ ls.length ≤ 20 := Decidable.byContradiction hl
      cases f : firstErr ls with
      | some x => rw [f] at q; cases q
      | none =>
        rw [f] at q
        have q2 : (if B.each.length = 40 then some Er.fullBook else none) = none := q
        have n40 : ¬ B.each.length = 40 := fun z => by rw [if_pos z] at q2; cases q2
        have fw := ok.few
        refine ⟨fun o ho => ?_, by show (B.each ++ [_]).length ≤ 40; simp; omega, fun o ho => ?_, good⟩
        · rcases List.mem_append.mp ho with h | h
          · exact ok.od o h
          · have z : o = ⟨ls.map Lt.ln, 0, []⟩ := by simpa using h
            subst z
            refine ⟨fun l hl => ?_, by simpa using hl2.2⟩
            obtain ⟨t, ht, rfl⟩ := List.mem_map.mp hl
            have n := firstErr_ok f t ht
            exact n.2
        · rcases List.mem_append.mp ho with h | h
          · exact up o h
          · have z : o = ⟨ls.map Lt.ln, 0, []⟩ := by simpa using h
            subst z
            exact Nat.zero_le _
  | ln w o l n =>
    have e' : stepLn B.each w o l n = .ok (es, cs) := e
    unfold stepLn at e'
    rcases at_or B.each o with ⟨q, _⟩ | ⟨j, od, rfl, eo, q⟩
    · rw [q] at e'; cases e'
    · rw [q] at e'
      dsimp only at e'
      rcases at_or od.lines l with ⟨q, _⟩ | ⟨i, x, rfl, el, q⟩
      · rw [q] at e'; cases e'
      · rw [q] at e'
        dsimp only at e'
        split at e'
        · cases e'
        cases et : x.turn w n with
        | none => rw [et] at e'; cases e'
        | some x' =>
          rw [et] at e'
          cases e'
          have mo := List.mem_of_getElem? eo
          refine ⟨fun u hu => ?_, by show (B.each.set _ _).length ≤ 40; simpa using ok.few, fun u hu => ?_, good⟩
          · rcases set_mem hu with h | h
            · exact ok.od u h
            · rw [h]; exact ((ok.od od mo).line el et).mark
          · rcases set_mem hu with h | h
            · exact up u h
            · rw [h]; exact mk (ok.mks od mo)
  | mo w o n =>
    have e' : stepMo B.each w o n = .ok (es, cs) := e
    unfold stepMo at e'
    rcases at_or B.each o with ⟨q, _⟩ | ⟨j, od, rfl, eo, q⟩
    · rw [q] at e'; cases e'
    · rw [q] at e'
      dsimp only at e'
      have mo := List.mem_of_getElem? eo
      have fin : ∀ m c, Bk.ok ⟨B.each.set j (Od.mark (od.pay m) w c), B.trail ++ [.mo w j n]⟩ := fun m c => by
        refine ⟨fun u hu => ?_, by show (B.each.set _ _).length ≤ 40; simpa using ok.few, fun u hu => ?_, good⟩
        · rcases set_mem hu with h | h
          · exact ok.od u h
          · rw [h]; exact (ok.od od mo).pay.mark
        · rcases set_mem hu with h | h
          · exact up u h
          · rw [h]; exact mk (o := od.pay m) (ok.mks od mo)
      split at e'
      · cases e'
      split at e'
      · cases e'; exact fin _ _
      split at e'
      · cases e'
      · cases e'; exact fin _ _
  | mv o p n =>
    have e' : stepMv B.each o p n = .ok (es, cs) := e
    unfold stepMv at e'
    rcases at_or B.each o with ⟨q, _⟩ | ⟨i, a, rfl, ea, q⟩
    · rw [q] at e'; cases e'
    · rw [q] at e'
      dsimp only at e'
      rcases at_or B.each p with ⟨q, _⟩ | ⟨j, b, rfl, eb, q⟩
      · rw [q] at e'; cases e'
      · rw [q] at e'
        dsimp only at e'
        have ma := List.mem_of_getElem? ea
        have mb := List.mem_of_getElem? eb
        split at e'
        · cases e'
        split at e'
        · cases e'
        split at e'
        · cases e'
        cases e'
        refine ⟨fun u hu => ?_, by show ((B.each.set _ _).set _ _).length ≤ 40; simpa using ok.few, fun u hu => ?_, good⟩
        · rcases set_mem hu with h | h
          · rcases set_mem h with h | h
            · exact ok.od u h
            · rw [h]; exact (ok.od a ma).pay.mark
          · rw [h]; exact (ok.od b mb).pay.mark
        · rcases set_mem hu with h | h
          · rcases set_mem h with h | h
            · exact up u h
            · rw [h]; exact mk (o := a.pay _) (ok.mks a ma)
          · rw [h]; exact mk (o := b.pay _) (ok.mks b mb)
/-- what a deed ends in -/
def DoK (K : PySem.W.Frag) (b : Addr) (B : Bk) (L : Lay) (H : Hp) (d : Dd) (Q : VK) (E : XK) : Prop :=
  (∀ e, step B.each d = .error e → ∀ H', Same H H' → E (errV K e) none H') ∧
  ∀ es cs, step B.each d = .ok (es, cs) → ∀ r L' H', BookAt K H' b ⟨es, B.trail ++ [d]⟩ L' → Mod L L' H H' → Stay H H' → H r = none → L'.own r = .no → ChAt H' r cs → Q (.ref r) H'
def Dd.few : Dd → Prop
  | .ord ls => ls.length ≤ 100000 ∧ ∀ t, t ∈ ls → t.item.length ≤ 100000
  | _ => True
def spBookDo (K : PySem.W.Frag) : Sp := fun vs H Q E => ∃ (b : Addr) (B : Bk) (L : Lay) (v : V), vs = [.ref b, v] ∧ BookAt K H b B L ∧ B.ok ∧ B.trail.length < 100000 ∧
  ((∃ d : Dd, DdAt (fun a => L.own a = .no) H v d ∧ d.good ∧ d.few ∧ DoK K b B L H d Q E) ∨ (∃ t xs, v = .ref t ∧ H t = some (.tup xs) ∧ Bad xs ∧ E (errV K .noDeed) none H))
theorem len_BookDo {K : PySem.W.Frag} {vs : List V} {H : Hp} {Q : VK} {E : XK} (h : spBookDo K vs H Q E) : vs.length = 2 := by
  obtain ⟨_, _, _, _, rfl, _⟩ := h; rfl
theorem ok_BookDo {P : Program} {w : World} {K : PySem.W.Frag} {mg : Str → Option Value} {base : Heap} (T : Tx w K mg) : FnOk P w K mg base (L2.CX P w) 7 (He.fAd K dBookDo.at_) (fdO K dBookDo.at_) P_BookDo (spBookDo K) := by
  refine T.f_BookDo.ok sc_BookDo (fun vs H Q E h => len_BookDo h) (fun cdv A outer s H vs Q E hr h => ⟨_, ((pss_cons (ps_if (PW.pt (pw_or (pt_cmpR op_eq (pe_callB call_len_seq (by rfl) T.b_len (by decide +kernel) (pa_cons (pv 1) pa_nil)) pe_int (nomark _)) (pw_or (pt_cmpR (op_notIn_pt T.kd) (pe_ix ix_tup (pv 1) pe_int (fun _ _ => rfl)) (pe_glob rfl T.c_PARTS (v := .ref (He.ga K "PARTS")) rfl) (by rfl)) (pw_or1 (pt_cmpR op_ne (pe_callB call_len_seq (by rfl) T.b_len (by decide +kernel) (pa_cons (pv 1) pa_nil)) (pe_ix ix_kdict (pe_glob rfl T.c_PARTS (v := .ref (He.ga K "PARTS")) rfl) (pe_ix ix_tup (pv 1) pe_int (fun _ _ => rfl)) (fun _ _ => rfl)) (nomark _)))))) (pss_one (ps_raise rfl (takes_of rfl rfl rfl rfl) (pmk_own PySem.F.excBase_ValueError T.x_NoDeed.1 T.g_NoDeed T.x_NoDeed.2.1 (raises_own T.x_NoDeed.2.2.1 T.x_NoDeed.2.2.2) rfl))) pss_nil)
      (pss_cons (ps_if (pt_cmpR op_eq (pe_ix ix_tup (pv 1) pe_int (fun _ _ => rfl)) pe_str (nomark _)) (pss_one (ps_set (i := 2) sc_BookDo.nd rfl (Or.inl rfl) (pe_meth (pv 0) T.cl_Book T.m_Book_begin (ok_BookBegin T) (hr.mono (by decide)) T.b_BookBegin .nil (passes_call (takes_of rfl rfl rfl rfl) (fun _ _ _ _ h => h)) (pa_cons (pe_ix ix_tup (pv 1) pe_int (fun _ _ => rfl)) pa_nil)))) (pss_one (ps_if (pt_cmpR op_eq (pe_ix ix_tup (pv 1) pe_int (fun _ _ => rfl)) pe_str (nomark _)) (pss_one (ps_set (i := 2) sc_BookDo.nd rfl (Or.inl rfl) (pe_meth (pv 0) T.cl_Book T.m_Book_shift (ok_BookShift T) (hr.mono (by decide)) T.b_BookShift .nil (passes_call (takes_of rfl rfl rfl rfl) (fun _ _ _ _ h => h)) (pa_cons (pv 1) pa_nil)))) (pss_one (ps_set (i := 2) sc_BookDo.nd rfl (Or.inl rfl) (pe_meth (pv 0) T.cl_Book T.m_Book_one (ok_BookOne T) (hr.mono (by decide)) T.b_BookOne .nil (passes_call (takes_of rfl rfl rfl rfl) (fun _ _ _ _ h => h)) (pa_cons (pv 1) pa_nil)))))))
      (pss_cons (ps_expr (pe_bm PySem.F.plainAttrs_list PySem.F.slot_list_append PySem.F.type_list_append mt_append (pe_fld (pv 0) rfl) (pa_cons (pe_call (ok_Own T) (hr.mono (by decide)) rfl T.g_Own T.f_Own.kp T.b_Own .nil pass0 (pa_cons (pv 1) pa_nil)) pa_nil)))
      (pss_one (ps_ret (pv 2))))))), ?_⟩)
  obtain ⟨b, B, L, v, rfl, h, ok, hz, hd⟩ := h
  obtain ⟨dx, hb⟩ := h.ob
  rcases hd with ⟨d, hd, g, few, kE, k⟩ | ⟨t, xs, rfl, ht, bad, kE⟩
  rotate_left
  · walk_at "rd"
    refine ⟨_, _, rfl, .inr (SqT.of ht), ?_⟩
    walk_at "rd"
    rcases bad with rfl | ⟨w', r, rfl, np⟩
    · refine r_ity rfl ?_
      walk_at "rd"
      exact kE
    · refine r_itz (by simp; omega) ?_
      walk_at "rd"
      refine r_ixT (SqT.of ht) (atI_get (j := 0) rfl rfl) ?_
      walk_at "rd"
      rcases T.pt w' with ⟨n, e1, u, e2, ru⟩ | ⟨e1, e2⟩
      · refine ⟨w', _, rfl, rfl, e2, ?_⟩
        walk_at "rd"
        refine r_itnT ?_
        walk_at "rd"
        refine ⟨_, _, rfl, .inr (SqT.of ht), ?_⟩
        walk_at "rd"
        refine r_ixT (SqT.of ht) (atI_get (j := 0) rfl rfl) ?_
        obtain ⟨es, m, lk, lit, ky, low⟩ := T.kd
        refine ⟨_, w', .int n, rfl, rfl, ⟨es, m, u, lk, lit, e2, ru⟩, ?_⟩
        walk_at "rd"
        refine r_itn (fun c => ?_) (fun c => absurd (by rw [e1, c]) np)
        exact kE
      · refine ⟨w', _, rfl, rfl, e2, ?_⟩
        walk_at "rd"
        exact kE
  obtain ⟨t, w', r, rfl, ht, hp⟩ := dd_parts g hd
  walk_at "rd"
  refine ⟨_, _, rfl, .inr (SqT.of ht), ?_⟩
  walk_at "rd"
  refine r_itz (by simp; omega) ?_
  walk_at "rd"
  refine r_ixT (SqT.of ht) (atI_get (j := 0) rfl rfl) ?_
  walk_at "rd"
  rcases T.pt w' with ⟨n, e1, u, e2, ru⟩ | ⟨e1, e2⟩
  rotate_left
  · rw [hp] at e1; cases e1
  have en : n = (((V.str w' :: r).length : Nat) : Int) := by
    rw [hp] at e1
    exact (Option.some.inj e1).symm
  refine ⟨w', _, rfl, rfl, e2, ?_⟩
  walk_at "rd"
  refine r_itnT ?_
  walk_at "rd"
  refine ⟨_, _, rfl, .inr (SqT.of ht), ?_⟩
  walk_at "rd"
  refine r_ixT (SqT.of ht) (atI_get (j := 0) rfl rfl) ?_
  obtain ⟨es0, m0, lk, lit, ky, low⟩ := T.kd
  refine ⟨_, w', .int n, rfl, rfl, ⟨es0, m0, u, lk, lit, e2, ru⟩, ?_⟩
  walk_at "rd"
  refine r_itn (fun c => absurd en.symm c) (fun c => ?_)
  walk_at "rd"
  refine r_ixT (SqT.of ht) (atI_get (j := 0) rfl rfl) ?_
  walk_at "rd"
  have fin : ∀ (L1 : Lay) (H1 : Hp) (es : List Od) (cs : List (Int × Int)) (x : Addr), step B.each d = .ok (es, cs) → BookAt K H1 b ⟨es, B.trail⟩ L1 → Mod L L1 H H1 → Stay H H1 → H x = none → L1.own x = .no → ChAt H1 x cs → DdAt (fun _ => True) H1 (.ref t) d →
      tSeq (tDrop (tBM K "list" rAppend (tFld K (tVar 0) "trail") (tCons (tCall (spOwn K) [] E0 (tCons (tVar 1) tNil)) tNil))) (tRet (tVar 2)) { nx := fun _ H' => Q .non H', rt := Q } [some (.ref b), some (.ref t), some (.ref x)] H1 := by
    intro L1 H1 es cs x e1 h1 m1 st hx ox ch hd1
    obtain ⟨d1, hb1⟩ := h1.ob
    obtain ⟨ts, et, pt⟩ := h1.tr
    walk_at "rd"
    refine r_f hb1 T.cl_Book T.n_Book_trail (lk_Book_trail _ _) ?_
    refine r_tyL (SqL.of et) ?_
    walk_at "rd"
    refine ⟨.ref t, d, rfl, hd1, g, fun ls q => by subst q; exact few.1, fun v3 H2 s2 hd2 => ?_⟩
    walk_at "rd"
    refine r_app (s2 _ _ et) (by rw [pt.length]; exact sz5l hz) ?_
    walk_at "rd"
    obtain ⟨L', h', m', own⟩ := h1.log s2 hd2 (s2 _ _ et)
    obtain ⟨ys, ey, py⟩ := ch
    have x1 : H1 x ≠ none := by rw [ey]; intro q; cases q
    have xt : x ≠ L1.trail := fun z => by
      rw [z, h1.rt] at ox
      cases ox
    have st2 : Stay H1 (upd H2 L1.trail (.lst (ts ++ [v3]))) := fun a e => Same.free s2 (upd_none e).2
    refine k es cs e1 x L' _ h' (m1.trans m' st) (st.trans st2) hx ?_ ⟨ys, ?_, m'.but.prs py⟩
    · rw [own x x1]; exact ox
    · rw [upd_ne xt]
      exact s2 _ _ ey
  cases d with
  | ord ls =>
    obtain ⟨t2, l, xs, et, ht2, hl, nl, pt⟩ := hd
    cases et
    rw [ht] at ht2
    cases ht2
    refine r_ity rfl ?_
    walk_at "rd"
    refine r_m hb (no_Book_begin _ _) ?_
    walk_at "rd"
    refine r_ixT (SqT.of ht) (atI_get (j := 1) rfl rfl) ?_
    walk_at "rd"
    refine ⟨b, B, L, l, xs, ls, rfl, h, ok.few, hl, pt, by rw [pt.length]; exact few.1, few.2, fun e q => kE e ?_ _ (Same.refl _), fun q r L' H' h' m' st hr ro er => ?_⟩
    · show stepOrd B.each ls = _
      unfold stepOrd
      rw [q]
    · exact fin L' H' _ _ r (by show stepOrd B.each ls = _; unfold stepOrd; rw [q]) h' m' st hr ro ⟨_, er, .nil⟩ ⟨t, l, xs, rfl, m'.but.tup _ _ ht, m'.but.keep _ _ hl (fun z => z nl), trivial, m'.but.lts pt⟩
  | ln w2 o l n =>
    obtain ⟨t2, et, ht2⟩ := hd
    cases et
    rw [ht] at ht2
    cases ht2
    refine r_itz ((good_ord g).1 _ _ _ _ rfl) ?_
    walk_at "rd"
    refine r_ixT (SqT.of ht) (atI_get (j := 0) rfl rfl) ?_
    walk_at "rd"
    refine r_itz (by rcases g with rfl | rfl | rfl | rfl <;> decide +kernel) ?_
    walk_at "rd"
    refine r_m hb (no_Book_one _ _) ?_
    walk_at "rd"
    refine ⟨b, B, L, .ref t, .ln w' o l n, rfl, h, ok, hz, ⟨t, rfl, ht⟩, .inl ⟨_, _, _, _, rfl⟩, kE, fun es cs e r H' h' bt st hr ch => ?_⟩
    exact fin L H' es cs r e h' ⟨bt, fun a z => .inl z⟩ st hr (h.fresh hr) ch ⟨t, rfl, bt.tup _ _ ht⟩
  | mo w2 o n =>
    obtain ⟨t2, et, ht2⟩ := hd
    cases et
    rw [ht] at ht2
    cases ht2
    refine r_itz ((good_ord g).2 _ _ _ rfl) ?_
    walk_at "rd"
    refine r_ixT (SqT.of ht) (atI_get (j := 0) rfl rfl) ?_
    walk_at "rd"
    refine r_itz (by rcases g with rfl | rfl <;> decide +kernel) ?_
    walk_at "rd"
    refine r_m hb (no_Book_one _ _) ?_
    walk_at "rd"
    refine ⟨b, B, L, .ref t, .mo w' o n, rfl, h, ok, hz, ⟨t, rfl, ht⟩, .inr ⟨_, _, _, rfl⟩, kE, fun es cs e r H' h' bt st hr ch => ?_⟩
    exact fin L H' es cs r e h' ⟨bt, fun a z => .inl z⟩ st hr (h.fresh hr) ch ⟨t, rfl, bt.tup _ _ ht⟩
  | mv o p n =>
    obtain ⟨t2, et, ht2⟩ := hd
    cases et
    rw [ht] at ht2
    cases ht2
    refine r_itz (by decide +kernel) ?_
    walk_at "rd"
    refine r_ixT (SqT.of ht) (atI_get (j := 0) rfl rfl) ?_
    walk_at "rd"
    refine r_ity rfl ?_
    walk_at "rd"
    refine r_m hb (no_Book_shift _ _) ?_
    walk_at "rd"
    refine ⟨b, B, L, .ref t, o, p, n, rfl, h, ok, hz, ⟨t, rfl, ht⟩, kE, fun es cs e r H' h' bt st hr ch => ?_⟩
    exact fin L H' es cs r e h' ⟨bt, fun a z => .inl z⟩ st hr (h.fresh hr) ch ⟨t, rfl, bt.tup _ _ ht⟩

/-! ### a new book, what is told -/
def L0 (b e t : Addr) : Lay := ⟨e, t, [], fun a => if a = b then .book else if a = e then .each else if a = t then .trail else .no⟩
def spBookInit (K : PySem.W.Frag) : Sp := fun vs H Q _ => ∃ b dx, vs = [.ref b] ∧ H b = some (.ins (He.ga K "Book") dx []) ∧ ∀ L H', BookAt K H' b ⟨[], []⟩ L → But (· = b) H H' → (∀ a, L.own a ≠ .no → a = b ∨ H a = none) → Stay H H' → Q .non H'
theorem len_BookInit {K : PySem.W.Frag} {vs : List V} {H : Hp} {Q : VK} {E : XK} (h : spBookInit K vs H Q E) : vs.length = 1 := by
  obtain ⟨_, _, rfl, _⟩ := h; rfl
theorem ok_BookInit {P : Program} {w : World} {K : PySem.W.Frag} {mg : Str → Option Value} {base : Heap} (T : Tx w K mg) : FnOk P w K mg base CX0 1 (He.fAd K dBookInit.at_) (fdO K dBookInit.at_) P_BookInit (spBookInit K) := by
  refine T.f_BookInit.ok sc_BookInit (fun vs H Q E h => len_BookInit h) (fun cdv A outer s H vs Q E hr h => ⟨_, PSs.nox ((pss_cons (ps_fld (pv 0) (pe_lst pa_nil) rfl)
      (pss_one (ps_fld (pv 0) (pe_lst pa_nil) rfl)))), ?_⟩)
  obtain ⟨b, dx, rfl, hb, k⟩ := h
  walk_at "rd"
  refine r_mk (by simp) fun e he => ?_
  have be : b ≠ e := ne_of_none hb he
  walk_at "rd"
  refine r_sf (by rw [upd_ne be]; exact hb) T.cl_Book T.n_Book_each (by walk_at "pf") (by simp) ?_
  walk_at "rd"
  refine r_mk (by simp) fun t ht => ?_
  obtain ⟨tb, ht1⟩ := upd_none ht
  obtain ⟨te, ht2⟩ := upd_none ht1
  walk_at "rd"
  refine r_sf (by rw [upd_ne (Ne.symm tb)]; exact upd_same) T.cl_Book T.n_Book_trail (by walk_at "pf") (by simp) ?_
  have c1 : But (· = b) H (upd H e (.lst [])) := But.of (same_upd he)
  have c2 : But (· = b) H (upd (upd H e (.lst [])) b (.ins (He.ga K "Book") dx [("each", .ref e)])) := c1.trans (But.ins (C := He.ga K "Book") (dx := dx) (fs := []) (by rw [upd_ne be]; exact hb) rfl)
  have c3 := c2.trans (But.of (S := (· = b)) (same_upd (o := .lst []) ht))
  have c4 := c3.trans (But.ins (S := (· = b)) (o := .ins (He.ga K "Book") dx [("each", .ref e), ("trail", .ref t)]) (C := He.ga K "Book") (dx := dx) (fs := [("each", .ref e)]) (by rw [upd_ne (Ne.symm tb)]; exact upd_same) rfl)
  have ob : (L0 b e t).own b = .book := by simp [L0]
  have oe : (L0 b e t).own e = .each := by simp [L0, Ne.symm be]
  have ot : (L0 b e t).own t = .trail := by simp [L0, tb, te]
  have on : ∀ a, (L0 b e t).own a ≠ .no → a = b ∨ a = e ∨ a = t := fun a z => by
    by_cases h1 : a = b
    · exact .inl h1
    by_cases h2 : a = e
    · exact .inr (.inl h2)
    by_cases h3 : a = t
    · exact .inr (.inr h3)
    exact absurd (by simp [L0, h1, h2, h3]) z
  have ve : upd (upd (upd (upd H e (.lst [])) b (.ins (He.ga K "Book") dx [("each", .ref e)])) t (.lst [])) b (.ins (He.ga K "Book") dx [("each", .ref e), ("trail", .ref t)]) e = some (.lst []) := by
    rw [upd_ne (Ne.symm be), upd_ne (Ne.symm te), upd_ne (Ne.symm be)]; exact upd_same
  have vt : upd (upd (upd (upd H e (.lst [])) b (.ins (He.ga K "Book") dx [("each", .ref e)])) t (.lst [])) b (.ins (He.ga K "Book") dx [("each", .ref e), ("trail", .ref t)]) t = some (.lst []) := by
    rw [upd_ne tb]; exact upd_same
  refine k (L0 b e t) _ ⟨⟨dx, upd_same⟩, ob, ve, oe, ⟨[], vt, .nil⟩, ot, rfl, fun j p o e1 => by simp [L0] at e1, fun j p e1 => by simp [L0] at e1, fun a z => ?_⟩ c4 (fun a z => ?_) (fun a z => ?_)
  · rcases on a z with h | h | h
    · exact ⟨_, by rw [h]; exact upd_same⟩
    · exact ⟨_, by rw [h]; exact ve⟩
    · exact ⟨_, by rw [h]; exact vt⟩
  · rcases on a z with h | h | h
    · exact .inl h
    · exact .inr (by rw [h]; exact he)
    · exact .inr (by rw [h]; exact ht2)
  · obtain ⟨_, z1⟩ := upd_none z
    obtain ⟨_, z2⟩ := upd_none z1
    obtain ⟨_, z3⟩ := upd_none z2
    exact (upd_none z3).2
theorem ok0 : Bk.ok ⟨[], []⟩ := ⟨by simp, by simp, by simp, by simp⟩
/-- a new book holds nothing of what stood -/
theorem made_own {L : Lay} {H : Hp} {b dx : Addr} {u v : HO} (own : ∀ a, L.own a ≠ .no → a = b ∨ upd (upd H dx u) b v a = none) (nb : H b = none) : ∀ a, L.own a ≠ .no → H a = none := fun a z => by
  rcases own a z with e | e
  · rw [e]; exact nb
  · exact (upd_none (upd_none e).2).2
theorem made_no {L : Lay} {H : Hp} (own : ∀ a, L.own a ≠ .no → H a = none) {a : Addr} {u : HO} (e : H a = some u) : L.own a = .no := by
  by_cases z : L.own a = .no
  · exact z
  · rw [own a z] at e; cases e
theorem made_same {H : Hp} {b dx : Addr} {u v : HO} (nb : H b = none) (nd : H dx = none) : Same H (upd (upd H dx u) b v) := fun x w e => by
  rw [upd_ne (ne_of_none e nb), upd_ne (ne_of_none e nd)]
  exact e
theorem But.made {H H1 H2 : Hp} {b : Addr} (s : Same H H1) (bt : But (· = b) H1 H2) (nb : H b = none) : Same H H2 := fun x w e => bt.keep _ _ (s _ _ e) (ne_of_none e nb)
/-- what the law holds stays as it is -/
theorem Mod.no {L L' : Lay} {H H' : Hp} (m : Mod L L' H H') {a : Addr} {u : HO} (e : H a = some u) (n : L.own a = .no) : H' a = some u ∧ L'.own a = .no := by
  refine ⟨m.but.keep _ _ e fun z => z n, ?_⟩
  by_cases z : L'.own a = .no
  · exact z
  · rcases m.grow a z with q | q
    · exact absurd n q
    · rw [e] at q; cases q
def spBookOrders (K : PySem.W.Frag) : Sp := fun vs H Q _ => ∃ (b : Addr) (B : Bk) (L : Lay), vs = [.ref b] ∧ BookAt K H b B L ∧ Q (.int B.each.length) H
theorem len_BookOrders {K : PySem.W.Frag} {vs : List V} {H : Hp} {Q : VK} {E : XK} (h : spBookOrders K vs H Q E) : vs.length = 1 := by
  obtain ⟨_, _, _, rfl, _⟩ := h; rfl
def TdAt (H : Hp) (v : V) (l : Ln) : Prop := ∃ t, v = .ref t ∧ H t = some (.tup (lnTold l))
/-- what is told of an order -/
def AskK (K : PySem.W.Frag) (B : Bk) (n : Int) (H : Hp) (E : XK) (P : Od → Prop) : Prop := (¬ (0 ≤ n ∧ n < B.each.length) → E (errV K .noOrder) none H) ∧ ∀ (j : Nat) o, n = (j : Int) → B.each[j]? = some o → P o
def spAsk (K : PySem.W.Frag) (P : Od → Hp → VK → Prop) : Sp := fun vs H Q E => ∃ (b : Addr) (B : Bk) (L : Lay) (n : Int), vs = [.ref b, .int n] ∧ BookAt K H b B L ∧ B.ok ∧ AskK K B n H E fun o => P o H Q
theorem len_ask {K : PySem.W.Frag} {P : Od → Hp → VK → Prop} {vs : List V} {H : Hp} {Q : VK} {E : XK} (h : spAsk K P vs H Q E) : vs.length = 2 := by
  obtain ⟨_, _, _, _, rfl, _⟩ := h; rfl
abbrev spBookTold (K : PySem.W.Frag) := spAsk K fun o H Q => ∀ r H' xs, Same H H' → H r = none → H' r = some (.lst xs) → Paired (TdAt H') xs o.lines → Q (.ref r) H'
abbrev spBookPaid (K : PySem.W.Frag) := spAsk K fun o H Q => Q (.int o.money) H
abbrev spBookOwed (K : PySem.W.Frag) := spAsk K fun o H Q => ∀ H', Same H H' → Q (.int o.owing) H'
abbrev spBookRows (K : PySem.W.Frag) := spAsk K fun o H Q => ∀ r H' xs, Same H H' → H r = none → H' r = some (.lst xs) → Paired (MkAt H') xs o.marks → Q (.ref r) H'
abbrev len_BookTold {K : PySem.W.Frag} {vs : List V} {H : Hp} {Q : VK} {E : XK} (h : spBookTold K vs H Q E) := len_ask h
abbrev len_BookPaid {K : PySem.W.Frag} {vs : List V} {H : Hp} {Q : VK} {E : XK} (h : spBookPaid K vs H Q E) := len_ask h
abbrev len_BookOwed {K : PySem.W.Frag} {vs : List V} {H : Hp} {Q : VK} {E : XK} (h : spBookOwed K vs H Q E) := len_ask h
abbrev len_BookRows {K : PySem.W.Frag} {vs : List V} {H : Hp} {Q : VK} {E : XK} (h : spBookRows K vs H Q E) := len_ask h
theorem ok_BookOrders {P : Program} {w : World} {K : PySem.W.Frag} {mg : Str → Option Value} {base : Heap} (T : Tx w K mg) : FnOk P w K mg base CX0 1 (He.fAd K dBookOrders.at_) (fdO K dBookOrders.at_) P_BookOrders (spBookOrders K) := by
  refine T.f_BookOrders.ok sc_BookOrders (fun vs H Q E h => len_BookOrders h) (fun cdv A outer s H vs Q E hr h => ⟨_, PSs.nox ((pss_one (ps_ret (pe_callB call_len_seq (by rfl) T.b_len (by decide +kernel) (pa_cons (pe_fld (pv 0) rfl) pa_nil))))), ?_⟩)
  obtain ⟨b, B, L, rfl, h, k⟩ := h
  obtain ⟨dx, hb⟩ := h.ob
  walk_at "rd"
  refine r_f hb T.cl_Book T.n_Book_each (lk_Book_each _ _) ?_
  walk_at "rd"
  refine ⟨_, _, rfl, .inl (SqL.of h.ev), ?_⟩
  rw [List.length_map, h.len]
  exact k
theorem ok_BookTold {P : Program} {w : World} {K : PySem.W.Frag} {mg : Str → Option Value} {base : Heap} (T : Tx w K mg) : FnOk P w K mg base (L2.CX P w) 2 (He.fAd K dBookTold.at_) (fdO K dBookTold.at_) P_BookTold (spBookTold K) := by
  refine T.f_BookTold.ok sc_BookTold (fun vs H Q E h => len_BookTold h) (fun cdv A outer s H vs Q E hr h => ⟨_, ((pss_one (ps_ret (pe_lc (own := [("line", 2)]) (g := gName 2) (tt := tYes) rfl sc_BookTold.nd (pi_list (pe_fld (pe_meth (pv 0) T.cl_Book T.m_Book_order_of (ok_BookOrderOf T) (hr.mono (by decide)) T.b_BookOrderOf .nil (passes_call (takes_of rfl rfl rfl rfl) (fun _ _ _ _ h => h)) (pa_cons (pv 1) pa_nil)) rfl)) (blkOk_by (N := N_BookTold) (sc := defScope sBookTold) (by decide +kernel)) (fun _ _ _ _ _ => pg_name (i := 2) sc_BookTold.nd rfl (Or.inl rfl)) (fun _ _ _ _ _ => pts_nil) (fun _ _ _ _ _ => (pe_meth0 (pv 2) T.cl_Line T.m_Line_numbers (ok_LineNumbers T) (hr.mono (by decide)) T.b_LineNumbers .nil pass0)))))), ?_⟩)
  obtain ⟨b, B, L, n, rfl, h, ok, k1, k2⟩ := h
  obtain ⟨dx, hb⟩ := h.ob
  walk_at "rd"
  refine r_m hb (no_Book_order_of _ _) ?_
  walk_at "rd"
  refine ⟨b, B, L, n, rfl, h, k1, fun j p o ej ep eo => ?_⟩
  have O := h.od j p o ep eo
  have oko := ok.od o (List.mem_of_getElem? eo)
  obtain ⟨dy, ho⟩ := O.ob
  refine r_f ho T.cl_Order T.n_Order_lines (lk_Order_lines _ _ _) ?_
  refine lcp_rel (R := TdAt) (zs := o.lines) (SqL.of O.ll) (by simp [O.len]) (by have := oko.few; simp [O.len]; omega) (fun H H' v z ⟨t, e, q⟩ st => ⟨t, e, st _ _ q⟩) ?_ ?_
  · intro i x l H' W ex el s q
    obtain ⟨a, ea, rfl⟩ := ref_at ex
    obtain ⟨dl, hl⟩ := O.ln i a l ea el
    walk_at "rd"
    refine r_m (s _ _ hl) (no_Line_numbers l) ?_
    walk_at "rd"
    exact ⟨a, l, rfl, ⟨dl, s _ _ hl⟩, fun t ht => q _ _ (same_upd ht) ⟨t, rfl, upd_same⟩⟩
  · intro D H' acc hD s e pr
    exact k2 j o ej eo D H' acc s hD e pr
theorem ok_BookPaid {P : Program} {w : World} {K : PySem.W.Frag} {mg : Str → Option Value} {base : Heap} (T : Tx w K mg) : FnOk P w K mg base (L2.CX P w) 2 (He.fAd K dBookPaid.at_) (fdO K dBookPaid.at_) P_BookPaid (spBookPaid K) := by
  refine T.f_BookPaid.ok sc_BookPaid (fun vs H Q E h => len_BookPaid h) (fun cdv A outer s H vs Q E hr h => ⟨_, ((pss_one (ps_ret (pe_fld (pe_meth (pv 0) T.cl_Book T.m_Book_order_of (ok_BookOrderOf T) (hr.mono (by decide)) T.b_BookOrderOf .nil (passes_call (takes_of rfl rfl rfl rfl) (fun _ _ _ _ h => h)) (pa_cons (pv 1) pa_nil)) rfl)))), ?_⟩)
  obtain ⟨b, B, L, n, rfl, h, ok, k1, k2⟩ := h
  obtain ⟨dx, hb⟩ := h.ob
  walk_at "rd"
  refine r_m hb (no_Book_order_of _ _) ?_
  walk_at "rd"
  refine ⟨b, B, L, n, rfl, h, k1, fun j p o ej ep eo => ?_⟩
  obtain ⟨dy, ho⟩ := (h.od j p o ep eo).ob
  exact r_f ho T.cl_Order T.n_Order_money (lk_Order_money _ _ _) (k2 j o ej eo)
theorem ok_BookOwed {P : Program} {w : World} {K : PySem.W.Frag} {mg : Str → Option Value} {base : Heap} (T : Tx w K mg) : FnOk P w K mg base (L2.CX P w) 5 (He.fAd K dBookOwed.at_) (fdO K dBookOwed.at_) P_BookOwed (spBookOwed K) := by
  refine T.f_BookOwed.ok sc_BookOwed (fun vs H Q E h => len_BookOwed h) (fun cdv A outer s H vs Q E hr h => ⟨_, ((pss_one (ps_ret (pe_meth0 (pe_meth (pv 0) T.cl_Book T.m_Book_order_of (ok_BookOrderOf T) (hr.mono (by decide)) T.b_BookOrderOf .nil (passes_call (takes_of rfl rfl rfl rfl) (fun _ _ _ _ h => h)) (pa_cons (pv 1) pa_nil)) T.cl_Order T.m_Order_owing (ok_OrderOwing T) (hr.mono (by decide)) T.b_OrderOwing .nil pass0)))), ?_⟩)
  obtain ⟨b, B, L, n, rfl, h, ok, k1, k2⟩ := h
  obtain ⟨dx, hb⟩ := h.ob
  walk_at "rd"
  refine r_m hb (no_Book_order_of _ _) ?_
  walk_at "rd"
  refine ⟨b, B, L, n, rfl, h, k1, fun j p o ej ep eo => ?_⟩
  have O := h.od j p o ep eo
  obtain ⟨dy, ho⟩ := O.ob
  refine r_m ho (no_Order_owing _ _ _) ?_
  walk_at "rd"
  exact ⟨p, o, rfl, O, ok.od o (List.mem_of_getElem? eo), k2 j o ej eo⟩
/-- what stood at H stands, and the book holds nothing of it -/
structure New (L : Lay) (H H' : Hp) : Prop where
  same : Same H H'
  own : ∀ a, L.own a ≠ .no → H a = none
theorem New.ext {L : Lay} {H H1 H2 : Hp} (n : New L H H1) (s : Same H1 H2) : New L H H2 := ⟨n.same.trans s, n.own⟩
theorem New.no {L : Lay} {H H1 : Hp} (n : New L H H1) {a : Addr} {u : HO} (e : H a = some u) : L.own a = .no := made_no n.own e
theorem New.mod {L L' : Lay} {H H1 H2 : Hp} (n : New L H H1) (m : Mod L L' H1 H2) : New L' H H2 where
  same := fun a o e => (m.no (n.same _ _ e) (n.no e)).1
  own := fun a z => by
    rcases m.grow a z with q | q
    · exact n.own a q
    · exact Same.free n.same q

/-! ### deeds done anew -/
def replay : List Od → List Dd → Option (List Od)
  | os, [] => some os
  | os, d :: ds => match step os d with
    | .ok (es, _) => replay es ds
    | .error _ => none
theorem replay_app {os : List Od} {ds es : List Dd} : replay os (ds ++ es) = (replay os ds).bind fun o => replay o es := by
  induction ds generalizing os with
  | nil => rfl
  | cons d ds ih =>
    show (match step os d with | .ok (es', _) => replay es' (ds ++ es) | .error _ => none) = (match step os d with | .ok (es', _) => replay es' ds | .error _ => none).bind _
    cases step os d with
    | error e => rfl
    | ok r => exact ih
theorem replay_one {os : List Od} {d : Dd} {es : List Od} {cs : List (Int × Int)} (e : step os d = .ok (es, cs)) : replay os [d] = some es := by
  show (match step os d with | .ok (es', _) => replay es' [] | .error _ => none) = _
  rw [e]; rfl
theorem replay_snoc {os o1 es : List Od} {ds : List Dd} {d : Dd} {cs : List (Int × Int)} (h : replay os ds = some o1) (e : step o1 d = .ok (es, cs)) : replay os (ds ++ [d]) = some es := by
  rw [replay_app, h]
  exact replay_one e
theorem replay_cut {os es : List Od} {ds : List Dd} {d : Dd} (h : replay os (ds ++ [d]) = some es) : ∃ o1 cs, replay os ds = some o1 ∧ step o1 d = .ok (es, cs) := by
  rw [replay_app] at h
  cases e : replay os ds with
  | none => rw [e] at h; cases h
  | some o1 =>
    rw [e] at h
    have h' : (match step o1 d with | .ok (es', _) => replay es' [] | .error _ => none) = some es := h
    cases q : step o1 d with
    | error x => rw [q] at h'; cases h'
    | ok r =>
      obtain ⟨e1, cs⟩ := r
      rw [q] at h'
      cases h'
      exact ⟨o1, cs, rfl, q⟩
theorem replay_at {os es : List Od} {ds : List Dd} (h : replay os ds = some es) {i : Nat} {d : Dd} (hd : ds[i]? = some d) : ∃ o1 o2 cs, replay os (ds.take i) = some o1 ∧ step o1 d = .ok (o2, cs) ∧ replay os (ds.take (i + 1)) = some o2 := by
  have e1 : ds = ds.take i ++ [d] ++ ds.drop (i + 1) := by
    have hi := (List.getElem?_eq_some_iff.mp hd).1
    have q : ds[i] = d := by
      rw [List.getElem?_eq_getElem hi] at hd
      exact Option.some.inj hd
    rw [← q, List.append_assoc]
    show _ = _ ++ (ds[i] :: ds.drop (i + 1))
    rw [← List.drop_eq_getElem_cons hi, List.take_append_drop]
  have e2 : ds.take (i + 1) = ds.take i ++ [d] := by
    rw [List.take_succ, hd]; rfl
  rw [e1, replay_app] at h
  cases q : replay os (ds.take i ++ [d]) with
  | none => rw [q] at h; cases h
  | some o2 =>
    obtain ⟨o1, cs, h1, h2⟩ := replay_cut q
    exact ⟨o1, o2, cs, h1, h2, by rw [e2]; exact q⟩
theorem replay_ok {es : List Od} {ds : List Dd} (h : replay [] ds = some es) (g : ∀ d, d ∈ ds → d.good) : Bk.ok ⟨es, ds⟩ := by
  have all : ∀ (n : Nat) (ds : List Dd) (es : List Od), ds.length = n → replay [] ds = some es → (∀ d, d ∈ ds → d.good) → Bk.ok ⟨es, ds⟩ := by
    intro n
    induction n with
    | zero =>
      intro ds es hl h g
      have : ds = [] := List.length_eq_zero_iff.mp hl
      subst this
      cases h
      exact ok0
    | succ n ih =>
      intro ds es hl h g
      obtain ⟨ds', d, rfl⟩ : ∃ ds' d, ds = ds' ++ [d] := by
        rcases List.eq_nil_or_concat ds with z | ⟨L, b, z⟩
        · rw [z] at hl; simp at hl
        · exact ⟨L, b, by rw [z, List.concat_eq_append]⟩
      obtain ⟨o1, cs, h1, h2⟩ := replay_cut h
      have k := ih ds' o1 (by simpa using hl) h1 fun x hx => g x (List.mem_append_left _ hx)
      exact step_ok k (g d (by simp)) h2
  exact all _ ds es rfl h g
theorem step_few {os es : List Od} {d : Dd} {cs : List (Int × Int)} (e : step os d = .ok (es, cs)) : d.few := by
  cases d with
  | ord ls =>
    have e' : stepOrd os ls = .ok (es, cs) := e
    unfold stepOrd at e'
    cases q : ordErr os.length ls with
    | some x => rw [q] at e'; cases e'
    | none =>
      unfold ordErr at q
      split at q
      · cases q
      rename_i hl
      have hl2 : 1 ≤ ls.length ∧ ls.length ≤ 20 := Decidable.byContradiction hl
      cases f : firstErr ls with
      | some x => rw [f] at q; cases q
      | none =>
        refine ⟨by omega, fun t ht => ?_⟩
        unfold firstErr at f
        rw [List.findSome?_eq_none_iff] at f
        have q := f t ht
        unfold ltCheck at q
        split at q
        · rename_i c
          unfold isItem at c
          have c2 := (Bool.and_eq_true_iff.mp c).2
          have := (of_decide_eq_true c2).2
          omega
        · cases q
  | _ => trivial
def Hist (B : Bk) : Prop := replay [] B.trail = some B.each

/-! ### the law's helpers -/
def Script (K : PySem.W.Frag) (H : Hp) (a : Addr) : Prop := ∃ ns : List Int, SqL K H a (ns.map V.int) ∧ ns.length ≤ 63
theorem SqL.keep {K : PySem.W.Frag} {H H' : Hp} {a : Addr} {xs : List V} (h : SqL K H a xs) (k : ∀ o, H a = some o → H' a = some o) : SqL K H' a xs := by
  rcases h with (h | ⟨o, h⟩) | h
  · exact .inl (.inl (k _ h))
  · exact .inl (.inr ⟨o, k _ h⟩)
  · exact .inr h
theorem Script.keep {K : PySem.W.Frag} {H H' : Hp} {a : Addr} (S : Script K H a) (k : ∀ o, H a = some o → H' a = some o) : Script K H' a := by
  obtain ⟨ns, h, l⟩ := S
  exact ⟨ns, SqL.keep h k, l⟩
theorem Script.same {K : PySem.W.Frag} {H H' : Hp} {a : Addr} (S : Script K H a) (s : Same H H') : Script K H' a := S.keep fun o e => s _ _ e
theorem Script.mod {K : PySem.W.Frag} {H H' : Hp} {a : Addr} {L L' : Lay} (S : Script K H a) (m : Mod L L' H H') (n : ∀ o, H a = some o → L.own a = .no) : Script K H' a := S.keep fun o e => (m.no e (n o e)).1
theorem int_at {ns : List Int} {i : Nat} (h : i < ns.length) : (ns.map V.int)[i]? = some (V.int ns[i]) := by
  rw [List.getElem?_map, List.getElem?_eq_getElem h]; rfl
def spLCellAt (K : PySem.W.Frag) : Sp := fun vs H Q _ => ∃ (a : Addr) (k : Int), vs = [.ref a, .int k] ∧ Script K H a ∧ 0 ≤ k ∧ ∀ n : Int, Q (.int n) H
theorem len_LCellAt {K : PySem.W.Frag} {vs : List V} {H : Hp} {Q : VK} {E : XK} (h : spLCellAt K vs H Q E) : vs.length = 2 := by
  obtain ⟨_, _, rfl, _⟩ := h; rfl
theorem ok_LCellAt {P : Program} {w : World} {K : PySem.W.Frag} {mg : Str → Option Value} {base : Heap} (T : Tx w K mg) : FnOk P w K mg base CX0 1 (He.fAd K dLCellAt.at_) (fdO K dLCellAt.at_) P_LCellAt (spLCellAt K) := by
  refine T.f_LCellAt.ok sc_LCellAt (fun vs H Q E h => len_LCellAt h) (fun cdv A outer s H vs Q E hr h => ⟨_, PSs.nox ((pss_cons (ps_if (pt_cmpR op_lt (pv 1) (pe_callB call_len_seq (by rfl) T.b_len (by decide +kernel) (pa_cons (pv 0) pa_nil)) (nomark _)) (pss_one (ps_ret (pe_ix ix_list (pv 0) (pv 1) (fun _ _ => rfl)))) pss_nil)
      (pss_one (ps_ret pe_int)))), ?_⟩)
  obtain ⟨a, i, rfl, ⟨ns, hs, _⟩, hi, k⟩ := h
  walk_at "rd"
  refine ⟨a, _, rfl, .inl hs, ?_⟩
  rw [List.length_map]
  walk_at "rd"
  refine r_itd (fun c => ?_) (fun c => ?_)
  · walk_at "rd"
    exact r_ixL hs (atI_get (j := i.toNat) (by omega) (int_at (by omega))) (k _)
  · walk_at "rd"
    exact k 0
def spLWhole (_ : PySem.W.Frag) : Sp := fun vs H Q _ => ∃ i : Int, vs = [.int i] ∧ Q (.bl true) H
theorem len_LWhole {K : PySem.W.Frag} {vs : List V} {H : Hp} {Q : VK} {E : XK} (h : spLWhole K vs H Q E) : vs.length = 1 := by
  obtain ⟨_, rfl, _⟩ := h; rfl
theorem ok_LWhole {P : Program} {w : World} {K : PySem.W.Frag} {mg : Str → Option Value} {base : Heap} (T : Tx w K mg) : FnOk P w K mg base CX0 1 (He.fAd K dLWhole.at_) (fdO K dLWhole.at_) P_LWhole (spLWhole K) := by
  refine T.f_LWhole.ok sc_LWhole (fun vs H Q E h => len_LWhole h) (fun cdv A outer s H vs Q E hr h => ⟨_, PSs.nox ((pss_one (ps_ret (pe_and (pe_callB call_isi (by rfl) T.b_isinstance (by decide +kernel) (pa_cons (pv 0) (pa_cons (pe_bltn (v := .ty "int") (by rfl) T.b_int (by decide +kernel) rfl) pa_nil))) (pe_one (pe_not (pe_callB call_isi (by rfl) T.b_isinstance (by decide +kernel) (pa_cons (pv 0) (pa_cons (pe_bltn (v := .ty "bool") (by rfl) T.b_bool (by decide +kernel) rfl) pa_nil))))))))), ?_⟩)
  obtain ⟨i, rfl, k⟩ := h
  walk_at "rd"
  exact k
theorem emb {i j : Int} (h : 0 < j) : 0 ≤ i % j ∧ i % j < j := ⟨Int.emod_nonneg _ (by omega), Int.emod_lt_of_pos _ h⟩

/-! ### what is tried -/
/-- a deed that is done, or refused by one of these -/
def TriedK (K : PySem.W.Frag) (ers : List Er) (b : Addr) (B : Bk) (L : Lay) (H : Hp) (d : Dd) (Q : VK) : Prop :=
  (∀ e, step B.each d = .error e → e ∈ ers ∧ ∀ H', Same H H' → Q (.str e.name) H') ∧
  ∀ es cs, step B.each d = .ok (es, cs) → ∀ r L' H', BookAt K H' b ⟨es, B.trail ++ [d]⟩ L' → Mod L L' H H' → Stay H H' → H r = none → L'.own r = .no → ChAt H' r cs → Q (.ref r) H'
def spTried (K : PySem.W.Frag) (ers : List Er) : Sp := fun vs H Q _ => ∃ (b : Addr) (B : Bk) (L : Lay) (v : V), vs = [.ref b, v] ∧ BookAt K H b B L ∧ B.ok ∧ B.trail.length < 100000 ∧
  ∃ d : Dd, DdAt (fun a => L.own a = .no) H v d ∧ d.good ∧ d.few ∧ TriedK K ers b B L H d Q
theorem len_tried {K : PySem.W.Frag} {ers : List Er} {vs : List V} {H : Hp} {Q : VK} {E : XK} (h : spTried K ers vs H Q E) : vs.length = 2 := by
  obtain ⟨_, _, _, _, rfl, _⟩ := h; rfl
theorem tried_by {K : PySem.W.Frag} {ers : List Er} {b : Addr} {B : Bk} {L : Lay} {H : Hp} {d : Dd} {Q : VK} (O : V → Hp → Prop) (main : ∀ v H', O v H' → Q v H') (h : TriedK K ers b B L H d O) : TriedK K ers b B L H d Q :=
  ⟨fun e q => ⟨(h.1 e q).1, fun H' s => main _ _ ((h.1 e q).2 H' s)⟩, fun es cs q r L' H' a b c d e f => main _ _ (h.2 es cs q r L' H' a b c d e f)⟩

/-! ### pairs of ints, as rows -/
def prRow (c : Int × Int) : List V := [.int c.1, .int c.2]
theorem pr_rows {H : Hp} : ∀ {xs : List V} {cs : List (Int × Int)}, Paired (PrAt H) xs cs → Paired (TupAt H) xs (cs.map prRow)
  | _, _, .nil => .nil
  | _, _, .cons ⟨t, e, h⟩ r => .cons ⟨t, e, h⟩ (pr_rows r)
theorem prRow_ok {cs : List (Int × Int)} : Rws (cs.map prRow) := fun r hr => by
  obtain ⟨c, _, rfl⟩ := List.mem_map.mp hr
  exact .cons .int (.cons .int .nil)
theorem prRow_inj : ∀ {cs ds : List (Int × Int)}, cs.map prRow = ds.map prRow → cs = ds
  | [], [], _ => rfl
  | [], _ :: _, h => by cases h
  | _ :: _, [], h => by cases h
  | (a, b) :: cs, (c, d) :: ds, h => by
    rw [List.map_cons, List.map_cons] at h
    injection h with h1 h2
    have h3 : [V.int a, V.int b] = [V.int c, V.int d] := h1
    injection h3 with e1 e2
    injection e2 with e2 _
    injection e1 with e1
    injection e2 with e2
    subst e1 e2
    rw [prRow_inj h2]
/-- the i-th of a pair of lists -/
theorem Paired.get_ex {α β : Type} {F : α → β → Prop} : ∀ {l₁ : List α} {l₂ : List β} {i : Nat} {a : α}, Paired F l₁ l₂ → l₁[i]? = some a → ∃ b, l₂[i]? = some b ∧ F a b
  | _, _, _, _, .nil, h => by simp at h
  | _, _, 0, _, .cons r _, h => by
    cases h
    exact ⟨_, rfl, r⟩
  | _, _, i + 1, _, .cons _ t, h => Paired.get_ex (i := i) t h

/-! ### made data: ints, items, lines -/
def PB (s n : Int) : Prop := 0 ≤ s → -3 ≤ n ∧ n ≤ s + 3
def NB (m n : Int) : Prop := ∀ M : Int, 10000000000000 ≤ M → -M ≤ m → m ≤ M → -(M + 1) ≤ n ∧ n ≤ M + 1
theorem mod_max (x s : Int) : 0 ≤ (x % if s > 1 then s else 1) ∧ ((x % if s > 1 then s else 1) < s ∨ (x % if s > 1 then s else 1) < 1) := by
  split
  · exact ⟨Int.emod_nonneg _ (by omega), .inl (Int.emod_lt_of_pos _ (by omega))⟩
  · exact ⟨Int.emod_nonneg _ (by omega), .inr (Int.emod_lt_of_pos _ (by omega))⟩
def spLPlaceBy (_ : PySem.W.Frag) : Sp := fun vs H Q _ => ∃ c p s : Int, vs = [.int c, .int p, .int s] ∧ 0 < p ∧ ∀ n : Int, PB s n → Q (.int n) H
theorem len_LPlaceBy {K : PySem.W.Frag} {vs : List V} {H : Hp} {Q : VK} {E : XK} (h : spLPlaceBy K vs H Q E) : vs.length = 3 := by
  obtain ⟨_, _, _, rfl, _⟩ := h; rfl
theorem ok_LPlaceBy {P : Program} {w : World} {K : PySem.W.Frag} {mg : Str → Option Value} {base : Heap} (T : Tx w K mg) : FnOk P w K mg base CX0 1 (He.fAd K dLPlaceBy.at_) (fdO K dLPlaceBy.at_) P_LPlaceBy (spLPlaceBy K) := by
  refine T.f_LPlaceBy.ok sc_LPlaceBy (fun vs H Q E h => len_LPlaceBy h) (fun cdv A outer s H vs Q E hr h => ⟨_, PSs.nox ((pss_cons (ps_set (i := 3) sc_LPlaceBy.nd rfl (Or.inl rfl) (pe_op op_mod (pe_op op_mod (pe_op op_mul (pv 0) pe_int) (pv 1)) pe_int))
      (pss_cons (ps_if (pt_cmpR op_eq (pv 3) pe_int (nomark _)) (pss_one (ps_ret (pe_op op_sub (pe_un un_neg pe_int) (pe_op op_mod (pv 0) pe_int)))) pss_nil)
      (pss_cons (ps_if (pt_cmpR op_eq (pv 3) pe_int (nomark _)) (pss_one (ps_ret (pe_op op_add (pv 2) (pe_op op_mod (pv 0) pe_int)))) pss_nil)
      (pss_one (ps_ret (pe_op op_mod (pe_op op_mod (pe_op op_mul (pv 0) pe_int) (pe_op op_add (pv 1) pe_int)) (pe_callB (call_max2 rfl) (by rfl) T.b_max (by decide +kernel) (pa_cons pe_int (pa_cons (pv 2) pa_nil)))))))))), ?_⟩)
  obtain ⟨c, p, s, rfl, hp, k⟩ := h
  repeat' (first | walk_at "rd1" | walk_at "ml" | walk_at "md" | refine r_itd (fun _ => ?_) (fun _ => ?_) | refine k _ (fun s0 => ?_) | (refine ⟨_, _, rfl, ?_⟩))
  all_goals first | omega | (have := mod_max (c * 48271 % (p + 2)) s; omega)
def spLNumberBy (_ : PySem.W.Frag) : Sp := fun vs H Q _ => ∃ c m : Int, vs = [.int c, .int m] ∧ ∀ n : Int, NB m n → Q (.int n) H
theorem len_LNumberBy {K : PySem.W.Frag} {vs : List V} {H : Hp} {Q : VK} {E : XK} (h : spLNumberBy K vs H Q E) : vs.length = 2 := by
  obtain ⟨_, _, rfl, _⟩ := h; rfl
theorem p13 : (0 : Int) < 10 ^ (13 : Int).toNat := by decide
theorem ok_LNumberBy {P : Program} {w : World} {K : PySem.W.Frag} {mg : Str → Option Value} {base : Heap} (T : Tx w K mg) : FnOk P w K mg base CX0 1 (He.fAd K dLNumberBy.at_) (fdO K dLNumberBy.at_) P_LNumberBy (spLNumberBy K) := by
  refine T.f_LNumberBy.ok sc_LNumberBy (fun vs H Q E h => len_LNumberBy h) (fun cdv A outer s H vs Q E hr h => ⟨_, PSs.nox ((pss_cons (ps_set (i := 2) sc_LNumberBy.nd rfl (Or.inl rfl) (pe_op op_mod (pe_op op_mod (pe_op op_mul (pv 0) pe_int) pe_int) pe_int))
      (pss_cons (ps_if (pt_cmpR op_eq (pv 2) pe_int (nomark _)) (pss_one (ps_ret (pe_un un_neg (pe_op op_mod (pv 0) pe_int)))) pss_nil)
      (pss_cons (ps_if (pt_cmpR op_eq (pv 2) pe_int (nomark _)) (pss_one (ps_ret (pe_op op_add (pv 1) pe_int))) pss_nil)
      (pss_cons (ps_if (PW.pt (pw_or (pt_cmpR op_eq (pv 2) pe_int (nomark _)) (pw_or1 (pt_cmpR op_eq (pv 2) pe_int (nomark _))))) (pss_one (ps_ret (pv 1))) pss_nil)
      (pss_cons (ps_if (pt_cmpR op_eq (pv 2) pe_int (nomark _)) (pss_one (ps_ret (pe_op op_add pe_int (pe_op op_mod (pv 0) (pe_op op_pow pe_int pe_int))))) pss_nil)
      (pss_one (ps_ret (pe_op op_add pe_int (pe_op op_mod (pv 0) (pe_callB (call_max2 rfl) (by rfl) T.b_max (by decide +kernel) (pa_cons pe_int (pa_cons (pv 1) pa_nil))))))))))))), ?_⟩)
  obtain ⟨c, m, rfl, k⟩ := h
  repeat' (first | walk_at "rd1" | walk_at "ml" | refine r_I (C := CPow) ⟨by decide, by decide, by decide⟩ ?_ | refine r_I p13 ?_ | walk_at "md" | refine r_itd (fun _ => ?_) (fun _ => ?_) | refine r_itn (fun _ => ?_) (fun _ => ?_) | refine k _ (fun M h1 h2 h3 => ?_) | (refine ⟨_, _, rfl, ?_⟩))
  all_goals first | omega | (have := mod_max c m; omega) | (rw [show (10 : Int) ^ Int.toNat 13 = 10000000000000 by decide]; omega)
theorem letter_at {n : Int} : ∃ c : Nat, c ∈ letters.cps.toList ∧ atI letters.cps.toList (n % 26) = some c := by
  have h0 : 0 ≤ n % 26 := Int.emod_nonneg _ (by decide)
  have h1 : n % 26 < 26 := Int.emod_lt_of_pos _ (by decide)
  have hl : letters.cps.toList.length = 26 := by decide +kernel
  have hj : (n % 26).toNat < letters.cps.toList.length := by omega
  refine ⟨letters.cps.toList[(n % 26).toNat], List.getElem_mem hj, ?_⟩
  unfold atI ixN
  rw [if_pos h0, if_pos (by omega)]
  exact List.getElem?_eq_getElem hj
theorem joinL_nil : ∀ ps : List (List Nat), TL.joinL [] ps = ps.flatten
  | [] => rfl
  | [p] => by simp [TL.joinL]
  | p :: q :: r => by
    have ih := joinL_nil (q :: r)
    show p ++ ([] ++ TL.joinL [] (q :: r)) = _
    rw [List.nil_append, ih]
    rfl
theorem sum_ones {cs : List Nat} : ((cs.map fun c => (⟨#[c]⟩ : Str)).map (·.length)).sum = cs.length := by
  induction cs with
  | nil => rfl
  | cons a r ih =>
    rw [List.map_cons, List.map_cons, List.sum_cons, ih]
    show 1 + r.length = _
    rw [List.length_cons]
    omega
/-- an item, joined of letters -/
theorem item_join {cs : List Nat} (h : ∀ c, c ∈ cs → c ∈ letters.cps.toList) (l : 1 ≤ cs.length ∧ cs.length ≤ 12) : isItem (Txt.join "" (cs.map fun c => (⟨#[c]⟩ : Str))) = true := by
  have e : (Txt.join "" (cs.map fun c => (⟨#[c]⟩ : Str))).cps.toList = cs := by
    rw [TL.join_eq]
    have q := TL.tl_join "" (cs.map fun c => (⟨#[c]⟩ : Str))
    have q1 : TL.tl (Str.join "" (cs.map fun c => (⟨#[c]⟩ : Str))) = cs := by
      rw [q, show TL.tl ("" : Str) = [] by decide +kernel, joinL_nil, List.map_map]
      clear q h l
      induction cs with
      | nil => rfl
      | cons a r ih =>
        rw [List.map_cons, List.flatten_cons, ih]
        rfl
    exact q1
  unfold isItem
  have len : (Txt.join "" (cs.map fun c => (⟨#[c]⟩ : Str))).length = cs.length := by
    show Array.size _ = _
    rw [← Array.length_toList, e]
  rw [e, len, decide_eq_true h, decide_eq_true l]
  rfl
def spLItemBy (_ : PySem.W.Frag) : Sp := fun vs H Q _ => ∃ c : Int, vs = [.int c] ∧ ∀ z H', isItem z = true → Same H H' → Q (.str z) H'
theorem len_LItemBy {K : PySem.W.Frag} {vs : List V} {H : Hp} {Q : VK} {E : XK} (h : spLItemBy K vs H Q E) : vs.length = 1 := by
  obtain ⟨_, rfl, _⟩ := h; rfl
/-- a value for each place -/
theorem each_of {n : Nat} {P : Nat → Nat → Prop} (h : ∀ i, i < n → ∃ c, P i c) : ∃ cs : List Nat, cs.length = n ∧ ∀ (i : Nat) c, cs[i]? = some c → P i c := by
  induction n with
  | zero => exact ⟨[], rfl, fun i c e => by simp at e⟩
  | succ n ih =>
    obtain ⟨cs, hl, hc⟩ := ih fun i hi => h i (by omega)
    obtain ⟨c, hp⟩ := h n (by omega)
    refine ⟨cs ++ [c], by simp [hl], fun i d e => ?_⟩
    by_cases hi : i < cs.length
    · rw [List.getElem?_append_left hi] at e
      exact hc i d e
    · have : i = n := by
        have := (List.getElem?_eq_some_iff.mp e).1
        simp at this
        omega
      subst this
      rw [List.getElem?_append_right (by omega), hl, Nat.sub_self] at e
      cases e
      exact hp
theorem ok_LItemBy {P : Program} {w : World} {K : PySem.W.Frag} {mg : Str → Option Value} {base : Heap} (T : Tx w K mg) : FnOk P w K mg base CX0 1 (He.fAd K dLItemBy.at_) (fdO K dLItemBy.at_) P_LItemBy (spLItemBy K) := by
  refine T.f_LItemBy.ok sc_LItemBy (fun vs H Q E h => len_LItemBy h) (fun cdv A outer s H vs Q E hr h => ⟨_, PSs.nox ((pss_cons (ps_set (i := 1) sc_LItemBy.nd rfl (Or.inr rfl) pe_str)
      (pss_one (ps_ret (pe_bm PySem.F.plainAttrs_str PySem.F.slot_str_join PySem.F.type_str_join mt_join pe_str (pa_cons (pe_lc (own := [("_law_k", 2)]) (g := gName 2) (tt := tYes) rfl sc_LItemBy.nd (pi_range1 (by rfl) T.b_range (pa_cons (pe_op op_add pe_int (pe_op op_mod (pe_op op_mod (pe_op op_mul (pv 0) pe_int) pe_int) pe_int)) pa_nil)) (blkOk_by (N := N_LItemBy) (sc := defScope sLItemBy) (by decide +kernel)) (fun _ _ _ _ _ => pg_name (i := 2) sc_LItemBy.nd rfl (Or.inl rfl)) (fun _ _ _ _ _ => pts_nil) (fun _ _ _ _ _ => (pe_ix ix_str (pv 1) (pe_op op_mod (pe_op op_add (pe_op op_add (pe_op op_fdiv (pv 0) pe_int) (pe_op op_mul pe_int (pv 2))) (pv 0)) pe_int) (fun _ _ => rfl)))) pa_nil)))))), ?_⟩)
  obtain ⟨c, rfl, k⟩ := h
  walk_at "rd"
  refine ⟨rfl, ?_⟩
  walk_at "rd"
  walk_at "ml"
  walk_at "rd"
  walk_at "md"
  walk_at "rd"
  walk_at "md"
  walk_at "rd"
  have b1 : 0 ≤ c * 48271 % 10079 % 12 ∧ c * 48271 % 10079 % 12 < 12 := by omega
  revert b1
  generalize c * 48271 % 10079 % 12 = m
  intro b1
  obtain ⟨cs, hl, hc⟩ := each_of (n := (1 + m).toNat) (P := fun i x => x ∈ letters.cps.toList ∧ atI letters.cps.toList ((c / 26 + 7 * (i : Int) + c) % 26) = some x) fun i _ => letter_at
  refine lcp_range (ys := cs.map fun x => V.str ⟨#[x]⟩) (by simp [hl]) (by omega) (by omega) ?_ ?_
  · intro i y H' R ey s q
    rw [List.getElem?_map] at ey
    cases ec : cs[i]? with
    | none => rw [ec] at ey; cases ey
    | some x =>
      rw [ec] at ey
      cases ey
      walk_at "rd"
      walk_at "md"
      walk_at "rd"
      walk_at "ml"
      walk_at "rd"
      walk_at "md"
      refine ⟨letters, _, x, rfl, rfl, sz5 (by decide +kernel), (hc i x ec).2, q _ (Same.refl _)⟩
  · intro D H' hD s e
    walk_at "rd"
    refine ⟨"", D, cs.map fun x => (⟨#[x]⟩ : Str), rfl, rfl, .inl (SqL.of (by rw [e, List.map_map]; rfl)), ?_, ?_⟩
    · rw [sum_ones]
      show cs.length + (cs.map _).length * 0 ≤ _
      omega
    · refine k _ _ (item_join (fun x hx => ?_) (by omega)) s
      obtain ⟨i, hi⟩ := List.getElem?_of_mem hx
      exact (hc i x hi).1
/-! ### lines -/
theorem item_len {z : Str} (h : isItem z = true) : z.length ≤ 12 := by
  unfold isItem at h
  have := of_decide_eq_true (Bool.and_eq_true_iff.mp h).2
  omega
theorem letters_small : ∀ c, c ∈ letters.cps.toList → c < 0x110000 := by decide +kernel
theorem item_str {z : Str} (h : isItem z = true) : PyData.strOk z = true := by
  unfold isItem at h
  have q := of_decide_eq_true (Bool.and_eq_true_iff.mp h).1
  unfold PyData.strOk
  rw [← Array.all_toList, List.all_eq_true]
  intro c hc
  exact decide_eq_true (letters_small c (q c hc))
/-- a row of good lines, a new list -/
def Good (ls : List Lt) : Prop := (1 ≤ ls.length ∧ ls.length ≤ 20) ∧ ∀ t, t ∈ ls → isItem t.item = true ∧ numOk t
theorem Good.few {ls : List Lt} (g : Good ls) : Dd.few (.ord ls) := ⟨by have := g.1; omega, fun t ht => by have := item_len (g.2 t ht).1; omega⟩
theorem Good.err {ls : List Lt} (g : Good ls) {n : Nat} (h : n < 40) : ordErr n ls = none := by
  unfold ordErr
  have f : firstErr ls = none := by
    unfold firstErr
    rw [List.findSome?_eq_none_iff]
    intro t ht
    obtain ⟨a, b⟩ := g.2 t ht
    unfold ltCheck
    rw [if_pos a, if_pos b]
  rw [if_neg (fun z => z g.1), f]
  show (if n = 40 then _ else _) = _
  rw [if_neg (by omega)]
def LinesAt (H : Hp) (r : Addr) (ls : List Lt) : Prop := ∃ xs, H r = some (.lst xs) ∧ LtsAt H xs ls
def spLLinesBy (_ : PySem.W.Frag) : Sp := fun vs H Q _ => ∃ c : Int, vs = [.int c] ∧ ∀ r ls H', Good ls → Same H H' → H r = none → LinesAt H' r ls → Q (.ref r) H'
theorem len_LLinesBy {K : PySem.W.Frag} {vs : List V} {H : Hp} {Q : VK} {E : XK} (h : spLLinesBy K vs H Q E) : vs.length = 1 := by
  obtain ⟨_, rfl, _⟩ := h; rfl
theorem ok_LLinesBy {P : Program} {w : World} {K : PySem.W.Frag} {mg : Str → Option Value} {base : Heap} (T : Tx w K mg) : FnOk P w K mg base CX0 2 (He.fAd K dLLinesBy.at_) (fdO K dLLinesBy.at_) P_LLinesBy (spLLinesBy K) := by
  refine T.f_LLinesBy.ok sc_LLinesBy (fun vs H Q E h => len_LLinesBy h) (fun cdv A outer s H vs Q E hr h => ⟨_, PSs.nox ((pss_cons (ps_set (i := 1) sc_LLinesBy.nd rfl (Or.inl rfl) (pe_lst pa_nil))
      (pss_cons (ps_set (i := 2) sc_LLinesBy.nd rfl (Or.inl rfl) (pe_op op_add pe_int (pe_op op_mod (pe_op op_mod (pe_op op_mul (pv 0) pe_int) pe_int) pe_int)))
      (pss_cons (ps_if (pt_cmpR op_eq (pe_op op_mod (pe_op op_mod (pe_op op_mul (pv 0) pe_int) pe_int) pe_int) pe_int (nomark _)) (pss_one (ps_set (i := 2) sc_LLinesBy.nd rfl (Or.inl rfl) (pe_op op_add pe_int (pe_op op_mod (pv 0) pe_int)))) pss_nil)
      (pss_cons (ps_for PassesOwn.never rfl (pi_range1 (by rfl) T.b_range (pa_cons (pv 2) pa_nil)) (pg_name (i := 3) sc_LLinesBy.nd rfl (Or.inl rfl)) (pss_cons (ps_set (i := 4) sc_LLinesBy.nd rfl (Or.inl rfl) (pe_op op_add (pe_op op_fdiv (pv 0) (pe_op op_add (pv 3) pe_int)) (pe_op op_mul pe_int (pv 3))))
      (pss_cons (ps_set (i := 5) sc_LLinesBy.nd rfl (Or.inl rfl) (pe_call (ok_LItemBy T) (hr.mono (by decide)) rfl T.g_LItemBy T.f_LItemBy.kp T.b_LItemBy .nil pass0 (pa_cons (pv 4) pa_nil)))
      (pss_cons (ps_if (pt_cmpR op_eq (pe_op op_mod (pe_op op_mod (pe_op op_mul (pv 0) pe_int) pe_int) pe_int) pe_int (nomark _)) (pss_one (ps_set (i := 5) sc_LLinesBy.nd rfl (Or.inl rfl) (pe_call (ok_LItemBy T) (hr.mono (by decide)) rfl T.g_LItemBy T.f_LItemBy.kp T.b_LItemBy .nil pass0 (pa_cons (pe_op op_fdiv (pv 0) pe_int) pa_nil)))) pss_nil)
      (pss_one (ps_if (pt_cmpR op_eq (pe_op op_mod (pe_op op_mod (pe_op op_mul (pv 0) pe_int) pe_int) pe_int) pe_int (nomark _)) (pss_one (ps_expr (pe_bm PySem.F.plainAttrs_list PySem.F.slot_list_append PySem.F.type_list_append mt_append (pv 1) (pa_cons (pe_tup (pa_cons (pv 5) (pa_cons (pe_op op_add pe_int (pe_op op_mod (pv 4) pe_int)) (pa_cons (pe_op op_mod (pe_op op_mul (pv 4) pe_int) pe_int) (pa_cons (pe_op op_add pe_int (pe_op op_mod (pv 4) pe_int)) pa_nil))))) pa_nil)))) (pss_one (ps_expr (pe_bm PySem.F.plainAttrs_list PySem.F.slot_list_append PySem.F.type_list_append mt_append (pv 1) (pa_cons (pe_tup (pa_cons (pv 5) (pa_cons (pe_op op_add pe_int (pe_op op_mod (pv 4) pe_int)) (pa_cons (pe_op op_mod (pe_op op_mod (pe_op op_mul (pv 4) pe_int) pe_int) pe_int) (pa_cons (pe_op op_add pe_int (pe_op op_mod (pe_op op_fdiv (pv 4) pe_int) pe_int)) pa_nil))))) pa_nil))))))))))
      (pss_one (ps_ret (pv 1)))))))), ?_⟩)
  obtain ⟨c, rfl, k⟩ := h
  walk_at "rd"
  refine r_mk (by simp) fun r hr => ?_
  walk_at "rs"
  walk_at "rd1"
  walk_at "rs"
  walk_at "ml"
  walk_at "rs"
  walk_at "md"
  walk_at "rs"
  walk_at "md"
  walk_at "rs"
  have er : upd H r (.lst []) r = some (.lst []) := upd_same
  have sr := same_upd (o := .lst []) hr
  revert er sr
  generalize upd H r (.lst []) = H0
  intro er sr
  with_reducible refine r_join (fun σ' H' => H0 = H' ∧ ∃ m : Int, (1 ≤ m ∧ m ≤ 20) ∧ σ' = [some (.int c), some (.ref r), some (.int m), none, none, none]) ?_ fun N hN => ?_
  rotate_left
  · walk_at "rd"
    walk_at "ml"
    walk_at "rd"
    walk_at "md"
    walk_at "rd"
    walk_at "md"
    walk_at "rd"
    refine r_itd (fun _ => ?_) (fun _ => ?_)
    · walk_at "rd"
      walk_at "md"
      walk_at "rd"
      exact hN _ _ ⟨rfl, _, by omega, rfl⟩
    · walk_at "rd"
      exact hN _ _ ⟨rfl, _, by omega, rfl⟩
  rintro σ' _ ⟨rfl, m, hm, rfl⟩
  walk_at "rd"
  refine ⟨m, rfl, by omega, by omega, for_range (lo := 0) (n := m.toNat) (fun i σ H' => ∃ v3 v4 v5 ls, σ = [some (.int c), some (.ref r), some (.int m), v3, v4, v5] ∧ ls.length = i ∧ (∀ t, t ∈ ls → isItem t.item = true ∧ numOk t) ∧ LinesAt H' r ls ∧ Same H H') ⟨none, none, none, [], rfl, rfl, (fun t ht => by cases ht), ⟨[], er, .nil⟩, sr⟩ ?_ ?_⟩
  · rintro i σ H1 hi ⟨v3, v4, v5, ls, rfl, hl, hg, ⟨xs, e1, p1⟩, s1⟩
    rw [Int.zero_add]
    walk_at "rs"
    walk_at "rd1"
    walk_at "rs"
    refine r_I ⟨by omega, by omega⟩ ?_
    walk_at "rs"
    walk_at "ml"
    walk_at "rs"
    walk_at "rd1"
    walk_at "rs"
    refine ⟨_, rfl, fun z H2 hz s2 => ?_⟩
    walk_at "rs"
    have len1 := p1.length
    with_reducible refine r_join (fun σ' H' => Same H1 H' ∧ ∃ (z : Str) (more : Int), isItem z = true ∧ σ' = [some (.int c), some (.ref r), some (.int m), some (.int (i : Int)), some (.int more), some (.str z)]) ?_ fun N hN => ?_
    rotate_left
    · walk_at "rd"
      walk_at "ml"
      walk_at "rd"
      walk_at "md"
      walk_at "rd"
      walk_at "md"
      walk_at "rd"
      refine r_itd (fun _ => ?_) (fun _ => ?_)
      · walk_at "rd"
        walk_at "md"
        walk_at "rd"
        refine ⟨_, rfl, fun z' H3 hz' s3 => ?_⟩
        walk_at "rd"
        exact hN _ _ ⟨s2.trans s3, z', _, hz', rfl⟩
      · walk_at "rd"
        exact hN _ _ ⟨s2, z, _, hz, rfl⟩
    rintro σ' H3 ⟨s3, z', more, hz', rfl⟩
    have e3 := s3 _ _ e1
    have fin : ∀ (t : Addr) (p cc g : Int), (1 ≤ p ∧ p ≤ 1000000) → (0 ≤ cc ∧ cc ≤ 1000000000) → (1 ≤ g ∧ g ≤ 1000) → H3 t = none →
        LinesAt (upd (upd H3 t (.tup [.str z', .int p, .int cc, .int g])) r (.lst (xs ++ [.ref t]))) r (ls ++ [⟨z', p, cc, g⟩]) ∧ Same H (upd (upd H3 t (.tup [.str z', .int p, .int cc, .int g])) r (.lst (xs ++ [.ref t]))) ∧
        (∀ u, u ∈ ls ++ [⟨z', p, cc, g⟩] → isItem u.item = true ∧ numOk u) := fun t p cc g hp hc hg2 ht => by
      have rt : r ≠ t := ne_of_none e3 ht
      have b1 : But (· = r) H3 (upd (upd H3 t (.tup [.str z', .int p, .int cc, .int g])) r (.lst (xs ++ [.ref t]))) := (But.of (same_upd ht)).trans (But.lst (xs := xs) (by rw [upd_ne rt]; exact e3) rfl)
      refine ⟨⟨_, upd_same, Paired.snoc (b1.lts ((But.of (S := (· = r)) s3).lts p1)) ⟨t, rfl, by rw [upd_ne (Ne.symm rt)]; exact upd_same⟩⟩, fun x u q => ?_, fun u hu => ?_⟩
      · exact b1.keep _ _ (s3 _ _ (s1 _ _ q)) (ne_of_none q hr)
      · rcases List.mem_append.mp hu with h | h
        · exact hg u h
        · have e : u = ⟨z', p, cc, g⟩ := by simpa using h
          subst e
          exact ⟨hz', hp, hc, hg2⟩
    walk_at "rd"
    walk_at "ml"
    walk_at "rd"
    walk_at "md"
    walk_at "rd"
    walk_at "md"
    walk_at "rd"
    refine r_itd (fun _ => ?_) (fun _ => ?_)
    · walk_at "rd"
      refine r_tyL (SqL.of e3) ?_
      walk_at "rd"
      walk_at "md"
      walk_at "rd"
      walk_at "ml"
      walk_at "rd"
      walk_at "md"
      walk_at "rd"
      walk_at "md"
      walk_at "rd"
      refine r_mk (by simp) fun t ht => ?_
      walk_at "rd"
      refine r_app (by rw [upd_ne (ne_of_none e3 ht)]; exact e3) (sz5l (by omega)) ?_
      obtain ⟨f1, f2, f3⟩ := fin t (1 + more % 1000000) (more * 48271 % 1000000001) (1 + more % 1000) (by omega) (by omega) (by omega) ht
      exact ⟨_, _, _, _, rfl, by simp [hl], f3, f1, f2⟩
    · walk_at "rd"
      refine r_tyL (SqL.of e3) ?_
      walk_at "rd"
      walk_at "md"
      walk_at "rd"
      walk_at "ml"
      walk_at "rd"
      walk_at "md"
      walk_at "rd"
      walk_at "md"
      walk_at "rd"
      walk_at "md"
      walk_at "rd"
      walk_at "md"
      walk_at "rd"
      refine r_mk (by simp) fun t ht => ?_
      walk_at "rd"
      refine r_app (by rw [upd_ne (ne_of_none e3 ht)]; exact e3) (sz5l (by omega)) ?_
      obtain ⟨f1, f2, f3⟩ := fin t (1 + more % 9) (more * 48271 % 10091 % 200) (1 + more / 9 % 4) (by omega) (by omega) (by omega) ht
      exact ⟨_, _, _, _, rfl, by simp [hl], f3, f1, f2⟩
  · rintro σ H1 ⟨v3, v4, v5, ls, rfl, hl, hg, la, s1⟩
    walk_at "rd"
    exact k r ls H1 ⟨by omega, hg⟩ s1 hr la

/-! ### the law's account: the same orders, in lists -/
def lnL (l : Ln) : List V := [.str l.item, .int l.ordered, .int l.cents, .int l.pack, .int l.sent, .int l.home, .int l.again, .int l.credited]
structure AO where
  o : Addr
  ll : Addr
  rw : Addr
  las : List Addr
inductive ARole where
  | no | top | o (j : Nat) | ll (j : Nat) | rw (j : Nat) | ln (j i : Nat)
structure AL where
  ords : List AO
  own : Addr → ARole
def AL.foot (A : AL) (a : Addr) : Prop := A.own a ≠ .no
/-- one order of the account, as it is read -/
structure AoAt (H : Hp) (p : AO) (o : Od) : Prop where
  ob : H p.o = some (.lst [.ref p.ll, .int o.money, .ref p.rw])
  ll : H p.ll = some (.lst (p.las.map V.ref))
  len : p.las.length = o.lines.length
  ln : ∀ (i : Nat) a l, p.las[i]? = some a → o.lines[i]? = some l → H a = some (.lst (lnL l))
  rws : ∃ ts, H p.rw = some (.lst ts) ∧ Paired (MkAt H) ts o.marks
structure AoOwn (A : AL) (j : Nat) (p : AO) : Prop where
  o : A.own p.o = .o j
  ll : A.own p.ll = .ll j
  rw : A.own p.rw = .rw j
  ln : ∀ (i : Nat) a, p.las[i]? = some a → A.own a = .ln j i
structure AccAt (H : Hp) (a : Addr) (os : List Od) (A : AL) : Prop where
  top : H a = some (.lst (A.ords.map fun p => V.ref p.o))
  rt : A.own a = .top
  len : A.ords.length = os.length
  od : ∀ (j : Nat) p o, A.ords[j]? = some p → os[j]? = some o → AoAt H p o
  ro : ∀ (j : Nat) p, A.ords[j]? = some p → AoOwn A j p
  dom : ∀ x, A.own x ≠ .no → ∃ o, H x = some o
theorem AoAt.keep {H H' : Hp} {p : AO} {o : Od} {S : Addr → Prop} (h : AoAt H p o) (b : But S H H') (n : ∀ a, (a = p.o ∨ a = p.ll ∨ a = p.rw ∨ a ∈ p.las) → ¬ S a) : AoAt H' p o where
  ob := b.keep _ _ h.ob (n _ (.inl rfl))
  ll := b.keep _ _ h.ll (n _ (.inr (.inl rfl)))
  len := h.len
  ln := fun i a l e1 e2 => b.keep _ _ (h.ln i a l e1 e2) (n _ (.inr (.inr (.inr (List.mem_of_getElem? e1)))))
  rws := by
    obtain ⟨ts, e, q⟩ := h.rws
    exact ⟨ts, b.keep _ _ e (n _ (.inr (.inr (.inl rfl)))), b.mks q⟩
theorem AoAt.same {H H' : Hp} {p : AO} {o : Od} (h : AoAt H p o) (s : Same H H') : AoAt H' p o := h.keep (But.of (S := fun _ => False) s) fun _ _ => id
theorem AoOwn.foot {A : AL} {j : Nat} {p : AO} (h : AoOwn A j p) {a : Addr} (q : a = p.o ∨ a = p.ll ∨ a = p.rw ∨ a ∈ p.las) : A.own a = .o j ∨ A.own a = .ll j ∨ A.own a = .rw j ∨ ∃ i, A.own a = .ln j i := by
  rcases q with rfl | rfl | rfl | q
  · exact .inl h.o
  · exact .inr (.inl h.ll)
  · exact .inr (.inr (.inl h.rw))
  · obtain ⟨i, hi⟩ := List.getElem?_of_mem q
    exact .inr (.inr (.inr ⟨i, h.ln i a hi⟩))
theorem AoOwn.in_ {A : AL} {j : Nat} {p : AO} (h : AoOwn A j p) {a : Addr} (q : a = p.o ∨ a = p.ll ∨ a = p.rw ∨ a ∈ p.las) : A.own a ≠ .no := by
  rcases h.foot q with e | e | e | ⟨i, e⟩ <;> rw [e] <;> intro z <;> cases z
theorem AccAt.keep {H H' : Hp} {a : Addr} {os : List Od} {A : AL} {S : Addr → Prop} (h : AccAt H a os A) (b : But S H H') (n : ∀ x, A.own x ≠ .no → ¬ S x) : AccAt H' a os A where
  top := b.keep _ _ h.top (n _ (by rw [h.rt]; intro q; cases q))
  rt := h.rt
  len := h.len
  od := fun j p o e1 e2 => (h.od j p o e1 e2).keep b fun x q => n x ((h.ro j p e1).in_ q)
  ro := h.ro
  dom := fun x z => by
    obtain ⟨o, e⟩ := h.dom x z
    exact ⟨o, b.keep _ _ e (n x z)⟩
theorem AccAt.same {H H' : Hp} {a : Addr} {os : List Od} {A : AL} (h : AccAt H a os A) (s : Same H H') : AccAt H' a os A := h.keep (But.of (S := fun _ => False) s) fun _ _ => id
theorem AccAt.fresh {H : Hp} {a : Addr} {os : List Od} {A : AL} (h : AccAt H a os A) {x : Addr} (e : H x = none) : A.own x = .no := by
  by_cases z : A.own x = .no
  · exact z
  · obtain ⟨o, q⟩ := h.dom x z
    rw [e] at q
    cases q
/-- its texts are plain, and the bounds that reckoning asks -/
def Od.strs (o : Od) : Prop := (∀ l, l ∈ o.lines → isItem l.item = true) ∧ ∀ m, m ∈ o.marks → PyData.strOk m.1 = true
def OsOk (os : List Od) : Prop := os.length ≤ 100 ∧ ∀ o, o ∈ os → o.ok ∧ 1 ≤ o.lines.length ∧ o.strs
def spLLineWorth (_ : PySem.W.Frag) : Sp := fun vs H Q _ => ∃ (a : Addr) (l : Ln), vs = [.ref a] ∧ H a = some (.lst (lnL l)) ∧ l.ok ∧ Q (.int l.worth) H
theorem len_LLineWorth {K : PySem.W.Frag} {vs : List V} {H : Hp} {Q : VK} {E : XK} (h : spLLineWorth K vs H Q E) : vs.length = 1 := by
  obtain ⟨_, _, rfl, _⟩ := h; rfl
theorem Ln.ok.c {l : Ln} (h : l.ok) : -(2 ^ 64) < l.cents ∧ l.cents < 2 ^ 64 := by
  obtain ⟨⟨a, b⟩, _⟩ := h
  omega
theorem Ln.ok.p {l : Ln} (h : l.ok) : 0 < l.pack ∧ l.pack < 1073741824 := by
  obtain ⟨_, a, b⟩ := h
  omega
theorem ok_LLineWorth {P : Program} {w : World} {K : PySem.W.Frag} {mg : Str → Option Value} {base : Heap} (T : Tx w K mg) : FnOk P w K mg base CX0 1 (He.fAd K dLLineWorth.at_) (fdO K dLLineWorth.at_) P_LLineWorth (spLLineWorth K) := by
  refine T.f_LLineWorth.ok sc_LLineWorth (fun vs H Q E h => len_LLineWorth h) (fun cdv A outer s H vs Q E hr h => ⟨_, PSs.nox ((pss_one (ps_ret (pe_op op_fdiv (pe_op op_mul (pe_op op_sub (pe_ix ix_list (pv 0) pe_int (fun _ _ => rfl)) (pe_ix ix_list (pv 0) pe_int (fun _ _ => rfl))) (pe_ix ix_list (pv 0) pe_int (fun _ _ => rfl))) (pe_ix ix_list (pv 0) pe_int (fun _ _ => rfl)))))), ?_⟩)
  obtain ⟨a, l, rfl, ha, ok, k⟩ := h
  walk_at "rd"
  refine r_ixL (SqL.of ha) (atI_get (j := 4) rfl rfl) ?_
  walk_at "rd"
  refine r_ixL (SqL.of ha) (atI_get (j := 5) rfl rfl) ?_
  walk_at "rd"
  refine r_ixL (SqL.of ha) (atI_get (j := 2) rfl rfl) ?_
  refine r_I (.inr ok.c) ?_
  walk_at "rd"
  refine r_ixL (SqL.of ha) (atI_get (j := 3) rfl rfl) ?_
  exact r_I ok.p k
def spLOwedBy (_ : PySem.W.Frag) : Sp := fun vs H Q _ => ∃ (p : AO) (o : Od), vs = [.ref p.o] ∧ AoAt H p o ∧ o.ok ∧ ∀ H', Same H H' → Q (.int o.owing) H'
theorem len_LOwedBy {K : PySem.W.Frag} {vs : List V} {H : Hp} {Q : VK} {E : XK} (h : spLOwedBy K vs H Q E) : vs.length = 1 := by
  obtain ⟨_, _, rfl, _⟩ := h; rfl
theorem ok_LOwedBy {P : Program} {w : World} {K : PySem.W.Frag} {mg : Str → Option Value} {base : Heap} (T : Tx w K mg) : FnOk P w K mg base CX0 2 (He.fAd K dLOwedBy.at_) (fdO K dLOwedBy.at_) P_LOwedBy (spLOwedBy K) := by
  refine T.f_LOwedBy.ok sc_LOwedBy (fun vs H Q E h => len_LOwedBy h) (fun cdv A outer s H vs Q E hr h => ⟨_, PSs.nox ((pss_one (ps_ret (pe_op op_sub (pe_callB (cr_sum rfl) (by rfl) T.b_sum (by decide +kernel) (pa_cons (pe_lc (own := [("_law_line", 1)]) (g := gName 1) (tt := tYes) rfl sc_LOwedBy.nd (pi_list (pe_ix ix_list (pv 0) pe_int (fun _ _ => rfl))) (blkOk_by (N := N_LOwedBy) (sc := defScope sLOwedBy) (by decide +kernel)) (fun _ _ _ _ _ => pg_name (i := 1) sc_LOwedBy.nd rfl (Or.inl rfl)) (fun _ _ _ _ _ => pts_nil) (fun _ _ _ _ _ => (pe_op op_sub (pe_call (ok_LLineWorth T) (hr.mono (by decide)) rfl T.g_LLineWorth T.f_LLineWorth.kp T.b_LLineWorth .nil pass0 (pa_cons (pv 1) pa_nil)) (pe_ix (ix_listK (K := K) rfl) (pv 1) pe_int (fun _ _ => rfl))))) pa_nil)) (pe_ix ix_list (pv 0) pe_int (fun _ _ => rfl)))))), ?_⟩)
  obtain ⟨p, o, rfl, O, ok, k⟩ := h
  walk_at "rd"
  refine r_ixL (SqL.of O.ob) (atI_get (j := 0) rfl rfl) ?_
  refine lcp_list (ys := o.lines.map fun l => V.int l.charge) (SqL.of O.ll) (by simp [O.len]) (by have := ok.few; simp [O.len]; omega) ?_ ?_
  · intro i x y H' R ex ey s q
    obtain ⟨a, ea, rfl⟩ := ref_at ex
    rw [List.getElem?_map] at ey
    cases el : o.lines[i]? with
    | none => rw [el] at ey; cases ey
    | some l =>
      rw [el] at ey
      cases ey
      have hl := s _ _ (O.ln i a l ea el)
      walk_at "rd"
      refine ⟨a, l, rfl, hl, ok.ln l (List.mem_of_getElem? el), ?_⟩
      walk_at "rd"
      refine r_ixL (SqL.of hl) (atI_get (j := 7) rfl rfl) ?_
      walk_at "rd"
      exact q _ (Same.refl _)
  · intro D H' hD s e
    walk_at "rd"
    refine ⟨D, o.lines.map Ln.charge, rfl, SqL.of (by rw [e, List.map_map]; rfl), ?_⟩
    walk_at "rd"
    refine r_ixL (SqL.of (s _ _ O.ob)) (atI_get (j := 1) rfl rfl) ?_
    walk_at "rd"
    exact k _ s
def mostOf (os : List Od) (w : Str) (at' pl : Int) : Int := match at_ os at' with
  | none => 5
  | some (_, o) => if w = "pay" then o.owing else if w = "refund" ∨ w = "move" then -o.owing else match at_ o.lines pl with
    | none => 5
    | some (_, l) => if w = "deliver" then l.toCome else if w = "credit" then l.charge else l.kept
theorem acc_at {H : Hp} {a : Addr} {os : List Od} {A : AL} {j : Nat} {o : Od} (h : AccAt H a os A) (e : os[j]? = some o) : ∃ p, A.ords[j]? = some p ∧ AoAt H p o ∧ (A.ords.map fun p => V.ref p.o)[j]? = some (.ref p.o) := by
  have hl : j < A.ords.length := by rw [h.len]; exact (List.getElem?_eq_some_iff.mp e).1
  refine ⟨A.ords[j], List.getElem?_eq_getElem hl, h.od j _ o (List.getElem?_eq_getElem hl) e, ?_⟩
  rw [List.getElem?_map, List.getElem?_eq_getElem hl]
  rfl
theorem ao_at {H : Hp} {p : AO} {o : Od} {i : Nat} {l : Ln} (O : AoAt H p o) (e : o.lines[i]? = some l) : ∃ a, p.las[i]? = some a ∧ H a = some (.lst (lnL l)) ∧ (p.las.map V.ref)[i]? = some (.ref a) := by
  have hl : i < p.las.length := by rw [O.len]; exact (List.getElem?_eq_some_iff.mp e).1
  refine ⟨p.las[i], List.getElem?_eq_getElem hl, O.ln i _ l (List.getElem?_eq_getElem hl) e, ?_⟩
  rw [List.getElem?_map, List.getElem?_eq_getElem hl]
  rfl
def spLMost (_ : PySem.W.Frag) : Sp := fun vs H Q _ => ∃ (w : Str) (at' pl : Int) (a : Addr) (os : List Od) (A : AL), vs = [.str w, .int at', .int pl, .ref a] ∧ AccAt H a os A ∧ OsOk os ∧ ∀ H', Same H H' → Q (.int (mostOf os w at' pl)) H'
theorem len_LMost {K : PySem.W.Frag} {vs : List V} {H : Hp} {Q : VK} {E : XK} (h : spLMost K vs H Q E) : vs.length = 4 := by
  obtain ⟨_, _, _, _, _, _, rfl, _⟩ := h; rfl
/-- a chain 0 <= n < len, by the list -/
theorem chain_at {α : Type} {xs : List α} {n : Int} {A B : Prop} (hn : at_ xs n = none → A) (hs : ∀ (j : Nat) x, n = (j : Int) → xs[j]? = some x → at_ xs n = some (j, x) → B) :
    if decide (0 ≤ n) = true then (if (!decide (n < (xs.length : Int))) = true then A else B) else A := by
  rcases at_or xs n with ⟨e, c⟩ | ⟨j, x, rfl, ex, e⟩
  · refine r_itd (fun c1 => ?_) (fun _ => hn e)
    refine r_itn (fun _ => hn e) (fun c2 => absurd ⟨c1, c2⟩ c)
  · have := (List.getElem?_eq_some_iff.mp ex).1
    refine r_ity (by omega) ?_
    exact r_itn (fun c => absurd (by omega) c) (fun _ => hs j x rfl ex e)
theorem ok_LMost {P : Program} {w : World} {K : PySem.W.Frag} {mg : Str → Option Value} {base : Heap} (T : Tx w K mg) : FnOk P w K mg base CX0 3 (He.fAd K dLMost.at_) (fdO K dLMost.at_) P_LMost (spLMost K) := by
  refine T.f_LMost.ok sc_LMost (fun vs H Q E h => len_LMost h) (fun cdv A outer s H vs Q E hr h => ⟨_, PSs.nox ((pss_cons (ps_if (pt_not (pt_chain op_le op_lt pe_int (pv 1) (pe_callB call_len_seq (by rfl) T.b_len (by decide +kernel) (pa_cons (pv 3) pa_nil)))) (pss_one (ps_ret pe_int)) pss_nil)
      (pss_cons (ps_set (i := 4) sc_LMost.nd rfl (Or.inl rfl) (pe_call (ok_LOwedBy T) (hr.mono (by decide)) rfl T.g_LOwedBy T.f_LOwedBy.kp T.b_LOwedBy .nil pass0 (pa_cons (pe_ix ix_list (pv 3) (pv 1) (fun _ _ => rfl)) pa_nil)))
      (pss_cons (ps_if (pt_cmpR op_eq (pv 0) pe_str (nomark _)) (pss_one (ps_ret (pv 4))) pss_nil)
      (pss_cons (ps_if (PW.pt (pw_or (pt_cmpR op_eq (pv 0) pe_str (nomark _)) (pw_or1 (pt_cmpR op_eq (pv 0) pe_str (nomark _))))) (pss_one (ps_ret (pe_un un_neg (pv 4)))) pss_nil)
      (pss_cons (ps_if (pt_not (pt_chain op_le op_lt pe_int (pv 2) (pe_callB call_len_seq (by rfl) T.b_len (by decide +kernel) (pa_cons (pe_ix ix_list (pe_ix ix_list (pv 3) (pv 1) (fun _ _ => rfl)) pe_int (fun _ _ => rfl)) pa_nil)))) (pss_one (ps_ret pe_int)) pss_nil)
      (pss_cons (ps_set (i := 5) sc_LMost.nd rfl (Or.inl rfl) (pe_ix ix_list (pe_ix ix_list (pe_ix ix_list (pv 3) (pv 1) (fun _ _ => rfl)) pe_int (fun _ _ => rfl)) (pv 2) (fun _ _ => rfl)))
      (pss_cons (ps_if (pt_cmpR op_eq (pv 0) pe_str (nomark _)) (pss_one (ps_ret (pe_op op_add (pe_op op_sub (pe_ix ix_list (pv 5) pe_int (fun _ _ => rfl)) (pe_ix ix_list (pv 5) pe_int (fun _ _ => rfl))) (pe_ix ix_list (pv 5) pe_int (fun _ _ => rfl))))) pss_nil)
      (pss_cons (ps_if (pt_cmpR op_eq (pv 0) pe_str (nomark _)) (pss_one (ps_ret (pe_op op_sub (pe_call (ok_LLineWorth T) (hr.mono (by decide)) rfl T.g_LLineWorth T.f_LLineWorth.kp T.b_LLineWorth .nil pass0 (pa_cons (pv 5) pa_nil)) (pe_ix ix_list (pv 5) pe_int (fun _ _ => rfl))))) pss_nil)
      (pss_one (ps_ret (pe_op op_sub (pe_ix ix_list (pv 5) pe_int (fun _ _ => rfl)) (pe_ix ix_list (pv 5) pe_int (fun _ _ => rfl)))))))))))))), ?_⟩)
  obtain ⟨w', at', pl, a, os, A, rfl, h, ok, k⟩ := h
  unfold mostOf at k
  walk_at "rd"
  rcases at_or os at' with ⟨e, c⟩ | ⟨j, o, rfl, eo, e⟩
  · rw [e] at k
    refine r_itd (fun c1 => ?_) (fun c1 => ?_)
    · walk_at "rd"
      refine ⟨a, _, rfl, .inl (SqL.of h.top), ?_⟩
      walk_at "rd"
      rw [List.length_map, h.len]
      refine r_itn (fun _ => ?_) (fun c2 => absurd ⟨c1, c2⟩ c)
      walk_at "rd"
      exact k _ (Same.refl _)
    · walk_at "rd"
      exact k _ (Same.refl _)
  rw [e] at k
  dsimp only at k
  obtain ⟨p, ep, O, ev⟩ := acc_at h eo
  have hj := (List.getElem?_eq_some_iff.mp eo).1
  have oko := (ok.2 o (List.mem_of_getElem? eo)).1
  refine r_ity (by omega) ?_
  walk_at "rd"
  refine ⟨a, _, rfl, .inl (SqL.of h.top), ?_⟩
  walk_at "rd"
  rw [List.length_map, h.len]
  refine r_itn (fun c => absurd (by omega) c) (fun _ => ?_)
  walk_at "rd"
  refine r_ixL (SqL.of h.top) (atI_get rfl ev) ?_
  walk_at "rd"
  refine ⟨p, o, rfl, O, oko, fun H1 s1 => ?_⟩
  have O1 := O.same s1
  walk_at "rd"
  refine r_itd (fun c => ?_) (fun c => ?_)
  · rw [if_pos c] at k
    walk_at "rd"
    exact k _ s1
  rw [if_neg c] at k
  walk_at "rd"
  refine r_itd (fun c => ?_) (fun c1 => ?_)
  · rw [if_pos (.inl c)] at k
    walk_at "rd"
    exact k _ s1
  walk_at "rd"
  refine r_itd (fun c => ?_) (fun c2 => ?_)
  · rw [if_pos (.inr c)] at k
    walk_at "rd"
    exact k _ s1
  rw [if_neg (fun z => z.elim c1 c2)] at k
  walk_at "rd"
  rcases at_or o.lines pl with ⟨e, c⟩ | ⟨i, l, rfl, el, e⟩
  · rw [e] at k
    refine r_itd (fun c1 => ?_) (fun c1 => ?_)
    · walk_at "rd"
      refine r_ixL (SqL.of (s1 _ _ h.top)) (atI_get rfl ev) ?_
      walk_at "rd"
      refine r_ixL (SqL.of O1.ob) (atI_get (j := 0) rfl rfl) ?_
      walk_at "rd"
      refine ⟨_, _, rfl, .inl (SqL.of O1.ll), ?_⟩
      walk_at "rd"
      rw [List.length_map, O1.len]
      refine r_itn (fun _ => ?_) (fun c2 => absurd ⟨c1, c2⟩ c)
      walk_at "rd"
      exact k _ s1
    · walk_at "rd"
      exact k _ s1
  rw [e] at k
  dsimp only at k
  obtain ⟨la, ela, hla, elv⟩ := ao_at O1 el
  have hi := (List.getElem?_eq_some_iff.mp el).1
  refine r_ity (by omega) ?_
  walk_at "rd"
  refine r_ixL (SqL.of (s1 _ _ h.top)) (atI_get rfl ev) ?_
  walk_at "rd"
  refine r_ixL (SqL.of O1.ob) (atI_get (j := 0) rfl rfl) ?_
  walk_at "rd"
  refine ⟨_, _, rfl, .inl (SqL.of O1.ll), ?_⟩
  walk_at "rd"
  rw [List.length_map, O1.len]
  refine r_itn (fun c => absurd (by omega) c) (fun _ => ?_)
  walk_at "rd"
  refine r_ixL (SqL.of (s1 _ _ h.top)) (atI_get rfl ev) ?_
  walk_at "rd"
  refine r_ixL (SqL.of O1.ob) (atI_get (j := 0) rfl rfl) ?_
  walk_at "rd"
  refine r_ixL (SqL.of O1.ll) (atI_get rfl elv) ?_
  walk_at "rd"
  refine r_itd (fun c => ?_) (fun c => ?_)
  · rw [if_pos c] at k
    walk_at "rd"
    refine r_ixL (SqL.of hla) (atI_get (j := 1) rfl rfl) ?_
    walk_at "rd"
    refine r_ixL (SqL.of hla) (atI_get (j := 4) rfl rfl) ?_
    walk_at "rd"
    refine r_ixL (SqL.of hla) (atI_get (j := 6) rfl rfl) ?_
    walk_at "rd"
    exact k _ s1
  rw [if_neg c] at k
  walk_at "rd"
  refine r_itd (fun c => ?_) (fun c => ?_)
  · rw [if_pos c] at k
    walk_at "rd"
    refine ⟨la, l, rfl, hla, oko.ln l (List.mem_of_getElem? el), ?_⟩
    walk_at "rd"
    refine r_ixL (SqL.of hla) (atI_get (j := 7) rfl rfl) ?_
    walk_at "rd"
    exact k _ s1
  rw [if_neg c] at k
  walk_at "rd"
  refine r_ixL (SqL.of hla) (atI_get (j := 4) rfl rfl) ?_
  walk_at "rd"
  refine r_ixL (SqL.of hla) (atI_get (j := 5) rfl rfl) ?_
  walk_at "rd"
  exact k _ s1

/-! ### by what a deed is refused -/
def refOf (os : List Od) (d : Dd) : Str := match d with
  | .ord _ => ""
  | d => match step os d with
    | .error e => e.name
    | .ok _ => ""
def mostLn (w : Str) (l : Ln) : Int := if w = "deliver" then l.toCome else if w = "credit" then l.charge else l.kept
theorem turn_most {w : Str} {l : Ln} {n : Int} (g : w = "deliver" ∨ w = "back" ∨ w = "swap" ∨ w = "credit") : (n > mostLn w l → l.turn w n = none) ∧ (¬ n > mostLn w l → ∃ l', l.turn w n = some l') := by
  unfold mostLn Ln.turn
  rcases g with rfl | rfl | rfl | rfl
  · rw [if_pos rfl, if_pos rfl]
    unfold Ln.deliver
    exact ⟨fun h => if_pos h, fun h => ⟨_, if_neg h⟩⟩
  · rw [if_neg (by decide +kernel), if_neg (by decide +kernel), if_neg (by decide +kernel), if_neg (by decide +kernel)]
    unfold Ln.bring
    exact ⟨fun h => if_pos h, fun h => ⟨_, if_neg h⟩⟩
  · rw [if_neg (by decide +kernel), if_neg (by decide +kernel), if_neg (by decide +kernel), if_neg (by decide +kernel)]
    unfold Ln.bring
    exact ⟨fun h => if_pos h, fun h => ⟨_, if_neg h⟩⟩
  · rw [if_neg (by decide +kernel), if_pos rfl, if_neg (by decide +kernel), if_pos rfl]
    unfold Ln.reduce
    exact ⟨fun h => if_pos h, fun h => ⟨_, if_neg h⟩⟩
theorem most_ln {os : List Od} {w : Str} {j i : Nat} {o : Od} {l : Ln} (g : w = "deliver" ∨ w = "back" ∨ w = "swap" ∨ w = "credit") (eo : os[j]? = some o) (el : o.lines[i]? = some l) : mostOf os w (j : Int) (i : Int) = mostLn w l := by
  unfold mostOf mostLn
  rw [at_some eo]
  dsimp only
  rw [at_some el]
  dsimp only
  have h1 : ¬ w = "pay" := by rcases g with rfl | rfl | rfl | rfl <;> decide +kernel
  have h2 : ¬ (w = "refund" ∨ w = "move") := by rcases g with rfl | rfl | rfl | rfl <;> decide +kernel
  rw [if_neg h1, if_neg h2]
theorem most_mo {os : List Od} {w : Str} {j : Nat} {o : Od} {q : Int} (g : w = "refund" ∨ w = "move") (eo : os[j]? = some o) : mostOf os w (j : Int) q = -o.owing := by
  unfold mostOf
  rw [at_some eo]
  dsimp only
  have h1 : ¬ w = "pay" := by rcases g with rfl | rfl <;> decide +kernel
  rw [if_neg h1, if_pos g]
def spLRefusal (_ : PySem.W.Frag) : Sp := fun vs H Q _ => ∃ (F : Addr → Prop) (v : V) (d : Dd) (a : Addr) (os : List Od) (A : AL), vs = [v, .ref a] ∧ DdAt F H v d ∧ d.good ∧ AccAt H a os A ∧ OsOk os ∧ ∀ H', Same H H' → Q (.str (refOf os d)) H'
theorem len_LRefusal {K : PySem.W.Frag} {vs : List V} {H : Hp} {Q : VK} {E : XK} (h : spLRefusal K vs H Q E) : vs.length = 2 := by
  obtain ⟨_, _, _, _, _, _, rfl, _⟩ := h; rfl
theorem gln {w : Str} (g : w = "deliver" ∨ w = "back" ∨ w = "swap" ∨ w = "credit") : ¬ w = "order" ∧ ¬ w = "move" ∧ ¬ w = "pay" ∧ ¬ w = "refund" := by
  rcases g with rfl | rfl | rfl | rfl <;> decide +kernel
theorem gmo {w : Str} (g : w = "pay" ∨ w = "refund") : ¬ w = "order" ∧ ¬ w = "move" := by
  rcases g with rfl | rfl <;> decide +kernel
theorem ok_LRefusal {P : Program} {w : World} {K : PySem.W.Frag} {mg : Str → Option Value} {base : Heap} (T : Tx w K mg) : FnOk P w K mg base CX0 4 (He.fAd K dLRefusal.at_) (fdO K dLRefusal.at_) P_LRefusal (spLRefusal K) := by
  refine T.f_LRefusal.ok sc_LRefusal (fun vs H Q E h => len_LRefusal h) (fun cdv A outer s H vs Q E hr h => ⟨_, PSs.nox ((pss_cons (ps_if (pt_cmpR op_eq (pe_ix ix_tup (pv 0) pe_int (fun _ _ => rfl)) pe_str (nomark _)) (pss_one (ps_ret pe_str)) pss_nil)
      (pss_cons (ps_if (PW.pt (pw_or (pt_not (pt_chain op_le op_lt pe_int (pe_ix ix_tup (pv 0) pe_int (fun _ _ => rfl)) (pe_callB call_len_seq (by rfl) T.b_len (by decide +kernel) (pa_cons (pv 1) pa_nil)))) (pw_or1 (PW.pt (pw_and (pt_cmpR op_eq (pe_ix ix_tup (pv 0) pe_int (fun _ _ => rfl)) pe_str (nomark _)) (pw_and1 (pt_not (pt_chain op_le op_lt pe_int (pe_ix ix_tup (pv 0) pe_int (fun _ _ => rfl)) (pe_callB call_len_seq (by rfl) T.b_len (by decide +kernel) (pa_cons (pv 1) pa_nil)))))))))) (pss_one (ps_ret pe_str)) pss_nil)
      (pss_cons (ps_if (PW.pt (pw_and (pt_cmpR op_eq (pe_ix ix_tup (pv 0) pe_int (fun _ _ => rfl)) pe_str (nomark _)) (pw_and1 (pt_cmpR op_eq (pe_ix ix_tup (pv 0) pe_int (fun _ _ => rfl)) (pe_ix ix_tup (pv 0) pe_int (fun _ _ => rfl)) (nomark _))))) (pss_one (ps_ret pe_str)) pss_nil)
      (pss_cons (ps_set (i := 2) sc_LRefusal.nd rfl (Or.inl rfl) pe_int)
      (pss_cons (ps_if (PW.pt (pw_and (pt_cmpR op_eq (pe_callB call_len_seq (by rfl) T.b_len (by decide +kernel) (pa_cons (pv 0) pa_nil)) pe_int (nomark _)) (pw_and1 (pt_cmpR op_ne (pe_ix ix_tup (pv 0) pe_int (fun _ _ => rfl)) pe_str (nomark _))))) (pss_one (ps_set (i := 2) sc_LRefusal.nd rfl (Or.inl rfl) (pe_ix ix_tup (pv 0) pe_int (fun _ _ => rfl)))) pss_nil)
      (pss_cons (ps_if (pt_not (pt_chain op_le op_lt pe_int (pv 2) (pe_callB call_len_seq (by rfl) T.b_len (by decide +kernel) (pa_cons (pe_ix ix_list (pe_ix ix_list (pv 1) (pe_ix ix_tup (pv 0) pe_int (fun _ _ => rfl)) (fun _ _ => rfl)) pe_int (fun _ _ => rfl)) pa_nil)))) (pss_one (ps_ret pe_str)) pss_nil)
      (pss_cons (ps_set (i := 3) sc_LRefusal.nd rfl (Or.inl rfl) (pe_ix ix_tup (pv 0) (pe_op op_sub (pe_callB call_len_seq (by rfl) T.b_len (by decide +kernel) (pa_cons (pv 0) pa_nil)) pe_int) (fun _ _ => rfl)))
      (pss_cons (ps_if (pt_cmpR op_lt (pv 3) pe_int (nomark _)) (pss_one (ps_ret pe_str)) pss_nil)
      (pss_cons (ps_if (PW.pt (pw_and (pt_cmpR op_ne (pe_ix ix_tup (pv 0) pe_int (fun _ _ => rfl)) pe_str (nomark _)) (pw_and1 (pt_cmpR op_gt (pv 3) (pe_call (ok_LMost T) (hr.mono (by decide)) rfl T.g_LMost T.f_LMost.kp T.b_LMost .nil pass0 (pa_cons (pe_ix ix_tup (pv 0) pe_int (fun _ _ => rfl)) (pa_cons (pe_ix ix_tup (pv 0) pe_int (fun _ _ => rfl)) (pa_cons (pv 2) (pa_cons (pv 1) pa_nil))))) (nomark _))))) (pss_one (ps_ret pe_str)) pss_nil)
      (pss_one (ps_ret pe_str)))))))))))), ?_⟩)
  obtain ⟨F, v, d, a, os, A, rfl, hd, g, h, ok, k⟩ := h
  cases d with
  | ord ls =>
    obtain ⟨t, l, xs, rfl, ht, hl, _, pt⟩ := hd
    walk_at "rd"
    refine r_ixT (SqT.of ht) (atI_get (j := 0) rfl rfl) ?_
    walk_at "rd"
    refine r_ity rfl ?_
    walk_at "rd"
    exact k _ (Same.refl _)
  | ln w' o pl n =>
    obtain ⟨t, rfl, ht⟩ := hd
    obtain ⟨g1, g2, g3, g4⟩ := gln g
    simp only [refOf, step] at k
    unfold stepLn at k
    walk_at "rd"
    refine r_ixT (SqT.of ht) (atI_get (j := 0) rfl rfl) ?_
    walk_at "rd"
    refine r_itz g1 ?_
    walk_at "rd"
    refine r_ixT (SqT.of ht) (atI_get (j := 1) rfl rfl) ?_
    walk_at "rd"
    rcases at_or os o with ⟨e, c⟩ | ⟨j, od, rfl, eo, e⟩
    · rw [e] at k
      refine r_itd (fun c1 => ?_) (fun c1 => ?_)
      · walk_at "rd"
        refine ⟨a, _, rfl, .inl (SqL.of h.top), ?_⟩
        walk_at "rd"
        rw [List.length_map, h.len]
        refine r_itn (fun _ => ?_) (fun c2 => absurd ⟨c1, c2⟩ c)
        walk_at "rd"
        exact k _ (Same.refl _)
      · walk_at "rd"
        exact k _ (Same.refl _)
    rw [e] at k
    dsimp only at k
    obtain ⟨p, ep, O, ev⟩ := acc_at h eo
    have hj := (List.getElem?_eq_some_iff.mp eo).1
    have oko := ok.2 od (List.mem_of_getElem? eo)
    refine r_ity (by omega) ?_
    walk_at "rd"
    refine ⟨a, _, rfl, .inl (SqL.of h.top), ?_⟩
    walk_at "rd"
    rw [List.length_map, h.len]
    refine r_itn (fun c => absurd (by omega) c) (fun _ => ?_)
    walk_at "rd"
    refine r_ixT (SqT.of ht) (atI_get (j := 0) rfl rfl) ?_
    walk_at "rd"
    refine r_itz g2 ?_
    walk_at "rd"
    refine r_ixT (SqT.of ht) (atI_get (j := 0) rfl rfl) ?_
    walk_at "rd"
    refine r_itz g2 ?_
    walk_at "rd"
    refine ⟨t, _, rfl, .inr (SqT.of ht), ?_⟩
    walk_at "rd"
    refine r_ity rfl ?_
    walk_at "rd"
    refine r_ixT (SqT.of ht) (atI_get (j := 0) rfl rfl) ?_
    walk_at "rd"
    refine r_itn (fun _ => ?_) (fun c => absurd c g2)
    walk_at "rd"
    refine r_ixT (SqT.of ht) (atI_get (j := 2) rfl rfl) ?_
    walk_at "rd"
    rcases at_or od.lines pl with ⟨e, c⟩ | ⟨i, l, rfl, el, e⟩
    · rw [e] at k
      refine r_itd (fun c1 => ?_) (fun c1 => ?_)
      · walk_at "rd"
        refine r_ixT (SqT.of ht) (atI_get (j := 1) rfl rfl) ?_
        refine r_ixL (SqL.of h.top) (atI_get rfl ev) ?_
        walk_at "rd"
        refine r_ixL (SqL.of O.ob) (atI_get (j := 0) rfl rfl) ?_
        walk_at "rd"
        refine ⟨_, _, rfl, .inl (SqL.of O.ll), ?_⟩
        walk_at "rd"
        rw [List.length_map, O.len]
        refine r_itn (fun _ => ?_) (fun c2 => absurd ⟨c1, c2⟩ c)
        walk_at "rd"
        exact k _ (Same.refl _)
      · walk_at "rd"
        exact k _ (Same.refl _)
    rw [e] at k
    dsimp only at k
    have hi := (List.getElem?_eq_some_iff.mp el).1
    refine r_ity (by omega) ?_
    walk_at "rd"
    refine r_ixT (SqT.of ht) (atI_get (j := 1) rfl rfl) ?_
    refine r_ixL (SqL.of h.top) (atI_get rfl ev) ?_
    walk_at "rd"
    refine r_ixL (SqL.of O.ob) (atI_get (j := 0) rfl rfl) ?_
    walk_at "rd"
    refine ⟨_, _, rfl, .inl (SqL.of O.ll), ?_⟩
    walk_at "rd"
    rw [List.length_map, O.len]
    refine r_itn (fun c => absurd (by omega) c) (fun _ => ?_)
    walk_at "rd"
    refine ⟨t, _, rfl, .inr (SqT.of ht), ?_⟩
    walk_at "rd"
    refine r_ixT (SqT.of ht) (atI_get (j := 3) rfl rfl) ?_
    walk_at "rd"
    refine r_itd (fun c => ?_) (fun c => ?_)
    · rw [if_pos c] at k
      walk_at "rd"
      exact k _ (Same.refl _)
    rw [if_neg c] at k
    walk_at "rd"
    refine r_ixT (SqT.of ht) (atI_get (j := 0) rfl rfl) ?_
    walk_at "rd"
    refine r_itn (fun _ => ?_) (fun c => absurd c g3)
    walk_at "rd"
    refine r_ixT (SqT.of ht) (atI_get (j := 0) rfl rfl) ?_
    walk_at "rd"
    refine r_ixT (SqT.of ht) (atI_get (j := 1) rfl rfl) ?_
    walk_at "rd"
    refine ⟨w', _, _, a, os, A, rfl, h, ok, fun H1 s1 => ?_⟩
    walk_at "rd"
    rw [most_ln g eo el]
    refine r_itd (fun c => ?_) (fun c => ?_)
    · rw [(turn_most g).1 c] at k
      walk_at "rd"
      exact k _ s1
    · obtain ⟨l', e'⟩ := (turn_most (l := l) (n := n) g).2 c
      rw [e'] at k
      walk_at "rd"
      exact k _ s1
  | mo w' o n =>
    obtain ⟨t, rfl, ht⟩ := hd
    obtain ⟨g1, g2⟩ := gmo g
    simp only [refOf, step] at k
    unfold stepMo at k
    walk_at "rd"
    refine r_ixT (SqT.of ht) (atI_get (j := 0) rfl rfl) ?_
    walk_at "rd"
    refine r_itz g1 ?_
    walk_at "rd"
    refine r_ixT (SqT.of ht) (atI_get (j := 1) rfl rfl) ?_
    walk_at "rd"
    rcases at_or os o with ⟨e, c⟩ | ⟨j, od, rfl, eo, e⟩
    · rw [e] at k
      refine r_itd (fun c1 => ?_) (fun c1 => ?_)
      · walk_at "rd"
        refine ⟨a, _, rfl, .inl (SqL.of h.top), ?_⟩
        walk_at "rd"
        rw [List.length_map, h.len]
        refine r_itn (fun _ => ?_) (fun c2 => absurd ⟨c1, c2⟩ c)
        walk_at "rd"
        exact k _ (Same.refl _)
      · walk_at "rd"
        exact k _ (Same.refl _)
    rw [e] at k
    dsimp only at k
    obtain ⟨p, ep, O, ev⟩ := acc_at h eo
    have hj := (List.getElem?_eq_some_iff.mp eo).1
    have oko := ok.2 od (List.mem_of_getElem? eo)
    refine r_ity (by omega) ?_
    walk_at "rd"
    refine ⟨a, _, rfl, .inl (SqL.of h.top), ?_⟩
    walk_at "rd"
    rw [List.length_map, h.len]
    refine r_itn (fun c => absurd (by omega) c) (fun _ => ?_)
    walk_at "rd"
    refine r_ixT (SqT.of ht) (atI_get (j := 0) rfl rfl) ?_
    walk_at "rd"
    refine r_itz g2 ?_
    walk_at "rd"
    refine r_ixT (SqT.of ht) (atI_get (j := 0) rfl rfl) ?_
    walk_at "rd"
    refine r_itz g2 ?_
    walk_at "rd"
    refine ⟨t, _, rfl, .inr (SqT.of ht), ?_⟩
    walk_at "rd"
    refine r_itz (by show ¬ (3 : Int) = 4; decide) ?_
    walk_at "rd"
    refine r_ity (by decide) ?_
    walk_at "rd"
    refine r_ixT (SqT.of ht) (atI_get (j := 1) rfl rfl) ?_
    refine r_ixL (SqL.of h.top) (atI_get rfl ev) ?_
    walk_at "rd"
    refine r_ixL (SqL.of O.ob) (atI_get (j := 0) rfl rfl) ?_
    walk_at "rd"
    refine ⟨_, _, rfl, .inl (SqL.of O.ll), ?_⟩
    walk_at "rd"
    rw [List.length_map, O.len]
    refine r_itn (fun c => absurd (by omega) c) (fun _ => ?_)
    walk_at "rd"
    refine ⟨t, _, rfl, .inr (SqT.of ht), ?_⟩
    walk_at "rd"
    refine r_ixT (SqT.of ht) (atI_get (j := 2) rfl rfl) ?_
    walk_at "rd"
    refine r_itd (fun c => ?_) (fun c => ?_)
    · rw [if_pos c] at k
      walk_at "rd"
      exact k _ (Same.refl _)
    rw [if_neg c] at k
    walk_at "rd"
    refine r_ixT (SqT.of ht) (atI_get (j := 0) rfl rfl) ?_
    walk_at "rd"
    refine r_itn (fun np => ?_) (fun c => ?_)
    rotate_left
    · rw [if_pos c] at k
      walk_at "rd"
      exact k _ (Same.refl _)
    rw [if_neg np] at k
    have gr : w' = "refund" := g.elim (fun z => absurd z np) id
    walk_at "rd"
    refine r_ixT (SqT.of ht) (atI_get (j := 0) rfl rfl) ?_
    walk_at "rd"
    refine r_ixT (SqT.of ht) (atI_get (j := 1) rfl rfl) ?_
    walk_at "rd"
    refine ⟨w', _, _, a, os, A, rfl, h, ok, fun H1 s1 => ?_⟩
    walk_at "rd"
    rw [most_mo (.inl gr) eo]
    refine r_itd (fun c => ?_) (fun c => ?_)
    · rw [if_pos c] at k
      walk_at "rd"
      exact k _ s1
    · rw [if_neg c] at k
      walk_at "rd"
      exact k _ s1
  | mv o o2 n =>
    obtain ⟨t, rfl, ht⟩ := hd
    simp only [refOf, step] at k
    unfold stepMv at k
    walk_at "rd"
    refine r_ixT (SqT.of ht) (atI_get (j := 0) rfl rfl) ?_
    walk_at "rd"
    refine r_itz (by decide +kernel) ?_
    walk_at "rd"
    refine r_ixT (SqT.of ht) (atI_get (j := 1) rfl rfl) ?_
    walk_at "rd"
    rcases at_or os o with ⟨e, c⟩ | ⟨j, od, rfl, eo, e⟩
    · rw [e] at k
      refine r_itd (fun c1 => ?_) (fun c1 => ?_)
      · walk_at "rd"
        refine ⟨a, _, rfl, .inl (SqL.of h.top), ?_⟩
        walk_at "rd"
        rw [List.length_map, h.len]
        refine r_itn (fun _ => ?_) (fun c2 => absurd ⟨c1, c2⟩ c)
        walk_at "rd"
        exact k _ (Same.refl _)
      · walk_at "rd"
        exact k _ (Same.refl _)
    rw [e] at k
    dsimp only at k
    obtain ⟨p, ep, O, ev⟩ := acc_at h eo
    have hj := (List.getElem?_eq_some_iff.mp eo).1
    have oko := ok.2 od (List.mem_of_getElem? eo)
    refine r_ity (by omega) ?_
    walk_at "rd"
    refine ⟨a, _, rfl, .inl (SqL.of h.top), ?_⟩
    walk_at "rd"
    rw [List.length_map, h.len]
    refine r_itn (fun c => absurd (by omega) c) (fun _ => ?_)
    walk_at "rd"
    refine r_ixT (SqT.of ht) (atI_get (j := 0) rfl rfl) ?_
    walk_at "rd"
    refine r_ity rfl ?_
    walk_at "rd"
    refine r_ixT (SqT.of ht) (atI_get (j := 2) rfl rfl) ?_
    walk_at "rd"
    rcases at_or os o2 with ⟨e, c⟩ | ⟨j2, od2, rfl, eo2, e⟩
    · rw [e] at k
      refine r_itd (fun c1 => ?_) (fun c1 => ?_)
      · walk_at "rd"
        refine ⟨a, _, rfl, .inl (SqL.of h.top), ?_⟩
        walk_at "rd"
        rw [List.length_map, h.len]
        refine r_itn (fun _ => ?_) (fun c2 => absurd ⟨c1, c2⟩ c)
        walk_at "rd"
        exact k _ (Same.refl _)
      · walk_at "rd"
        exact k _ (Same.refl _)
    rw [e] at k
    dsimp only at k
    have hj2 := (List.getElem?_eq_some_iff.mp eo2).1
    refine r_ity (by omega) ?_
    walk_at "rd"
    refine ⟨a, _, rfl, .inl (SqL.of h.top), ?_⟩
    walk_at "rd"
    rw [List.length_map, h.len]
    refine r_itn (fun c => absurd (by omega) c) (fun _ => ?_)
    walk_at "rd"
    refine r_ixT (SqT.of ht) (atI_get (j := 0) rfl rfl) ?_
    walk_at "rd"
    refine r_ity rfl ?_
    walk_at "rd"
    refine r_ixT (SqT.of ht) (atI_get (j := 1) rfl rfl) ?_
    walk_at "rd"
    refine r_ixT (SqT.of ht) (atI_get (j := 2) rfl rfl) ?_
    walk_at "rd"
    refine r_itd (fun c => ?_) (fun c => ?_)
    · rw [if_pos c] at k
      walk_at "rd"
      exact k _ (Same.refl _)
    rw [if_neg c] at k
    walk_at "rd"
    refine ⟨t, _, rfl, .inr (SqT.of ht), ?_⟩
    walk_at "rd"
    refine r_ity rfl ?_
    walk_at "rd"
    refine r_ixT (SqT.of ht) (atI_get (j := 0) rfl rfl) ?_
    walk_at "rd"
    refine r_itn (fun c => absurd rfl c) (fun _ => ?_)
    walk_at "rd"
    refine r_ity (by decide) ?_
    walk_at "rd"
    refine r_ixT (SqT.of ht) (atI_get (j := 1) rfl rfl) ?_
    refine r_ixL (SqL.of h.top) (atI_get rfl ev) ?_
    walk_at "rd"
    refine r_ixL (SqL.of O.ob) (atI_get (j := 0) rfl rfl) ?_
    walk_at "rd"
    refine ⟨_, _, rfl, .inl (SqL.of O.ll), ?_⟩
    walk_at "rd"
    rw [List.length_map, O.len]
    refine r_itn (fun c => absurd (by omega) c) (fun _ => ?_)
    walk_at "rd"
    refine ⟨t, _, rfl, .inr (SqT.of ht), ?_⟩
    walk_at "rd"
    refine r_ixT (SqT.of ht) (atI_get (j := 3) rfl rfl) ?_
    walk_at "rd"
    refine r_itd (fun c => ?_) (fun c => ?_)
    · rw [if_pos c] at k
      walk_at "rd"
      exact k _ (Same.refl _)
    rw [if_neg c] at k
    walk_at "rd"
    refine r_ixT (SqT.of ht) (atI_get (j := 0) rfl rfl) ?_
    walk_at "rd"
    refine r_itn (fun _ => ?_) (fun c => absurd c (by decide +kernel))
    walk_at "rd"
    refine r_ixT (SqT.of ht) (atI_get (j := 0) rfl rfl) ?_
    walk_at "rd"
    refine r_ixT (SqT.of ht) (atI_get (j := 1) rfl rfl) ?_
    walk_at "rd"
    refine ⟨_, _, _, a, os, A, rfl, h, ok, fun H1 s1 => ?_⟩
    walk_at "rd"
    rw [most_mo (.inr rfl) eo]
    refine r_itd (fun c => ?_) (fun c => ?_)
    · rw [if_pos c] at k
      walk_at "rd"
      exact k _ s1
    · rw [if_neg c] at k
      walk_at "rd"
      exact k _ s1

/-! ### a deed's turn in the account -/
def AO.foot (p : AO) (a : Addr) : Prop := a = p.o ∨ a = p.ll ∨ a = p.rw ∨ a ∈ p.las
def ARole.of (j : Nat) (r : ARole) : Prop := r = .o j ∨ r = .ll j ∨ r = .rw j ∨ ∃ i, r = .ln j i
theorem ARole.of_inj {j k : Nat} {r : ARole} (h : r.of j) (g : r.of k) : j = k := by
  rcases h with rfl | rfl | rfl | ⟨i, rfl⟩ <;> rcases g with g | g | g | ⟨i', g⟩ <;> cases g <;> rfl
theorem ARole.of_top {j : Nat} (h : ARole.top.of j) : False := by
  rcases h with h | h | h | ⟨i, h⟩ <;> cases h
theorem ARole.of_no {j : Nat} (h : ARole.no.of j) : False := by
  rcases h with h | h | h | ⟨i, h⟩ <;> cases h
theorem AoAt.dom {H : Hp} {p : AO} {o : Od} (O : AoAt H p o) : ∀ a, p.foot a → ∃ u, H a = some u := by
  intro a f
  rcases f with f | f | f | f
  · exact ⟨_, by rw [f]; exact O.ob⟩
  · exact ⟨_, by rw [f]; exact O.ll⟩
  · obtain ⟨ts, e, _⟩ := O.rws
    exact ⟨_, by rw [f]; exact e⟩
  · obtain ⟨i, hi⟩ := List.getElem?_of_mem f
    have hl : i < o.lines.length := by rw [← O.len]; exact (List.getElem?_eq_some_iff.mp hi).1
    exact ⟨_, O.ln i a _ hi (List.getElem?_eq_getElem hl)⟩
/-- one order is changed -/
theorem AccAt.one {H H' : Hp} {a : Addr} {os : List Od} {A : AL} {j : Nat} {p : AO} {o' : Od} (h : AccAt H a os A) (hp : A.ords[j]? = some p) (O : AoAt H' p o') (bt : But p.foot H H') : AccAt H' a (os.set j o') A := by
  have ro := h.ro j p hp
  have n : ∀ x, ¬ (A.own x).of j → ¬ p.foot x := fun x z f => z (ro.foot f)
  refine ⟨bt.keep _ _ h.top (n _ (by rw [h.rt]; exact ARole.of_top)), h.rt, by simp [h.len], fun i q o e1 e2 => ?_, h.ro, fun x z => ?_⟩
  · by_cases hj : j = i
    · subst hj
      rw [hp] at e1
      cases e1
      have hl : j < os.length := by rw [← h.len]; exact (List.getElem?_eq_some_iff.mp hp).1
      rw [List.getElem?_set_self hl] at e2
      cases e2
      exact O
    · rw [List.getElem?_set_ne hj] at e2
      refine (h.od i q o e1 e2).keep bt fun x f => n x fun z => ?_
      exact hj (ARole.of_inj z ((h.ro i q e1).foot f))
  · by_cases f : p.foot x
    · exact O.dom x f
    · obtain ⟨o, e⟩ := h.dom x z
      exact ⟨o, bt.keep _ _ e f⟩
theorem AccAt.footOf {H : Hp} {a : Addr} {os : List Od} {A : AL} {j : Nat} {p : AO} (h : AccAt H a os A) (hp : A.ords[j]? = some p) : ∀ x, p.foot x → A.foot x := fun x f => (h.ro j p hp).in_ f
/-- the money is written -/
theorem AoAt.money {H : Hp} {A : AL} {j : Nat} {p : AO} {o : Od} {m : Int} (O : AoAt H p o) (R : AoOwn A j p) : AoAt (upd H p.o (.lst [.ref p.ll, .int m, .ref p.rw])) p { o with money := m } ∧ But p.foot H (upd H p.o (.lst [.ref p.ll, .int m, .ref p.rw])) := by
  have b : But (· = p.o) H (upd H p.o (.lst [.ref p.ll, .int m, .ref p.rw])) := But.lst O.ob rfl
  have d : ∀ x r, A.own x = r → r ≠ .o j → x ≠ p.o := fun x r e n z => by rw [z, R.o] at e; exact n e.symm
  refine ⟨⟨upd_same, b.keep _ _ O.ll (d _ _ R.ll (by intro q; cases q)), O.len, fun i x l e1 e2 => b.keep _ _ (O.ln i x l e1 e2) (d _ _ (R.ln i x e1) (by intro q; cases q)), ?_⟩, b.mono fun x z => .inl z⟩
  obtain ⟨ts, e, q⟩ := O.rws
  exact ⟨ts, b.keep _ _ e (d _ _ R.rw (by intro q; cases q)), b.mks q⟩
/-- a line is written -/
theorem AoAt.line {H : Hp} {A : AL} {j : Nat} {p : AO} {o : Od} {i : Nat} {la : Addr} {l : Ln} {l' : Ln} (O : AoAt H p o) (R : AoOwn A j p) (e : p.las[i]? = some la) (el : o.lines[i]? = some l) :
    AoAt (upd H la (.lst (lnL l'))) p { o with lines := o.lines.set i l' } ∧ But p.foot H (upd H la (.lst (lnL l'))) := by
  have b : But (· = la) H (upd H la (.lst (lnL l'))) := But.lst (O.ln i la l e el) rfl
  have R0 := R.ln i la e
  have d : ∀ x r, A.own x = r → r ≠ .ln j i → x ≠ la := fun x r e n z => by rw [z, R0] at e; exact n e.symm
  refine ⟨⟨b.keep _ _ O.ob (d _ _ R.o (by intro q; cases q)), b.keep _ _ O.ll (d _ _ R.ll (by intro q; cases q)), by simp [O.len], fun k x m e1 e2 => ?_, ?_⟩, b.mono fun x z => .inr (.inr (.inr (by rw [z]; exact List.mem_of_getElem? e)))⟩
  · have e2' : (o.lines.set i l')[k]? = some m := e2
    by_cases z : i = k
    · subst z
      rw [e] at e1
      cases e1
      rw [List.getElem?_set_self (List.getElem?_eq_some_iff.mp el).1] at e2'
      cases e2'
      exact upd_same
    · rw [List.getElem?_set_ne z] at e2'
      refine b.keep _ _ (O.ln k x m e1 e2') (d _ _ (R.ln k x e1) fun q => ?_)
      cases q
      exact z rfl
  · obtain ⟨ts, e, q⟩ := O.rws
    exact ⟨ts, b.keep _ _ e (d _ _ R.rw (by intro q; cases q)), b.mks q⟩
/-- a row is written behind -/
theorem AoAt.row {H : Hp} {A : AL} {j : Nat} {p : AO} {o : Od} {ts : List V} {t : Addr} {w : Str} {c : Int} (O : AoAt H p o) (R : AoOwn A j p) (et : H p.rw = some (.lst ts)) (hm : H t = some (.tup [.str w, .int c])) :
    AoAt (upd H p.rw (.lst (ts ++ [.ref t]))) p (o.mark w c) ∧ But p.foot H (upd H p.rw (.lst (ts ++ [.ref t]))) := by
  have b : But (· = p.rw) H (upd H p.rw (.lst (ts ++ [.ref t]))) := But.lst et rfl
  have d : ∀ x r, A.own x = r → r ≠ .rw j → x ≠ p.rw := fun x r e n z => by rw [z, R.rw] at e; exact n e.symm
  refine ⟨⟨b.keep _ _ O.ob (d _ _ R.o (by intro q; cases q)), b.keep _ _ O.ll (d _ _ R.ll (by intro q; cases q)), O.len, fun i x l e1 e2 => b.keep _ _ (O.ln i x l e1 e2) (d _ _ (R.ln i x e1) (by intro q; cases q)), ?_⟩, b.mono fun x z => .inr (.inr (.inl z))⟩
  obtain ⟨ts', e, q⟩ := O.rws
  rw [et] at e
  cases e
  exact ⟨_, upd_same, Paired.snoc (b.mks q) ⟨t, rfl, b.tup _ _ hm⟩⟩
def turnOf (os : List Od) : Dd → Option (List Od)
  | .ord _ => none
  | .ln w o l n => match at_ os o with
    | none => none
    | some (j, od) => match at_ od.lines l with
      | none => none
      | some (i, x) => match x.turn w n with
        | none => none
        | some x' => some (os.set j { od with lines := od.lines.set i x' })
  | .mo w o n => match at_ os o with
    | none => none
    | some (j, od) => some (os.set j (od.pay (if w = "pay" then n else -n)))
  | .mv o p n => match at_ os o with
    | none => none
    | some (i, a) => match at_ os p with
      | none => none
      | some (j, b) => if i = j then none else some ((os.set i (a.pay (-n))).set j (b.pay n))
theorem turn_def {w : Str} {l l' : Ln} {n : Int} (g : w = "deliver" ∨ w = "back" ∨ w = "swap" ∨ w = "credit") (e : l.turn w n = some l') :
    (w = "deliver" ∧ l' = { l with sent := l.sent + n }) ∨ (w = "credit" ∧ l' = { l with credited := l.credited + n }) ∨
    (¬ w = "deliver" ∧ ¬ w = "credit" ∧ l' = Ln.cut { l with home := l.home + n, again := l.again + n * (if w = "swap" then 1 else 0) }) := by
  unfold Ln.turn at e
  rcases g with rfl | rfl | rfl | rfl
  · rw [if_pos rfl] at e
    unfold Ln.deliver at e
    split at e
    · cases e
    · cases e
      exact .inl ⟨rfl, rfl⟩
  · rw [if_neg (by decide +kernel), if_neg (by decide +kernel)] at e
    refine .inr (.inr ⟨by decide +kernel, by decide +kernel, ?_⟩)
    rw [if_neg (by decide +kernel)]
    unfold Ln.bring at e
    split at e
    · cases e
    · cases e
      rw [Int.mul_zero, Int.add_zero]
      rfl
  · rw [if_neg (by decide +kernel), if_neg (by decide +kernel)] at e
    refine .inr (.inr ⟨by decide +kernel, by decide +kernel, ?_⟩)
    rw [if_pos rfl]
    unfold Ln.bring at e
    split at e
    · cases e
    · cases e
      rw [Int.mul_one]
      rfl
  · rw [if_neg (by decide +kernel), if_pos rfl] at e
    unfold Ln.reduce at e
    split at e
    · cases e
    · cases e
      exact .inr (.inl ⟨rfl, rfl⟩)
def spLTurned (_ : PySem.W.Frag) : Sp := fun vs H Q _ => ∃ (F : Addr → Prop) (v : V) (d : Dd) (a : Addr) (os os1 : List Od) (A : AL), vs = [v, .ref a] ∧ DdAt F H v d ∧ d.good ∧ AccAt H a os A ∧ OsOk os ∧ turnOf os d = some os1 ∧
  ∀ H', AccAt H' a os1 A → But A.foot H H' → Stay H H' → Q v H'
theorem len_LTurned {K : PySem.W.Frag} {vs : List V} {H : Hp} {Q : VK} {E : XK} (h : spLTurned K vs H Q E) : vs.length = 2 := by
  obtain ⟨_, _, _, _, _, _, _, rfl, _⟩ := h; rfl
theorem stay_lst {H : Hp} {a : Addr} {o u : HO} (h : H a = some u) : Stay H (upd H a o) := fun x e => by
  by_cases z : x = a
  · rw [z, upd_same] at e; cases e
  · rw [upd_ne z] at e; exact e
theorem r_int1b {H : Hp} {Q : VK} {b : Bool} (q : Q (.int (if b then 1 else 0)) H) : (∃ i, [V.bl b] = [V.int i] ∧ Q (.int i) H) ∨ ∃ k, [V.bl b] = [.bl k] ∧ Q (.int (if k then 1 else 0)) H := .inr ⟨b, rfl, q⟩
theorem ok_LTurned {P : Program} {w : World} {K : PySem.W.Frag} {mg : Str → Option Value} {base : Heap} (T : Tx w K mg) : FnOk P w K mg base CX0 2 (He.fAd K dLTurned.at_) (fdO K dLTurned.at_) P_LTurned (spLTurned K) := by
  refine T.f_LTurned.ok sc_LTurned (fun vs H Q E h => len_LTurned h) (fun cdv A outer s H vs Q E hr h => ⟨_, PSs.nox ((pss_cons (ps_set (i := 2) sc_LTurned.nd rfl (Or.inl rfl) (pe_ix ix_tup (pv 0) (pe_op op_sub (pe_callB call_len_seq (by rfl) T.b_len (by decide +kernel) (pa_cons (pv 0) pa_nil)) pe_int) (fun _ _ => rfl)))
      (pss_cons (ps_if (PW.pt (pw_or (pt_cmpR op_eq (pe_ix ix_tup (pv 0) pe_int (fun _ _ => rfl)) pe_str (nomark _)) (pw_or (pt_cmpR op_eq (pe_ix ix_tup (pv 0) pe_int (fun _ _ => rfl)) pe_str (nomark _)) (pw_or1 (pt_cmpR op_eq (pe_ix ix_tup (pv 0) pe_int (fun _ _ => rfl)) pe_str (nomark _)))))) (pss_cons (ps_set (i := 3) sc_LTurned.nd rfl (Or.inl rfl) (pe_op op_sub pe_int (pe_op op_mul pe_int (pe_callTy call_int1 (by rfl) T.b_int (by decide +kernel) (pa_cons (pe_cmpR op_ne (pe_ix ix_tup (pv 0) pe_int (fun _ _ => rfl)) pe_str (nomark _)) pa_nil)))))
      (pss_cons (ps_asg (pe_op op_add (pe_ix ix_list (pe_ix ix_list (pv 1) (pe_ix ix_tup (pv 0) pe_int (fun _ _ => rfl)) (fun _ _ => rfl)) pe_int (fun _ _ => rfl)) (pe_op op_mul (pv 3) (pv 2))) (pg_sub (pe_ix ix_list (pv 1) (pe_ix ix_tup (pv 0) pe_int (fun _ _ => rfl)) (fun _ _ => rfl)) pe_int set_list))
      (pss_cons (ps_if (pt_cmpR op_eq (pe_ix ix_tup (pv 0) pe_int (fun _ _ => rfl)) pe_str (nomark _)) (pss_one (ps_asg (pe_op op_add (pe_ix ix_list (pe_ix ix_list (pv 1) (pe_ix ix_tup (pv 0) pe_int (fun _ _ => rfl)) (fun _ _ => rfl)) pe_int (fun _ _ => rfl)) (pv 2)) (pg_sub (pe_ix ix_list (pv 1) (pe_ix ix_tup (pv 0) pe_int (fun _ _ => rfl)) (fun _ _ => rfl)) pe_int set_list))) pss_nil)
      (pss_one (ps_ret (pv 0)))))) pss_nil)
      (pss_cons (ps_set (i := 4) sc_LTurned.nd rfl (Or.inl rfl) (pe_ix ix_list (pe_ix ix_list (pe_ix ix_list (pv 1) (pe_ix ix_tup (pv 0) pe_int (fun _ _ => rfl)) (fun _ _ => rfl)) pe_int (fun _ _ => rfl)) (pe_ix ix_tup (pv 0) pe_int (fun _ _ => rfl)) (fun _ _ => rfl)))
      (pss_cons (ps_if (pt_cmpR op_eq (pe_ix ix_tup (pv 0) pe_int (fun _ _ => rfl)) pe_str (nomark _)) (pss_one (ps_asg (pe_op op_add (pe_ix ix_list (pv 4) pe_int (fun _ _ => rfl)) (pv 2)) (pg_sub (pv 4) pe_int set_list))) (pss_one (ps_if (pt_cmpR op_eq (pe_ix ix_tup (pv 0) pe_int (fun _ _ => rfl)) pe_str (nomark _)) (pss_one (ps_asg (pe_op op_add (pe_ix ix_list (pv 4) pe_int (fun _ _ => rfl)) (pv 2)) (pg_sub (pv 4) pe_int set_list))) (pss_cons (ps_asg (pe_op op_add (pe_ix ix_list (pv 4) pe_int (fun _ _ => rfl)) (pv 2)) (pg_sub (pv 4) pe_int set_list))
      (pss_cons (ps_asg (pe_op op_add (pe_ix ix_list (pv 4) pe_int (fun _ _ => rfl)) (pe_op op_mul (pv 2) (pe_callTy call_int1 (by rfl) T.b_int (by decide +kernel) (pa_cons (pe_cmpR op_eq (pe_ix ix_tup (pv 0) pe_int (fun _ _ => rfl)) pe_str (nomark _)) pa_nil)))) (pg_sub (pv 4) pe_int set_list))
      (pss_one (ps_asg (pe_callB (call_min2 rfl) (by rfl) T.b_min (by decide +kernel) (pa_cons (pe_ix ix_list (pv 4) pe_int (fun _ _ => rfl)) (pa_cons (pe_call (ok_LLineWorth T) (hr.mono (by decide)) rfl T.g_LLineWorth T.f_LLineWorth.kp T.b_LLineWorth .nil pass0 (pa_cons (pv 4) pa_nil)) pa_nil))) (pg_sub (pv 4) pe_int set_list))))))))
      (pss_one (ps_ret (pv 0)))))))), ?_⟩)
  obtain ⟨F, v, d, a, os, os1, A, rfl, hd, g, h, ok, tq, k⟩ := h
  cases d with
  | ord ls => cases tq
  | ln w' o pl n =>
    obtain ⟨t, rfl, ht⟩ := hd
    obtain ⟨g1, g2, g3, g4⟩ := gln g
    unfold turnOf at tq
    dsimp only at tq
    rcases at_or os o with ⟨e, c⟩ | ⟨j, od, rfl, eo, e⟩
    · rw [e] at tq; cases tq
    rw [e] at tq
    dsimp only at tq
    rcases at_or od.lines pl with ⟨e, c⟩ | ⟨i, l, rfl, el, e⟩
    · rw [e] at tq; cases tq
    rw [e] at tq
    dsimp only at tq
    cases et : l.turn w' n with
    | none => rw [et] at tq; cases tq
    | some l' =>
    rw [et] at tq
    cases tq
    obtain ⟨p, ep, O, ev⟩ := acc_at h eo
    obtain ⟨la, ela, hla, elv⟩ := ao_at O el
    have R := h.ro j p ep
    have lok := (ok.2 od (List.mem_of_getElem? eo)).1.ln l (List.mem_of_getElem? el)
    have ft : p.foot la := .inr (.inr (.inr (List.mem_of_getElem? ela)))
    have fin : ∀ l2 H2, l2 = l' → H2 = upd H la (.lst (lnL l2)) → Q (.ref t) H2 := fun l2 H2 e1 e2 => by
      subst e1 e2
      obtain ⟨O2, b2⟩ := O.line (l' := l2) R ela el
      exact k _ (h.one ep O2 b2) (b2.mono (h.footOf ep)) (stay_lst hla)
    have nt : t ≠ la := ne_of ht hla (by intro q; cases q)
    walk_at "rd"
    refine ⟨t, _, rfl, .inr (SqT.of ht), ?_⟩
    walk_at "rd"
    refine r_ixT (SqT.of ht) (atI_get (j := 3) rfl rfl) ?_
    walk_at "rd"
    refine r_ixT (SqT.of ht) (atI_get (j := 0) rfl rfl) ?_
    walk_at "rd"
    refine r_itz g3 ?_
    walk_at "rd"
    refine r_ixT (SqT.of ht) (atI_get (j := 0) rfl rfl) ?_
    walk_at "rd"
    refine r_itz g4 ?_
    walk_at "rd"
    refine r_ixT (SqT.of ht) (atI_get (j := 0) rfl rfl) ?_
    walk_at "rd"
    refine r_itz g2 ?_
    walk_at "rd"
    refine r_ixT (SqT.of ht) (atI_get (j := 1) rfl rfl) ?_
    refine r_ixL (SqL.of h.top) (atI_get rfl ev) ?_
    walk_at "rd"
    refine r_ixL (SqL.of O.ob) (atI_get (j := 0) rfl rfl) ?_
    walk_at "rd"
    refine r_ixT (SqT.of ht) (atI_get (j := 2) rfl rfl) ?_
    refine r_ixL (SqL.of O.ll) (atI_get rfl elv) ?_
    walk_at "rd"
    refine r_ixT (SqT.of ht) (atI_get (j := 0) rfl rfl) ?_
    walk_at "rd"
    rcases turn_def g et with ⟨c, rfl⟩ | ⟨c, rfl⟩ | ⟨c1, c2, rfl⟩
    · refine r_ity c ?_
      walk_at "rd"
      refine r_ixL (SqL.of hla) (atI_get (j := 4) rfl rfl) ?_
      walk_at "rd"
      refine r_setL hla (j := 4) rfl (by show 4 < 8; decide) ?_
      walk_at "rd"
      exact fin _ _ rfl rfl
    · refine r_itz (by rw [c]; decide +kernel) ?_
      walk_at "rd"
      refine r_ixT (SqT.of ht) (atI_get (j := 0) rfl rfl) ?_
      walk_at "rd"
      refine r_ity c ?_
      walk_at "rd"
      refine r_ixL (SqL.of hla) (atI_get (j := 7) rfl rfl) ?_
      walk_at "rd"
      refine r_setL hla (j := 7) rfl (by show 7 < 8; decide) ?_
      walk_at "rd"
      exact fin _ _ rfl rfl
    · refine r_itz c1 ?_
      walk_at "rd"
      refine r_ixT (SqT.of ht) (atI_get (j := 0) rfl rfl) ?_
      walk_at "rd"
      refine r_itz c2 ?_
      walk_at "rd"
      refine r_ixL (SqL.of hla) (atI_get (j := 5) rfl rfl) ?_
      walk_at "rd"
      refine r_setL hla (j := 5) rfl (by show 5 < 8; decide) ?_
      walk_at "rd"
      refine r_ixL (SqL.of (upd_same (H := H) (a := la) (o := .lst (lnL { l with home := l.home + n })))) (atI_get (j := 6) rfl rfl) ?_
      walk_at "rd"
      refine r_ixT (SqT.of (by rw [upd_ne nt]; exact ht)) (atI_get (j := 0) rfl rfl) ?_
      walk_at "rd"
      refine .inr ⟨_, rfl, ?_⟩
      walk_at "rd"
      refine r_I (.inr ?_) ?_
      · split <;> omega
      walk_at "rd"
      refine r_setL upd_same (j := 6) rfl (by show 6 < 8; decide) ?_
      rw [upd_upd]
      obtain ⟨l2, el2⟩ : ∃ l2 : Ln, l2 = { l with home := l.home + n, again := l.again + n * (if w' = "swap" then 1 else 0) } := ⟨_, rfl⟩
      have lok2 : l2.ok := by rw [el2]; exact lok
      have eL : List.set (List.set (lnL l) 5 (.int (l.home + n))) 6 (.int (l.again + n * if decide (w' = "swap") = true then 1 else 0)) = lnL l2 := by
        rw [el2]
        simp only [decide_eq_true_eq]
        rfl
      rw [← el2] at fin
      have eL2 : List.set (lnL { l with home := l.home + n }) 6 (.int (l.again + n * if decide (w' = "swap") = true then 1 else 0)) = lnL l2 := eL
      rw [eL]
      walk_at "rd"
      refine r_ixL (SqL.of (upd_same (o := .lst (lnL l2)))) (atI_get (j := 7) rfl rfl) ?_
      walk_at "rd"
      refine ⟨la, l2, rfl, upd_same, lok2, ?_⟩
      walk_at "rd"
      refine ⟨_, _, rfl, ?_⟩
      walk_at "rd"
      refine r_setL (upd_same (H := H) (a := la) (o := .lst (lnL l2))) (j := 7) rfl (by show 7 < 8; decide) ?_
      rw [upd_upd]
      walk_at "rd"
      exact fin _ _ rfl rfl
  | mo w' o n =>
    obtain ⟨t, rfl, ht⟩ := hd
    obtain ⟨g1, g2⟩ := gmo g
    unfold turnOf at tq
    dsimp only at tq
    rcases at_or os o with ⟨e, c⟩ | ⟨j, od, rfl, eo, e⟩
    · rw [e] at tq; cases tq
    rw [e] at tq
    cases tq
    obtain ⟨p, ep, O, ev⟩ := acc_at h eo
    have R := h.ro j p ep
    have fin : ∀ m : Int, m = od.money + (if w' = "pay" then n else -n) → Q (.ref t) (upd H p.o (.lst [.ref p.ll, .int m, .ref p.rw])) := fun m e1 => by
      subst e1
      obtain ⟨O2, b2⟩ := O.money (m := od.money + (if w' = "pay" then n else -n)) R
      exact k _ (h.one ep O2 b2) (b2.mono (h.footOf ep)) (stay_lst O.ob)
    have nt : t ≠ p.o := ne_of ht O.ob (by intro q; cases q)
    walk_at "rd"
    refine ⟨t, _, rfl, .inr (SqT.of ht), ?_⟩
    walk_at "rd"
    refine r_ixT (SqT.of ht) (atI_get (j := 2) rfl rfl) ?_
    walk_at "rd"
    refine r_ixT (SqT.of ht) (atI_get (j := 0) rfl rfl) ?_
    walk_at "rd"
    rcases g with c | c
    · refine r_ity c ?_
      walk_at "rd"
      refine r_ixT (SqT.of ht) (atI_get (j := 0) rfl rfl) ?_
      walk_at "rd"
      refine .inr ⟨_, rfl, ?_⟩
      walk_at "rd"
      refine r_I (.inl ⟨by decide, by decide⟩) ?_
      walk_at "rd"
      refine r_ixT (SqT.of ht) (atI_get (j := 1) rfl rfl) ?_
      refine r_ixL (SqL.of h.top) (atI_get rfl ev) ?_
      walk_at "rd"
      refine r_ixL (SqL.of O.ob) (atI_get (j := 1) rfl rfl) ?_
      walk_at "rd"
      refine r_I (.inl ?_) ?_
      · split <;> exact ⟨by decide, by decide⟩
      walk_at "rd"
      refine r_ixT (SqT.of ht) (atI_get (j := 1) rfl rfl) ?_
      refine r_ixL (SqL.of h.top) (atI_get rfl ev) ?_
      walk_at "rd"
      refine r_setL O.ob (j := 1) rfl (by show 1 < 3; decide) ?_
      walk_at "rd"
      refine r_ixT (SqT.of (by rw [upd_ne nt]; exact ht)) (atI_get (j := 0) rfl rfl) ?_
      walk_at "rd"
      refine r_itz g2 ?_
      walk_at "rd"
      refine fin _ ?_
      rw [if_pos c]
      simp [c]
    · have np : ¬ w' = "pay" := by rw [c]; decide +kernel
      refine r_itz np ?_
      walk_at "rd"
      refine r_ixT (SqT.of ht) (atI_get (j := 0) rfl rfl) ?_
      walk_at "rd"
      refine r_ity c ?_
      walk_at "rd"
      refine r_ixT (SqT.of ht) (atI_get (j := 0) rfl rfl) ?_
      walk_at "rd"
      refine .inr ⟨_, rfl, ?_⟩
      walk_at "rd"
      refine r_I (.inl ⟨by decide, by decide⟩) ?_
      walk_at "rd"
      refine r_ixT (SqT.of ht) (atI_get (j := 1) rfl rfl) ?_
      refine r_ixL (SqL.of h.top) (atI_get rfl ev) ?_
      walk_at "rd"
      refine r_ixL (SqL.of O.ob) (atI_get (j := 1) rfl rfl) ?_
      walk_at "rd"
      refine r_I (.inl ?_) ?_
      · split <;> exact ⟨by decide, by decide⟩
      walk_at "rd"
      refine r_ixT (SqT.of ht) (atI_get (j := 1) rfl rfl) ?_
      refine r_ixL (SqL.of h.top) (atI_get rfl ev) ?_
      walk_at "rd"
      refine r_setL O.ob (j := 1) rfl (by show 1 < 3; decide) ?_
      walk_at "rd"
      refine r_ixT (SqT.of (by rw [upd_ne nt]; exact ht)) (atI_get (j := 0) rfl rfl) ?_
      walk_at "rd"
      refine r_itz g2 ?_
      walk_at "rd"
      refine fin _ ?_
      rw [if_neg np]
      simp [np]
  | mv o o2 n =>
    obtain ⟨t, rfl, ht⟩ := hd
    unfold turnOf at tq
    dsimp only at tq
    rcases at_or os o with ⟨e, c⟩ | ⟨i, od, rfl, eo, e⟩
    · rw [e] at tq; cases tq
    rw [e] at tq
    dsimp only at tq
    rcases at_or os o2 with ⟨e, c⟩ | ⟨j, od2, rfl, eo2, e⟩
    · rw [e] at tq; cases tq
    rw [e] at tq
    dsimp only at tq
    by_cases ij : i = j
    · rw [if_pos ij] at tq; cases tq
    rw [if_neg ij] at tq
    cases tq
    obtain ⟨p, ep, O, ev⟩ := acc_at h eo
    have R := h.ro i p ep
    obtain ⟨O2, b2⟩ := O.money (m := od.money + -n) R
    have h2 := h.one ep O2 b2
    have st2 := stay_lst (o := .lst [.ref p.ll, .int (od.money + -n), .ref p.rw]) O.ob
    have eo2' : (os.set i { od with money := od.money + -n })[j]? = some od2 := by rw [List.getElem?_set_ne ij]; exact eo2
    obtain ⟨p2, ep2, O3, ev3⟩ := acc_at h2 eo2'
    have R2 := h2.ro j p2 ep2
    obtain ⟨O4, b4⟩ := O3.money (m := od2.money + n) R2
    have h4 := h2.one ep2 O4 b4
    have st4 := stay_lst (o := .lst [.ref p2.ll, .int (od2.money + n), .ref p2.rw]) O3.ob
    have ht2 := b2.tup _ _ ht
    walk_at "rd"
    refine ⟨t, _, rfl, .inr (SqT.of ht), ?_⟩
    walk_at "rd"
    refine r_ixT (SqT.of ht) (atI_get (j := 3) rfl rfl) ?_
    walk_at "rd"
    refine r_ixT (SqT.of ht) (atI_get (j := 0) rfl rfl) ?_
    walk_at "rd"
    refine r_itz (by decide +kernel) ?_
    walk_at "rd"
    refine r_ixT (SqT.of ht) (atI_get (j := 0) rfl rfl) ?_
    walk_at "rd"
    refine r_itz (by decide +kernel) ?_
    walk_at "rd"
    refine r_ixT (SqT.of ht) (atI_get (j := 0) rfl rfl) ?_
    walk_at "rd"
    refine r_ity rfl ?_
    walk_at "rd"
    refine r_ixT (SqT.of ht) (atI_get (j := 0) rfl rfl) ?_
    walk_at "rd"
    refine .inr ⟨_, rfl, ?_⟩
    walk_at "rd"
    refine r_I (.inl ⟨by decide, by decide⟩) ?_
    walk_at "rd"
    refine r_ixT (SqT.of ht) (atI_get (j := 1) rfl rfl) ?_
    refine r_ixL (SqL.of h.top) (atI_get rfl ev) ?_
    walk_at "rd"
    refine r_ixL (SqL.of O.ob) (atI_get (j := 1) rfl rfl) ?_
    walk_at "rd"
    refine r_I (.inl ?_) ?_
    · split <;> exact ⟨by decide, by decide⟩
    walk_at "rd"
    refine r_ixT (SqT.of ht) (atI_get (j := 1) rfl rfl) ?_
    refine r_ixL (SqL.of h.top) (atI_get rfl ev) ?_
    walk_at "rd"
    refine r_setL O.ob (j := 1) rfl (by show 1 < 3; decide) ?_
    have em : od.money + (1 - 2 * (if (!decide (("move" : Str) = "pay")) = true then 1 else 0)) * n = od.money + -n := by
      rw [if_pos (by decide +kernel)]
      omega
    rw [em]
    show tSeq _ _ _ _ (upd H p.o (.lst [.ref p.ll, .int (od.money + -n), .ref p.rw]))
    revert h2 O2 b2 st2 O3 O4 b4 h4 st4 ht2
    generalize upd H p.o (.lst [.ref p.ll, .int (od.money + -n), .ref p.rw]) = H2
    intro O2 b2 h2 st2 O3 O4 b4 h4 st4 ht2
    walk_at "rd"
    refine r_ixT (SqT.of ht2) (atI_get (j := 0) rfl rfl) ?_
    walk_at "rd"
    refine r_ity rfl ?_
    walk_at "rd"
    refine r_ixT (SqT.of ht2) (atI_get (j := 2) rfl rfl) ?_
    refine r_ixL (SqL.of h2.top) (atI_get rfl ev3) ?_
    walk_at "rd"
    refine r_ixL (SqL.of O3.ob) (atI_get (j := 1) rfl rfl) ?_
    walk_at "rd"
    refine r_ixT (SqT.of ht2) (atI_get (j := 2) rfl rfl) ?_
    refine r_ixL (SqL.of h2.top) (atI_get rfl ev3) ?_
    walk_at "rd"
    refine r_setL O3.ob (j := 1) rfl (by show 1 < 3; decide) ?_
    walk_at "rd"
    exact k _ h4 ((b2.mono (h.footOf ep)).trans (b4.mono (h2.footOf ep2))) (st2.trans st4)

/-! ### regions that change -/
structure Md (S S' : Addr → Prop) (H H' : Hp) : Prop where
  but : But S H H'
  grow : ∀ a, S' a → S a ∨ H a = none
theorem Md.no {S S' : Addr → Prop} {H H' : Hp} (m : Md S S' H H') {a : Addr} {u : HO} (e : H a = some u) (n : ¬ S a) : H' a = some u ∧ ¬ S' a := by
  refine ⟨m.but.keep _ _ e n, fun z => ?_⟩
  rcases m.grow a z with q | q
  · exact n q
  · rw [e] at q; cases q
theorem Mod.md {L L' : Lay} {H H' : Hp} (m : Mod L L' H H') : Md L.foot L'.foot H H' := ⟨m.but, m.grow⟩
theorem Md.same {S : Addr → Prop} {H H' : Hp} (s : Same H H') : Md S S H H' := ⟨But.of s, fun _ z => .inl z⟩
theorem Md.of {S : Addr → Prop} {H H' : Hp} (b : But S H H') : Md S S H H' := ⟨b, fun _ z => .inl z⟩
theorem Md.trans {S S1 S2 : Addr → Prop} {H H1 H2 : Hp} (a : Md S S1 H H1) (b : Md S1 S2 H1 H2) (st : Stay H H1) : Md S S2 H H2 where
  but := a.but.mut b.but fun x z => (a.grow x z).elim .inl .inr
  grow := fun x z => (b.grow x z).elim (fun q => a.grow x q) fun q => .inr (st x q)
/-- a comprehension whose elements are new objects -/
theorem lcp_new {K : PySem.W.Frag} {te : TE} {j : Nat} {σ : L2.St} {H1 : Hp} {Q : VK} {a : Addr} {xs : List V} {zs : List HO} (hs : SqL K H1 a xs) (hl : zs.length = xs.length) (hz : xs.length ≤ 100000)
    (he : ∀ (i : Nat) (x : V) (z : HO) (H' : Hp) (W : VK), xs[i]? = some x → zs[i]? = some z → Same H1 H' → (∀ y H'', Same H' H'' → H' y = none → H'' y = some z → W (.ref y) H'') → te ((wipe σ [j]).set j (some x)) H' W)
    (k : ∀ (D : Addr) (H' : Hp) (as : List Addr), H1 D = none → Same H1 H' → H' D = some (.lst (as.map V.ref)) → as.length = zs.length → as.Nodup → (∀ b, b ∈ as → H1 b = none ∧ b ≠ D) →
      (∀ (i : Nat) b z, as[i]? = some b → zs[i]? = some z → H' b = some z) → Q (.ref D) H') : ∃ a', V.ref a = V.ref a' ∧ (∃ xs, SqL K H1 a' xs) ∧ Lcs (Itl K a') (gName j) tYes te [j] σ H1 Q := by
  refine ⟨a, rfl, ⟨xs, hs⟩, fun D hD => ?_⟩
  refine lc_list (K := K) (a := a) (xs := xs) (fun i H' => ∃ as : List Addr, as.length = i ∧ H' D = some (.lst (as.map V.ref)) ∧ as.Nodup ∧ Same H1 H' ∧ (∀ b, b ∈ as → H1 b = none ∧ b ≠ D) ∧ ∀ (j : Nat) b z, as[j]? = some b → zs[j]? = some z → H' b = some z)
    ⟨[], rfl, upd_same, List.nodup_nil, same_upd hD, fun b hb => (by cases hb), fun j b z e => by simp at e⟩ (fun i H' _ ⟨_, _, _, _, s, _⟩ => s.seq hs) ?_ ?_
  · rintro i x H' hi ⟨as, hlen, hd, nd, s, fr, hln⟩
    have hi1 : i < xs.length := (List.getElem?_eq_some_iff.mp hi).1
    have hi2 : i < zs.length := by rw [hl]; exact hi1
    have ez : zs[i]? = some zs[i] := List.getElem?_eq_getElem hi2
    refine ⟨wipe1, r_yes (r_itT ?_)⟩
    refine he i x _ H' _ hi ez s fun y H2 s2 ny h2 => ?_
    have nyD : y ≠ D := Ne.symm (ne_of_none hd ny)
    have nya : ¬ y ∈ as := fun hm => by
      obtain ⟨j', hj⟩ := List.getElem?_of_mem hm
      have hj2 : j' < as.length := (List.getElem?_eq_some_iff.mp hj).1
      have hjt : j' < zs.length := by omega
      have q := hln j' y _ hj (List.getElem?_eq_getElem hjt)
      rw [q] at ny
      cases ny
    refine ⟨_, s2 _ _ hd, ?_, as ++ [y], by simp [hlen], ?_, nodup_snoc nd nya, ?_, ?_, ?_⟩
    · refine sz5l ?_
      rw [List.length_map, hlen]
      omega
    · rw [upd_same, List.map_append]; rfl
    · exact fun b o e => by
        rw [upd_ne (ne_of_none e hD)]
        exact s2 _ _ (s _ _ e)
    · intro b hb
      rcases List.mem_append.mp hb with h | h
      · exact fr b h
      · have e : b = y := by simpa using h
        subst e
        exact ⟨Same.free s ny, nyD⟩
    · intro j' b t e1 e2
      by_cases hj : j' < as.length
      · rw [List.getElem?_append_left hj] at e1
        rw [upd_ne (fr b (List.mem_of_getElem? e1)).2]
        exact s2 _ _ (hln j' b t e1 e2)
      · have hj2 : j' = as.length := by
          have := (List.getElem?_eq_some_iff.mp e1).1
          simp at this
          omega
        subst hj2
        rw [List.getElem?_append_right (Nat.le_refl _), Nat.sub_self] at e1
        cases e1
        rw [hlen, ez] at e2
        cases e2
        rw [upd_ne nyD]
        exact h2
  · rintro H' ⟨as, hlen, hd, nd, s, fr, hln⟩
    exact k D H' as hD s hd (by omega) nd fr hln
/-! ### a new order in the account -/
def AL.add (A : AL) (p : AO) : AL := ⟨A.ords ++ [p], fun a => if a = p.o then .o A.ords.length else if a = p.ll then .ll A.ords.length else if a = p.rw then .rw A.ords.length else if a ∈ p.las then .ln A.ords.length (p.las.idxOf a) else A.own a⟩
theorem idx_nd : ∀ {xs : List Addr} {i : Nat} {a : Addr}, xs.Nodup → xs[i]? = some a → xs.idxOf a = i
  | [], _, _, _, e => by simp at e
  | x :: xs, 0, a, _, e => by
    cases e
    simp [List.idxOf_cons]
  | x :: xs, i + 1, a, nd, e => by
    have e' : xs[i]? = some a := by simpa using e
    have n := (List.nodup_cons.mp nd)
    have ne : ¬ x = a := fun z => n.1 (by rw [z]; exact List.mem_of_getElem? e')
    have ih := idx_nd n.2 e'
    have nb : (x == a) = false := by simpa using ne
    simp [List.idxOf_cons, nb, ih]
theorem AL.add_own {A : AL} {p : AO} (d1 : p.ll ≠ p.o) (d2 : p.rw ≠ p.o) (d3 : p.rw ≠ p.ll) (nd : p.las.Nodup) (n : ∀ x, x ∈ p.las → x ≠ p.o ∧ x ≠ p.ll ∧ x ≠ p.rw) : AoOwn (A.add p) A.ords.length p where
  o := by simp [AL.add]
  ll := by simp [AL.add, d1]
  rw := by simp [AL.add, d2, d3]
  ln := fun i a e => by
    have m := List.mem_of_getElem? e
    obtain ⟨n1, n2, n3⟩ := n a m
    simp only [AL.add, if_neg n1, if_neg n2, if_neg n3, if_pos m, idx_nd nd e]
theorem AccAt.add {H H2 : Hp} {a : Addr} {os : List Od} {A : AL} {p : AO} {o : Od} (h : AccAt H a os A) (hx : ∀ x, p.foot x → H x = none) (R : AoOwn (A.add p) A.ords.length p) (O : AoAt H2 p o) (s : Same H H2) :
    AccAt (upd H2 a (.lst ((A.ords ++ [p]).map fun p => V.ref p.o))) a (os ++ [o]) (A.add p) ∧ Md A.foot (A.add p).foot H (upd H2 a (.lst ((A.ords ++ [p]).map fun p => V.ref p.o))) := by
  have top2 := s _ _ h.top
  have bt2 : But (· = a) H2 (upd H2 a (.lst ((A.ords ++ [p]).map fun p => V.ref p.o))) := But.lst top2 rfl
  have bt : But (· = a) H (upd H2 a (.lst ((A.ords ++ [p]).map fun p => V.ref p.o))) := (But.of s).trans bt2
  have out : ∀ x, ¬ p.foot x → (A.add p).own x = A.own x := fun x f => by
    simp only [AL.add]
    rw [if_neg (fun z => f (.inl z)), if_neg (fun z => f (.inr (.inl z))), if_neg (fun z => f (.inr (.inr (.inl z)))), if_neg (fun z => f (.inr (.inr (.inr z))))]
  have old : ∀ x, A.own x ≠ .no → ¬ p.foot x := fun x z f => by
    obtain ⟨u, q⟩ := h.dom x z
    rw [hx x f] at q
    cases q
  have fe : ∀ x, p.foot x → ¬ x = a := fun x f z => by
    have q := h.top
    rw [← z, hx x f] at q
    cases q
  have z1 : ∀ {r : ARole} {x : Addr}, A.own x = r → r ≠ .no → (A.add p).own x = r := fun {r x} e n => by
    rw [out x (old x (by rw [e]; exact n)), e]
  refine ⟨⟨upd_same, z1 h.rt (by intro q; cases q), by simp [AL.add, h.len], fun j q u e1 e2 => ?_, fun j q e1 => ?_, fun x z => ?_⟩, ⟨bt.mono fun x y => ?_, fun x z => ?_⟩⟩
  · by_cases hj : j < A.ords.length
    · have e1' : (A.ords ++ [p])[j]? = some q := e1
      rw [List.getElem?_append_left hj] at e1'
      rw [List.getElem?_append_left (by rw [← h.len]; exact hj)] at e2
      refine (h.od j q u e1' e2).keep bt fun x f z => ?_
      have q1 := (h.ro j q e1').foot f
      have z' : x = a := z
      rw [z', h.rt] at q1
      exact ARole.of_top q1
    · have e1' : (A.ords ++ [p])[j]? = some q := e1
      have hj2 : j = A.ords.length := by
        have := (List.getElem?_eq_some_iff.mp e1').1
        simp at this
        omega
      subst hj2
      rw [List.getElem?_append_right (Nat.le_refl _), Nat.sub_self] at e1'
      cases e1'
      rw [h.len, List.getElem?_append_right (Nat.le_refl _), Nat.sub_self] at e2
      cases e2
      exact O.keep bt2 fun x f z => fe x f z
  · by_cases hj : j < A.ords.length
    · have e1' : (A.ords ++ [p])[j]? = some q := e1
      rw [List.getElem?_append_left hj] at e1'
      have R' := h.ro j q e1'
      exact ⟨z1 R'.o (by intro q; cases q), z1 R'.ll (by intro q; cases q), z1 R'.rw (by intro q; cases q), fun i x e => z1 (R'.ln i x e) (by intro q; cases q)⟩
    · have e1' : (A.ords ++ [p])[j]? = some q := e1
      have hj2 : j = A.ords.length := by
        have := (List.getElem?_eq_some_iff.mp e1').1
        simp at this
        omega
      subst hj2
      rw [List.getElem?_append_right (Nat.le_refl _), Nat.sub_self] at e1'
      cases e1'
      exact R
  · by_cases f : p.foot x
    · obtain ⟨u, q⟩ := O.dom x f
      exact ⟨u, bt2.keep _ _ q (fe x f)⟩
    · rw [out x f] at z
      by_cases y : x = a
      · exact ⟨_, by rw [y]; exact upd_same⟩
      · obtain ⟨u, q⟩ := h.dom x z
        exact ⟨u, bt.keep _ _ q y⟩
  · have y' : x = a := y
    show A.own x ≠ .no
    rw [y', h.rt]
    intro q
    cases q
  · by_cases f : p.foot x
    · exact .inr (hx x f)
    · have z' : (A.add p).own x ≠ .no := z
      rw [out x f] at z'
      exact .inl z'
/-! ### a step of the account -/
def word : Dd → Str
  | .ord _ => "order"
  | .ln w _ _ _ => w
  | .mo w _ _ => w
  | .mv _ _ _ => "move"
def places : Dd → List Int
  | .ord _ => []
  | .ln _ o _ _ => [o]
  | .mo _ o _ => [o]
  | .mv o p _ => [o, p]
theorem dd_form {F : Addr → Prop} {H : Hp} {v : V} {d : Dd} (g : d.good) (h : DdAt F H v d) (no : ∀ ls, d ≠ .ord ls) : ∃ t o1 r, v = .ref t ∧ H t = some (.tup (.str (word d) :: .int o1 :: r)) ∧ ¬ word d = "order" ∧
    ((word d = "move" ∧ ∃ o2 r', r = .int o2 :: r' ∧ places d = [o1, o2]) ∨ (¬ word d = "move" ∧ places d = [o1])) := by
  cases d with
  | ord ls => exact absurd rfl (no ls)
  | ln w o l n =>
    obtain ⟨t, e, q⟩ := h
    exact ⟨t, o, _, e, q, (gln g).1, .inr ⟨(gln g).2.1, rfl⟩⟩
  | mo w o n =>
    obtain ⟨t, e, q⟩ := h
    exact ⟨t, o, _, e, q, (gmo g).1, .inr ⟨(gmo g).2, rfl⟩⟩
  | mv o p n =>
    obtain ⟨t, e, q⟩ := h
    exact ⟨t, o, _, e, q, by show ¬ ("move" : Str) = "order"; decide +kernel, .inl ⟨rfl, p, _, rfl, rfl⟩⟩
def owAt (os : List Od) (n : Int) : Int := match at_ os n with
  | none => 0
  | some (_, o) => o.owing
def mark1 (w : Str) (os : List Od) (c : Int × Int) : List Od := match at_ os c.1 with
  | none => os
  | some (j, o) => os.set j (o.mark w c.2)
def markAll (os : List Od) (w : Str) (cs : List (Int × Int)) : List Od := cs.foldl (mark1 w) os
theorem mark_snoc {os : List Od} {w : Str} {cs : List (Int × Int)} {i : Nat} {c : Int × Int} (h : cs[i]? = some c) : markAll os w (cs.take (i + 1)) = mark1 w (markAll os w (cs.take i)) c := by
  unfold markAll
  rw [take_snoc h, List.foldl_append]
  rfl
theorem mark1_len {w : Str} {os : List Od} {c : Int × Int} : (mark1 w os c).length = os.length := by
  unfold mark1
  split <;> simp
theorem markAll_len {w : Str} : ∀ {cs : List (Int × Int)} {os : List Od}, (markAll os w cs).length = os.length
  | [], _ => rfl
  | c :: cs, os => by
    show (markAll (mark1 w os c) w cs).length = _
    rw [markAll_len, mark1_len]
theorem set_same {α : Type} {xs : List α} {j : Nat} {x : α} (h : xs[j]? = some x) : xs.set j x = xs := by
  apply List.ext_getElem?
  intro i
  by_cases e : j = i
  · subst e
    rw [List.getElem?_set_self (List.getElem?_eq_some_iff.mp h).1, h]
  · rw [List.getElem?_set_ne e]
/-- a deed that is done: its turn, and the rows behind it -/
theorem step_turn {os es : List Od} {cs : List (Int × Int)} {d : Dd} (no : ∀ ls, d ≠ .ord ls) (e : step os d = .ok (es, cs)) : ∃ os1, turnOf os d = some os1 ∧ os1.length = os.length ∧ cs = (places d).map (fun p => (p, owAt os1 p - owAt os p)) ∧
    es = markAll os1 (word d) cs ∧ ∀ p, p ∈ places d → ∃ j : Nat, p = (j : Int) ∧ j < os.length := by
  cases d with
  | ord ls => exact absurd rfl (no ls)
  | ln w o l n =>
    have e' : stepLn os w o l n = .ok (es, cs) := e
    unfold stepLn at e'
    unfold turnOf
    dsimp only
    rcases at_or os o with ⟨q, _⟩ | ⟨j, od, rfl, eo, q⟩
    · rw [q] at e'; cases e'
    rw [q] at e' ⊢
    dsimp only at e' ⊢
    rcases at_or od.lines l with ⟨q2, _⟩ | ⟨i, x, rfl, el, q2⟩
    · rw [q2] at e'; cases e'
    rw [q2] at e' ⊢
    dsimp only at e' ⊢
    split at e'
    · cases e'
    cases et : x.turn w n with
    | none => rw [et] at e'; cases e'
    | some x' =>
    rw [et] at e'
    cases e'
    have hj := (List.getElem?_eq_some_iff.mp eo).1
    have es1 : (os.set j { od with lines := od.lines.set i x' })[j]? = some { od with lines := od.lines.set i x' } := List.getElem?_set_self hj
    refine ⟨_, rfl, by simp, ?_, ?_, fun p hp => ⟨j, by simpa [places] using hp, hj⟩⟩
    · simp only [places, List.map_cons, List.map_nil]
      unfold owAt
      rw [at_some es1, q]
    · unfold markAll mark1
      simp only [List.foldl_cons, List.foldl_nil]
      rw [at_some es1]
      simp only [List.set_set]
      rfl
  | mo w o n =>
    have e' : stepMo os w o n = .ok (es, cs) := e
    unfold stepMo at e'
    unfold turnOf
    dsimp only
    rcases at_or os o with ⟨q, _⟩ | ⟨j, od, rfl, eo, q⟩
    · rw [q] at e'; cases e'
    rw [q] at e' ⊢
    dsimp only at e' ⊢
    split at e'
    · cases e'
    have hj := (List.getElem?_eq_some_iff.mp eo).1
    have key : ∀ x : Od, es = os.set j (x.mark w (x.owing - od.owing)) → cs = [((j : Int), x.owing - od.owing)] → cs = (places (.mo w j n)).map (fun p => (p, owAt (os.set j x) p - owAt os p)) ∧ es = markAll (os.set j x) (word (.mo w j n)) cs := fun x h1 h2 => by
      have es1 : (os.set j x)[j]? = some x := List.getElem?_set_self hj
      subst h1 h2
      refine ⟨?_, ?_⟩
      · simp only [places, List.map_cons, List.map_nil]
        unfold owAt
        rw [at_some es1, q]
      · unfold markAll mark1
        simp only [List.foldl_cons, List.foldl_nil]
        rw [at_some es1]
        simp only [List.set_set]
        rfl
    by_cases c : w = "pay"
    · rw [if_pos c] at e' ⊢
      cases e'
      obtain ⟨k1, k2⟩ := key (od.pay n) rfl rfl
      exact ⟨_, rfl, by simp, k1, k2, fun p hp => ⟨j, by simpa [places] using hp, hj⟩⟩
    · rw [if_neg c] at e' ⊢
      split at e'
      · cases e'
      cases e'
      obtain ⟨k1, k2⟩ := key (od.pay (-n)) rfl rfl
      exact ⟨_, rfl, by simp, k1, k2, fun p hp => ⟨j, by simpa [places] using hp, hj⟩⟩
  | mv o o2 n =>
    have e' : stepMv os o o2 n = .ok (es, cs) := e
    unfold stepMv at e'
    unfold turnOf
    dsimp only
    rcases at_or os o with ⟨q, _⟩ | ⟨i, a, rfl, eo, q⟩
    · rw [q] at e'; cases e'
    rw [q] at e' ⊢
    dsimp only at e' ⊢
    rcases at_or os o2 with ⟨q2, _⟩ | ⟨j, b, rfl, eo2, q2⟩
    · rw [q2] at e'; cases e'
    rw [q2] at e' ⊢
    dsimp only at e' ⊢
    split at e'
    · cases e'
    rename_i nij
    have ij : ¬ i = j := fun z => nij (by rw [z])
    rw [if_neg ij]
    split at e'
    · cases e'
    split at e'
    · cases e'
    cases e'
    have hi := (List.getElem?_eq_some_iff.mp eo).1
    have hj := (List.getElem?_eq_some_iff.mp eo2).1
    have e1 : ((os.set i (a.pay (-n))).set j (b.pay n))[i]? = some (a.pay (-n)) := by
      rw [List.getElem?_set_ne (Ne.symm ij), List.getElem?_set_self hi]
    have e2 : ((os.set i (a.pay (-n))).set j (b.pay n))[j]? = some (b.pay n) := List.getElem?_set_self (by simpa using hj)
    refine ⟨_, rfl, by simp, ?_, ?_, fun p hp => ?_⟩
    · simp only [places, List.map_cons, List.map_nil]
      unfold owAt
      rw [at_some e1, at_some e2, q, q2]
    · unfold markAll mark1
      simp only [List.foldl_cons, List.foldl_nil]
      rw [at_some e1]
      dsimp only
      have e3 : (((os.set i (a.pay (-n))).set j (b.pay n)).set i ((a.pay (-n)).mark (word (.mv i j n)) ((a.pay (-n)).owing - a.owing)))[j]? = some (b.pay n) := by
        rw [List.getElem?_set_ne ij]
        exact e2
      rw [at_some e3]
      dsimp only
      have c1 : ∀ A A' B : Od, ((os.set i A).set j B).set i A' = (os.set i A').set j B := fun A A' B => by
        rw [List.set_comm _ _ (Ne.symm ij), List.set_set]
      rw [c1, List.set_set]
      rfl
    · have hp' : p = (i : Int) ∨ p = (j : Int) := by simpa [places] using hp
      rcases hp' with rfl | rfl
      · exact ⟨i, rfl, hi⟩
      · exact ⟨j, rfl, hj⟩
theorem turn_item {w : Str} {l l' : Ln} {n : Int} (e : l.turn w n = some l') : l'.item = l.item := by
  unfold Ln.turn Ln.deliver Ln.reduce Ln.bring Ln.cut at e
  repeat' split at e
  all_goals first
    | (cases e; rfl)
    | cases e
theorem Od.strs.line {o : Od} {i : Nat} {l l' : Ln} {w : Str} {n : Int} (h : o.strs) (el : o.lines[i]? = some l) (e : l.turn w n = some l') : Od.strs { o with lines := o.lines.set i l' } := by
  refine ⟨fun x hx => ?_, h.2⟩
  have hx' : x ∈ o.lines.set i l' := hx
  rcases List.mem_or_eq_of_mem_set hx' with z | z
  · exact h.1 x z
  · rw [z, turn_item e]
    exact h.1 l (List.mem_of_getElem? el)
theorem turn_okk {os os1 : List Od} {d : Dd} (ok : OsOk os) (g : d.good) (e : turnOf os d = some os1) : OsOk os1 := by
  have set1 : ∀ {xs : List Od} {j : Nat} {x : Od}, OsOk xs → x.ok ∧ 1 ≤ x.lines.length ∧ x.strs → OsOk (xs.set j x) := fun {xs j x} h hx => ⟨by simpa using h.1, fun o ho => by
    rcases List.mem_or_eq_of_mem_set ho with z | z
    · exact h.2 o z
    · rw [z]; exact hx⟩
  cases d with
  | ord ls => cases e
  | ln w o l n =>
    unfold turnOf at e
    dsimp only at e
    rcases at_or os o with ⟨q, _⟩ | ⟨j, od, rfl, eo, q⟩
    · rw [q] at e; cases e
    rw [q] at e
    dsimp only at e
    rcases at_or od.lines l with ⟨q2, _⟩ | ⟨i, x, rfl, el, q2⟩
    · rw [q2] at e; cases e
    rw [q2] at e
    dsimp only at e
    cases et : x.turn w n with
    | none => rw [et] at e; cases e
    | some x' =>
    rw [et] at e
    cases e
    have oo := ok.2 od (List.mem_of_getElem? eo)
    exact set1 ok ⟨oo.1.line el et, by simpa using oo.2.1, oo.2.2.line el et⟩
  | mo w o n =>
    unfold turnOf at e
    dsimp only at e
    rcases at_or os o with ⟨q, _⟩ | ⟨j, od, rfl, eo, q⟩
    · rw [q] at e; cases e
    rw [q] at e
    cases e
    have oo := ok.2 od (List.mem_of_getElem? eo)
    exact set1 ok ⟨oo.1.pay, oo.2⟩
  | mv o o2 n =>
    unfold turnOf at e
    dsimp only at e
    rcases at_or os o with ⟨q, _⟩ | ⟨i, a, rfl, eo, q⟩
    · rw [q] at e; cases e
    rw [q] at e
    dsimp only at e
    rcases at_or os o2 with ⟨q2, _⟩ | ⟨j, b, rfl, eo2, q2⟩
    · rw [q2] at e; cases e
    rw [q2] at e
    dsimp only at e
    split at e
    · cases e
    cases e
    have oa := ok.2 a (List.mem_of_getElem? eo)
    have ob := ok.2 b (List.mem_of_getElem? eo2)
    exact set1 (set1 ok ⟨oa.1.pay, oa.2⟩) ⟨ob.1.pay, ob.2⟩

theorem word_str {d : Dd} (g : d.good) : PyData.strOk (word d) = true := by
  cases d with
  | ord ls => show PyData.strOk "order" = true; decide +kernel
  | ln w o l n => rcases g with rfl | rfl | rfl | rfl <;> (simp only [word]; decide +kernel)
  | mo w o n => rcases g with rfl | rfl <;> (simp only [word]; decide +kernel)
  | mv o p n => show PyData.strOk "move" = true; decide +kernel
theorem mark_okk {w : Str} (hw : PyData.strOk w = true) : ∀ {cs : List (Int × Int)} {os : List Od}, OsOk os → OsOk (markAll os w cs)
  | [], _, h => h
  | c :: cs, os, h => by
    show OsOk (markAll (mark1 w os c) w cs)
    refine mark_okk hw ?_
    unfold mark1
    rcases at_or os c.1 with ⟨q, _⟩ | ⟨j, o, q0, eo, q⟩
    · rw [q]; exact h
    · rw [q]
      dsimp only
      refine ⟨by simpa using h.1, fun x hx => ?_⟩
      rcases List.mem_or_eq_of_mem_set hx with z | z
      · exact h.2 x z
      · have oo := h.2 o (List.mem_of_getElem? eo)
        rw [z]
        refine ⟨oo.1.mark, oo.2.1, oo.2.2.1, fun m hm => ?_⟩
        have hm' : m ∈ o.marks ++ [(w, c.2)] := hm
        rcases List.mem_append.mp hm' with y | y
        · exact oo.2.2.2 m y
        · have e : m = (w, c.2) := by simpa using y
          rw [e]; exact hw
theorem step_okk {os es : List Od} {cs : List (Int × Int)} {d : Dd} (h : OsOk os) (g : d.good) (gd : ∀ ls, d = .ord ls → Good ls) (l : os.length < 100) (e : step os d = .ok (es, cs)) : OsOk es := by
  by_cases no : ∃ ls, d = .ord ls
  · obtain ⟨ls, rfl⟩ := no
    have G := gd ls rfl
    have e' : stepOrd os ls = .ok (es, cs) := e
    unfold stepOrd at e'
    split at e'
    · cases e'
    cases e'
    refine ⟨by simp; omega, fun o ho => ?_⟩
    rcases List.mem_append.mp ho with z | z
    · exact h.2 o z
    · have eo : o = ⟨ls.map Lt.ln, 0, []⟩ := by simpa using z
      subst eo
      refine ⟨⟨fun x hx => ?_, by simpa using G.1.2⟩, by simpa using G.1.1, fun x hx => ?_, fun m hm => by cases hm⟩
      · obtain ⟨t, ht, rfl⟩ := List.mem_map.mp hx
        have q := (G.2 t ht).2
        exact ⟨q.2.1, q.2.2⟩
      · obtain ⟨t, ht, rfl⟩ := List.mem_map.mp hx
        exact (G.2 t ht).1
  · obtain ⟨os1, tq, _, _, ees, _⟩ := step_turn (fun ls e => no ⟨ls, e⟩) e
    rw [ees]
    exact mark_okk (word_str g) (turn_okk h g tq)
theorem step_len {os es : List Od} {cs : List (Int × Int)} {d : Dd} (e : step os d = .ok (es, cs)) : es.length ≤ os.length + 1 ∧ ((∀ ls, d ≠ .ord ls) → es.length = os.length) ∧ ((∃ ls, d = .ord ls) → es.length = os.length + 1) := by
  by_cases no : ∃ ls, d = .ord ls
  · obtain ⟨ls, rfl⟩ := no
    have e' : stepOrd os ls = .ok (es, cs) := e
    unfold stepOrd at e'
    split at e'
    · cases e'
    cases e'
    exact ⟨by simp, fun z => absurd rfl (z ls), fun _ => by simp⟩
  · obtain ⟨os1, tq, l1, _, ees, _⟩ := step_turn (fun ls e => no ⟨ls, e⟩) e
    have : es.length = os.length := by rw [ees, markAll_len, l1]
    exact ⟨by omega, fun _ => this, fun z => absurd z no⟩

/-! ### the law's step -/
def spLStep (_ : PySem.W.Frag) : Sp := fun vs H Q _ => ∃ (F : Addr → Prop) (v : V) (d : Dd) (a : Addr) (os es : List Od) (cs : List (Int × Int)) (A : AL), vs = [v, .ref a] ∧ DdAt F H v d ∧ d.good ∧ (∀ ls, d = .ord ls → ls.length ≤ 100000) ∧ AccAt H a os A ∧ OsOk os ∧
  (∀ o, o ∈ es → o.marks.length < 100000) ∧ step os d = .ok (es, cs) ∧ ∀ r A' H', AccAt H' a es A' → Md A.foot A'.foot H H' → Stay H H' → H r = none → A'.own r = .no → ChAt H' r cs → Q (.ref r) H'
theorem len_LStep {K : PySem.W.Frag} {vs : List V} {H : Hp} {Q : VK} {E : XK} (h : spLStep K vs H Q E) : vs.length = 2 := by
  obtain ⟨_, _, _, _, _, _, _, _, rfl, _⟩ := h; rfl
theorem AccAt.byn {H : Hp} {a : Addr} {os : List Od} {A : AL} (h : AccAt H a os A) {x : Addr} (e : A.own x = .no) : x ≠ a := fun z => by
  rw [z, h.rt] at e; cases e
theorem ok_LStep {P : Program} {w : World} {K : PySem.W.Frag} {mg : Str → Option Value} {base : Heap} (T : Tx w K mg) : FnOk P w K mg base CX0 3 (He.fAd K dLStep.at_) (fdO K dLStep.at_) P_LStep (spLStep K) := by
  refine T.f_LStep.ok sc_LStep (fun vs H Q E h => len_LStep h) (fun cdv A outer s H vs Q E hr h => ⟨_, PSs.nox ((pss_cons (ps_if (pt_cmpR op_eq (pe_ix ix_tup (pv 0) pe_int (fun _ _ => rfl)) pe_str (nomark _)) (pss_cons (ps_expr (pe_bm PySem.F.plainAttrs_list PySem.F.slot_list_append PySem.F.type_list_append mt_append (pv 1) (pa_cons (pe_lst (pa_cons (pe_lc (own := [("_law_line", 2)]) (g := gName 2) (tt := tYes) rfl sc_LStep.nd (pi_list (pe_ix ix_tup (pv 0) pe_int (fun _ _ => rfl))) (blkOk_by (N := N_LStep) (sc := defScope sLStep) (by decide +kernel)) (fun _ _ _ _ _ => pg_name (i := 2) sc_LStep.nd rfl (Or.inl rfl)) (fun _ _ _ _ _ => pts_nil) (fun _ _ _ _ _ => (pe_op op_cat (pe_callTy (call_listK (K := K) rfl) (by rfl) T.b_list (by decide +kernel) (pa_cons (pv 2) pa_nil)) (pe_lst (pa_cons pe_int (pa_cons pe_int (pa_cons pe_int (pa_cons pe_int pa_nil)))))))) (pa_cons pe_int (pa_cons (pe_lst pa_nil) pa_nil)))) pa_nil)))
      (pss_one (ps_ret (pe_lst pa_nil)))) pss_nil)
      (pss_cons (ps_set (i := 3) sc_LStep.nd rfl (Or.inl rfl) (pe_lst (pa_cons (pe_ix ix_tup (pv 0) pe_int (fun _ _ => rfl)) pa_nil)))
      (pss_cons (ps_if (pt_cmpR op_eq (pe_ix ix_tup (pv 0) pe_int (fun _ _ => rfl)) pe_str (nomark _)) (pss_one (ps_set (i := 3) sc_LStep.nd rfl (Or.inl rfl) (pe_lst (pa_cons (pe_ix ix_tup (pv 0) pe_int (fun _ _ => rfl)) (pa_cons (pe_ix ix_tup (pv 0) pe_int (fun _ _ => rfl)) pa_nil))))) pss_nil)
      (pss_cons (ps_set (i := 5) sc_LStep.nd rfl (Or.inr rfl) (pe_lc (own := [("_law_order", 4)]) (g := gName 4) (tt := tYes) rfl sc_LStep.nd (pi_list (pv 1)) (blkOk_by (N := N_LStep) (sc := defScope sLStep) (by decide +kernel)) (fun _ _ _ _ _ => pg_name (i := 4) sc_LStep.nd rfl (Or.inl rfl)) (fun _ _ _ _ _ => pts_nil) (fun _ _ _ _ _ => (pe_call (ok_LOwedBy T) (hr.mono (by decide)) rfl T.g_LOwedBy T.f_LOwedBy.kp T.b_LOwedBy .nil pass0 (pa_cons (pv 4) pa_nil)))))
      (pss_cons (ps_expr (pe_call (ok_LTurned T) (hr.mono (by decide)) rfl T.g_LTurned T.f_LTurned.kp T.b_LTurned .nil pass0 (pa_cons (pv 0) (pa_cons (pv 1) pa_nil))))
      (pss_cons (ps_setLc (i := 7) (own := [("_law_at", 6)]) (g := gName 6) (tt := tYes) rfl sc_LStep.nd rfl rfl (sw_true rfl rfl rfl (by decide +kernel)) (pi_list (pv 3)) (blkOk_by (N := N_LStep) (sc := defScope sLStep) (by decide +kernel)) (fun _ _ _ _ _ => pg_name (i := 6) sc_LStep.nd rfl (Or.inl rfl)) (fun _ _ _ _ _ => pts_nil) (fun _ _ _ _ _ => (pe_tup (pa_cons (pv 6) (pa_cons (pe_op op_sub (pe_call (ok_LOwedBy T) (hr.mono (by decide)) rfl T.g_LOwedBy T.f_LOwedBy.kp T.b_LOwedBy .nil pass0 (pa_cons (pe_ix (ix_listK (K := K) rfl) (pv 1) (pv 6) (fun _ _ => rfl)) pa_nil)) (pe_ix (ix_listK (K := K) rfl) (pv 5) (pv 6) (fun _ _ => rfl))) pa_nil)))))
      (pss_cons (ps_for PassesOwn.never rfl (pi_list (pv 7)) (pg_name (i := 8) sc_LStep.nd rfl (Or.inl rfl)) (pss_one (ps_expr (pe_bm PySem.F.plainAttrs_list PySem.F.slot_list_append PySem.F.type_list_append mt_append (pe_ix ix_list (pe_ix ix_list (pv 1) (pe_ix ix_tup (pv 8) pe_int (fun _ _ => rfl)) (fun _ _ => rfl)) pe_int (fun _ _ => rfl)) (pa_cons (pe_tup (pa_cons (pe_ix ix_tup (pv 0) pe_int (fun _ _ => rfl)) (pa_cons (pe_ix ix_tup (pv 8) pe_int (fun _ _ => rfl)) pa_nil))) pa_nil)))))
      (pss_one (ps_ret (pv 7))))))))))), ?_⟩)
  obtain ⟨F, v, d, a, os, es, cs, A, rfl, hd, g, few, h, ok, mks, st, k⟩ := h
  by_cases no : ∃ ls, d = .ord ls
  · obtain ⟨ls, rfl⟩ := no
    obtain ⟨t, l, xs, rfl, ht, hl, _, pt⟩ := hd
    have e0 : stepOrd os ls = .ok (es, cs) := st
    unfold stepOrd at e0
    have few' := few ls rfl
    split at e0
    · cases e0
    cases e0
    walk_at "rd"
    refine r_ixT (SqT.of ht) (atI_get (j := 0) rfl rfl) ?_
    walk_at "rd"
    refine r_ity rfl ?_
    walk_at "rd"
    refine r_tyL (SqL.of h.top) ?_
    walk_at "rd"
    refine r_ixT (SqT.of ht) (atI_get (j := 1) rfl rfl) ?_
    refine lcp_new (zs := ls.map fun t => HO.lst (lnL t.ln)) (SqL.of hl) (by simp [pt.length]) (by rw [pt.length]; exact few') ?_ ?_
    · intro i x z H' W ex ez s q
      obtain ⟨u, eu, tt, rfl, htt⟩ := Paired.get_ex pt ex
      rw [List.getElem?_map, eu] at ez
      cases ez
      walk_at "rd"
      refine ⟨tt, _, rfl, .inr (SqT.of (s _ _ htt)), fun l1 hl1 => ?_⟩
      walk_at "rd"
      refine r_mk (by simp) fun l2 hl2 => ?_
      refine ⟨l1, l2, _, _, rfl, rfl, by rw [upd_ne (ne_of_none upd_same hl2)]; exact upd_same, upd_same, by show 4 + 4 ≤ sizeLine; rw [sizeLine_eq]; decide, fun p hp => ?_⟩
      refine q p _ (((same_upd hl1).trans (same_upd hl2)).trans (same_upd hp)) (upd_none (upd_none hp).2).2 upd_same
    · intro D H1 as hD s1 eD hlen nd fr hln
      walk_at "rd"
      refine r_mk (by simp) fun M hM => ?_
      walk_at "rd"
      refine r_mk (by simp) fun p hp => ?_
      obtain ⟨pM, hp1⟩ := upd_none hp
      have s2 := same_upd (o := .lst []) hM
      have s3 := same_upd (o := .lst [.ref D, .int 0, .ref M]) hp
      have s : Same H (upd (upd H1 M (.lst [])) p (.lst [.ref D, .int 0, .ref M])) := (s1.trans s2).trans s3
      have nM : H M = none := Same.free s1 hM
      have np : H p = none := Same.free s1 hp1
      have DM : D ≠ M := ne_of_none eD hM
      have Dp' : D ≠ p := ne_of_none eD hp1
      have asx : ∀ x, x ∈ as → H x = none ∧ x ≠ D ∧ x ≠ M ∧ x ≠ p := fun x hx => by
        obtain ⟨j, hj⟩ := List.getElem?_of_mem hx
        have hj2 : j < (ls.map fun t => HO.lst (lnL t.ln)).length := by rw [← hlen]; exact (List.getElem?_eq_some_iff.mp hj).1
        have q := hln j x _ hj (List.getElem?_eq_getElem hj2)
        exact ⟨(fr x hx).1, (fr x hx).2, ne_of_none q hM, ne_of_none q hp1⟩
      have hlen2 : as.length = ls.length := by simpa using hlen
      have R : AoOwn (A.add ⟨p, D, M, as⟩) A.ords.length ⟨p, D, M, as⟩ := AL.add_own Dp' (Ne.symm pM) (Ne.symm DM) nd fun x hx => ⟨(asx x hx).2.2.2, (asx x hx).2.1, (asx x hx).2.2.1⟩
      have O : AoAt (upd (upd H1 M (.lst [])) p (.lst [.ref D, .int 0, .ref M])) ⟨p, D, M, as⟩ ⟨ls.map Lt.ln, 0, []⟩ := ⟨upd_same, s3 _ _ (s2 _ _ eD), (by simp [hlen2]), fun i x l e1 e2 => by
        have e2' : (ls.map Lt.ln)[i]? = some l := e2
        rw [List.getElem?_map] at e2'
        cases et : ls[i]? with
        | none => rw [et] at e2'; cases e2'
        | some u =>
          rw [et] at e2'
          cases e2'
          exact s3 _ _ (s2 _ _ (hln i x _ e1 (by rw [List.getElem?_map, et]; rfl))), ⟨[], s3 _ _ upd_same, .nil⟩⟩
      have hx : ∀ x, AO.foot ⟨p, D, M, as⟩ x → H x = none := fun x f => by
        rcases f with f | f | f | f
        · rw [f]; exact np
        · rw [f]; exact hD
        · rw [f]; exact nM
        · exact (asx x f).1
      obtain ⟨BA, MA⟩ := h.add hx R O s
      have e3 : (A.ords ++ [(⟨p, D, M, as⟩ : AO)]).map (fun p => V.ref p.o) = A.ords.map (fun p => V.ref p.o) ++ [V.ref p] := by
        rw [List.map_append]; rfl
      rw [e3] at BA MA
      walk_at "rd"
      refine r_app (s _ _ h.top) (by rw [List.length_map, h.len]; have := ok.1; refine sz5l ?_; omega) ?_
      walk_at "rd"
      refine r_mk (by simp) fun r hr => ?_
      obtain ⟨ra, hr2⟩ := upd_none hr
      have nr : H r = none := Same.free s hr2
      refine k r (A.add ⟨p, D, M, as⟩) _ (BA.same (same_upd hr)) ⟨MA.but.trans (But.of (same_upd hr)), MA.grow⟩ (fun x e => ?_) nr (BA.fresh hr) ⟨[], upd_same, .nil⟩
      exact Same.free s (upd_none (upd_none e).2).2
  · have no' : ∀ ls, d ≠ .ord ls := fun ls e => no ⟨ls, e⟩
    obtain ⟨os1, tq, len1, ecs, ees, inr⟩ := step_turn no' st
    obtain ⟨t, o1, r0, rfl, ht, nord, shape⟩ := dd_form g hd no'
    have ok1 := turn_okk ok g tq
    walk_at "rs"
    walk_at "rd1"
    walk_at "rs"
    refine r_ixT (SqT.of ht) (atI_get (j := 0) rfl rfl) ?_
    walk_at "rs"
    refine r_itz nord ?_
    walk_at "rd"
    refine r_ixT (SqT.of ht) (atI_get (j := 1) rfl rfl) ?_
    walk_at "rs"
    refine r_mk (by simp) fun pl hpl => ?_
    have s0 := same_upd (o := .lst [.int o1]) hpl
    have epl : upd H pl (.lst [.int o1]) pl = some (.lst [.int o1]) := upd_same
    walk_at "rs"
    with_reducible refine r_join (fun σ' H' => Same H H' ∧ ∃ pl, H pl = none ∧ H' pl = some (.lst ((places d).map V.int)) ∧ σ' = [some (.ref t), some (.ref a), none, some (.ref pl), none, none, none, none, none]) ?_ fun N hN => ?_
    rotate_left
    · walk_at "rd"
      refine r_ixT (SqT.of (s0 _ _ ht)) (atI_get (j := 0) rfl rfl) ?_
      walk_at "rd"
      rcases shape with ⟨c, o2, r', rfl, ep⟩ | ⟨c, ep⟩
      · refine r_ity c ?_
        walk_at "rd"
        refine r_ixT (SqT.of (s0 _ _ ht)) (atI_get (j := 1) rfl rfl) ?_
        walk_at "rd"
        refine r_ixT (SqT.of (s0 _ _ ht)) (atI_get (j := 2) rfl rfl) ?_
        walk_at "rd"
        refine r_mk (by simp) fun pl2 hpl2 => ?_
        walk_at "rd"
        exact hN _ _ ⟨s0.trans (same_upd hpl2), pl2, (upd_none hpl2).2, by rw [ep]; exact upd_same, rfl⟩
      · refine r_itz c ?_
        walk_at "rd"
        exact hN _ _ ⟨s0, pl, hpl, by rw [ep]; exact epl, rfl⟩
    rintro σ' H1 ⟨s1, pl, npl, epl, rfl⟩
    have h1 := h.same s1
    walk_at "rd1"
    walk_at "rs"
    refine lcp_list (ys := os.map fun o => V.int o.owing) (SqL.of h1.top) (by simp [h.len]) (by have := ok.1; simp [h.len]; omega) ?_ ?_
    · intro i x y H' R ex ey s q
      rw [List.getElem?_map] at ex ey
      cases eo : os[i]? with
      | none => rw [eo] at ey; cases ey
      | some o =>
        rw [eo] at ey
        cases ey
        obtain ⟨p, ep, O, ev⟩ := acc_at h1 eo
        rw [ep] at ex
        cases ex
        walk_at "rd"
        refine ⟨p, o, rfl, O.same s, (ok.2 o (List.mem_of_getElem? eo)).1, fun H2 s2 => ?_⟩
        walk_at "rd"
        exact q _ s2
    intro ah H2 hah s2 eah
    have h2 := h1.same s2
    have npl1 : ∀ {x : Addr}, H x = none → A.own x = .no := fun e => h.fresh e
    walk_at "rd"
    refine ⟨F, _, d, a, os, os1, A, rfl, ?_, g, h2, ok, tq, fun H3 h3 b3 st3 => ?_⟩
    · exact hd.keep (But.of (S := fun _ => False) (s1.trans s2)) fun _ _ => id
    have oah : A.own ah = .no := h1.fresh hah
    have opl : A.own pl = .no := h.fresh npl
    have eah3 := b3.keep _ _ eah fun z => z oah
    have epl3 := b3.keep _ _ (s2 _ _ epl) fun z => z opl
    have ht3 := b3.tup _ _ (s2 _ _ (s1 _ _ ht))
    walk_at "rd"
    refine lcp_rel (R := PrAt) (zs := cs) (SqL.of epl3) (by rw [ecs]; simp) (by
      rcases shape with ⟨_, _, _, _, ep⟩ | ⟨_, ep⟩ <;> rw [ep] <;> simp) (fun H H' v z ⟨t, e, q⟩ st => ⟨t, e, st _ _ q⟩) ?_ ?_
    · intro i x z H' W ex ez s q
      rw [List.getElem?_map] at ex
      cases epi : (places d)[i]? with
      | none => rw [epi] at ex; cases ex
      | some pi =>
        rw [epi] at ex
        cases ex
        rw [ecs, List.getElem?_map, epi] at ez
        cases ez
        obtain ⟨j, rfl, hj⟩ := inr pi (List.mem_of_getElem? epi)
        have eo : os[j]? = some os[j] := List.getElem?_eq_getElem hj
        have eo1 : os1[j]? = some (os1[j]'(by omega)) := List.getElem?_eq_getElem (by omega)
        obtain ⟨p, ep, O, ev⟩ := acc_at (h3.same s) eo1
        walk_at "rd"
        refine r_ixL (SqL.of (h3.same s).top) (atI_get rfl ev) ?_
        walk_at "rd"
        refine ⟨p, _, rfl, O, (ok1.2 _ (List.mem_of_getElem? eo1)).1, fun H4 s4 => ?_⟩
        walk_at "rd"
        refine r_ixL (SqL.of (s4 _ _ (s _ _ eah3))) (atI_get (j := j) rfl (by rw [List.getElem?_map, eo]; rfl)) ?_
        walk_at "rd"
        refine r_mk (by simp) fun u hu => ?_
        refine q _ _ (s4.trans (same_upd hu)) ⟨u, rfl, ?_⟩
        rw [upd_same]
        have w1 : owAt os1 (j : Int) = (os1[j]'(by omega)).owing := by
          unfold owAt
          rw [at_some eo1]
        have w2 : owAt os (j : Int) = os[j].owing := by
          unfold owAt
          rw [at_some eo]
        show _ = some (HO.tup [V.int (j : Int), V.int (owAt os1 (j : Int) - owAt os (j : Int))])
        rw [w1, w2]
    intro D H4 acc hD s4 eD pr
    have h4 := h3.same s4
    have oD : A.own D = .no := h3.fresh hD
    have hk3 : ∀ x, H3 x = none → H x = none := fun x e => Same.free s1 (Same.free s2 (st3 x e))
    walk_at "rd"
    refine ⟨D, rfl, ⟨acc, SqL.of eD⟩, for_list (K := K) (a := D) (xs := acc) (fun i σ H' => ∃ v8, σ = [some (.ref t), some (.ref a), none, some (.ref pl), none, some (.ref ah), none, some (.ref D), v8] ∧ AccAt H' a (markAll os1 (word d) (cs.take i)) A ∧ But A.foot H4 H' ∧ Stay H4 H')
      ⟨none, rfl, h4, But.refl, fun _ e => e⟩ (fun i σ H' _ ⟨_, _, _, b, _⟩ => SqL.of (b.keep _ _ eD fun z => z oD)) ?_ ?_⟩
    · rintro i x σ H5 hi ⟨v8, rfl, h5, b5, st5⟩
      obtain ⟨c, ec, u, rfl, hu⟩ := Paired.get_ex pr hi
      have hu5 := b5.tup _ _ hu
      have ht5 := b5.tup _ _ (s4 _ _ ht3)
      have hc1 : c.1 ∈ places d := by
        rw [ecs, List.getElem?_map] at ec
        cases epi : (places d)[i]? with
        | none => rw [epi] at ec; cases ec
        | some pi =>
          rw [epi] at ec
          cases ec
          exact List.mem_of_getElem? epi
      obtain ⟨j, ej, hj⟩ := inr _ hc1
      have eo5 : (markAll os1 (word d) (cs.take i))[j]? = some ((markAll os1 (word d) (cs.take i))[j]'(by rw [markAll_len]; omega)) := List.getElem?_eq_getElem (by rw [markAll_len]; omega)
      revert eo5
      generalize ((markAll os1 (word d) (cs.take i))[j]'(by rw [markAll_len]; omega)) = o5
      intro eo5
      obtain ⟨p, ep, O, ev⟩ := acc_at h5 eo5
      obtain ⟨ts, ets, pts⟩ := O.rws
      walk_at "rd"
      refine r_ixT (SqT.of hu5) (atI_get (j := 0) rfl rfl) ?_
      rw [ej]
      refine r_ixL (SqL.of h5.top) (atI_get rfl ev) ?_
      walk_at "rd"
      refine r_ixL (SqL.of O.ob) (atI_get (j := 2) rfl rfl) ?_
      refine r_tyL (SqL.of ets) ?_
      walk_at "rd"
      refine r_ixT (SqT.of ht5) (atI_get (j := 0) rfl rfl) ?_
      walk_at "rd"
      refine r_ixT (SqT.of hu5) (atI_get (j := 1) rfl rfl) ?_
      walk_at "rd"
      refine r_mk (by simp) fun q hq => ?_
      have s6 := same_upd (o := .tup [.str (word d), .int c.2]) hq
      obtain ⟨O7, b7⟩ := (O.same s6).row (t := q) (w := word d) (c := c.2) (h5.ro j p ep) (s6 _ _ ets) upd_same
      have em : markAll os1 (word d) (cs.take (i + 1)) = (markAll os1 (word d) (cs.take i)).set j (o5.mark (word d) c.2) := by
        rw [mark_snoc ec]
        unfold mark1
        rw [ej, at_some eo5]
      walk_at "rd"
      refine r_app (s6 _ _ ets) ?_ ?_
      · have mm : ∀ o : Od, o ∈ es → o.marks.length < 100000 := mks
        have gr : ∀ (cs' : List (Int × Int)) (os' : List Od) (o' : Od), os'[j]? = some o' → ∃ o'', (markAll os' (word d) cs')[j]? = some o'' ∧ o'.marks.length ≤ o''.marks.length := by
          intro cs'
          induction cs' with
          | nil => exact fun os' o' e => ⟨o', e, Nat.le_refl _⟩
          | cons c' r ih =>
            intro os' o' e
            have h1 : ∃ o2, (mark1 (word d) os' c')[j]? = some o2 ∧ o'.marks.length ≤ o2.marks.length := by
              unfold mark1
              rcases at_or os' c'.1 with ⟨q, _⟩ | ⟨jj, oo, q0, eoo, q⟩
              · rw [q]; exact ⟨o', e, Nat.le_refl _⟩
              · rw [q]
                dsimp only
                by_cases z : jj = j
                · subst z
                  rw [e] at eoo
                  cases eoo
                  refine ⟨_, List.getElem?_set_self (List.getElem?_eq_some_iff.mp e).1, ?_⟩
                  show _ ≤ (o'.marks ++ [_]).length
                  simp
                · exact ⟨o', by rw [List.getElem?_set_ne z]; exact e, Nat.le_refl _⟩
            obtain ⟨o2, e2, l2⟩ := h1
            obtain ⟨o3, e3, l3⟩ := ih _ o2 e2
            exact ⟨o3, e3, Nat.le_trans l2 l3⟩
        obtain ⟨o9, e9, l9⟩ := gr (cs.drop i) _ o5 eo5
        have e10 : markAll (markAll os1 (word d) (cs.take i)) (word d) (cs.drop i) = es := by
          rw [ees]
          unfold markAll
          rw [← List.foldl_append, List.take_append_drop]
        rw [e10] at e9
        have := mm o9 (List.mem_of_getElem? e9)
        refine sz5l ?_
        rw [pts.length]
        omega
      · refine ⟨_, rfl, by rw [em]; exact (h5.same s6).one ep O7 b7, (b5.trans (But.of s6)).trans (b7.mono (h5.footOf ep)), fun x e => st5 x ?_⟩
        exact (upd_none (stay_lst (s6 _ _ ets) x e)).2
    · rintro σ H5 ⟨v8, rfl, h5, b5, st5⟩
      rw [pr.length, List.take_length, ← ees] at h5
      walk_at "rd"
      have nD : H D = none := hk3 D hD
      refine k D A H5 h5 (Md.of ((((But.of s1).trans (But.of s2)).trans b3).trans ((But.of s4).trans b5))) (fun x e => hk3 x (Same.free s4 (st5 x e))) nD oD ⟨acc, b5.keep _ _ eD fun z => z oD, ?_⟩
      exact b5.prs pr

/-! ### handed in, tried -/
theorem ifj {σ : L2.St} {H : Hp} {D : Ends} {c : TT} {t u : TS} (P : Bool → Hp → Prop) (h2 : ∀ b H', P b H' → if b = true then t D σ H' else u D σ H') (h1 : ∀ QB' : Bool → Hp → Prop, (∀ b H', P b H' → QB' b H') → c σ H QB') : tIfS c t u D σ H := h1 _ h2
theorem step_err9 {os : List Od} {d : Dd} {e : Er} (h : step os d = .error e) : e ≠ .nothingDone := by
  intro z
  subst z
  cases d with
  | ord ls =>
    have h' : stepOrd os ls = .error .nothingDone := h
    unfold stepOrd at h'
    split at h'
    · rename_i e q
      cases h'
      unfold ordErr at q
      split at q
      · cases q
      · split at q
        · rename_i e2 q2
          cases q
          unfold firstErr at q2
          obtain ⟨t, _, ht⟩ := List.exists_of_findSome?_eq_some q2
          unfold ltCheck at ht
          repeat' split at ht
          all_goals cases ht
        · split at q <;> cases q
    · cases h'
  | ln w o l n =>
    have h' : stepLn os w o l n = .error .nothingDone := h
    unfold stepLn at h'
    repeat' split at h'
    all_goals cases h'
  | mo w o n =>
    have h' : stepMo os w o n = .error .nothingDone := h
    unfold stepMo at h'
    repeat' split at h'
    all_goals cases h'
  | mv o p n =>
    have h' : stepMv os o p n = .error .nothingDone := h
    unfold stepMv at h'
    repeat' split at h'
    all_goals cases h'
/-! ### rows compared -/
def RowsAt (H : Hp) (r : Addr) (rs : List (List V)) : Prop := ∃ xs, H r = some (.lst xs) ∧ Paired (TupAt H) xs rs
theorem tup_keep {S : Addr → Prop} {H H' : Hp} (b : But S H H') {xs : List V} {rs : List (List V)} (h : Paired (TupAt H) xs rs) : Paired (TupAt H') xs rs := Paired.mapP h fun _ _ ⟨t, e, q⟩ => ⟨t, e, b.tup _ _ q⟩
theorem RowsAt.keep {S : Addr → Prop} {H H' : Hp} {r : Addr} {rs : List (List V)} (h : RowsAt H r rs) (b : But S H H') (n : ¬ S r) : RowsAt H' r rs := by
  obtain ⟨xs, e, p⟩ := h
  exact ⟨xs, b.keep _ _ e n, tup_keep b p⟩
theorem RowsAt.same {H H' : Hp} {r : Addr} {rs : List (List V)} (h : RowsAt H r rs) (s : Same H H') : RowsAt H' r rs := h.keep (But.of (S := fun _ => False) s) id
theorem ChAt.rows {H : Hp} {r : Addr} {cs : List (Int × Int)} (h : ChAt H r cs) : RowsAt H r (cs.map prRow) := by
  obtain ⟨xs, e, p⟩ := h
  exact ⟨xs, e, pr_rows p⟩
def spLPairsAlike (_ : PySem.W.Frag) : Sp := fun vs H Q _ => ∃ (r q : Addr) (rs : List (List V)), vs = [.ref r, .ref q] ∧ RowsAt H r rs ∧ RowsAt H q rs ∧ Rws rs ∧ rs.length ≤ 100000 ∧ Q (.bl true) H
theorem len_LPairsAlike {K : PySem.W.Frag} {vs : List V} {H : Hp} {Q : VK} {E : XK} (h : spLPairsAlike K vs H Q E) : vs.length = 2 := by
  obtain ⟨_, _, _, rfl, _⟩ := h; rfl
theorem ok_LPairsAlike {P : Program} {w : World} {K : PySem.W.Frag} {mg : Str → Option Value} {base : Heap} (T : Tx w K mg) : FnOk P w K mg base CX0 2 (He.fAd K dLPairsAlike.at_) (fdO K dLPairsAlike.at_) P_LPairsAlike (spLPairsAlike K) := by
  refine T.f_LPairsAlike.ok sc_LPairsAlike (fun vs H Q E h => len_LPairsAlike h) (fun cdv A outer s H vs Q E hr h => ⟨_, PSs.nox ((pss_cons (ps_if (PW.pt (pw_or (pt_not (pt_val (pe_callB call_isi (by rfl) T.b_isinstance (by decide +kernel) (pa_cons (pv 0) (pa_cons (pe_bltn (v := .ty "list") (by rfl) T.b_list (by decide +kernel) rfl) pa_nil))))) (pw_or1 (pt_cmpR op_ne (pe_callB call_len_seq (by rfl) T.b_len (by decide +kernel) (pa_cons (pv 0) pa_nil)) (pe_callB call_len_seq (by rfl) T.b_len (by decide +kernel) (pa_cons (pv 1) pa_nil)) (nomark _))))) (pss_one (ps_ret pe_bl)) pss_nil)
      (pss_cons (ps_for PassesOwn.never rfl (pi_range1 (by rfl) T.b_range (pa_cons (pe_callB call_len_seq (by rfl) T.b_len (by decide +kernel) (pa_cons (pv 1) pa_nil)) pa_nil)) (pg_name (i := 2) sc_LPairsAlike.nd rfl (Or.inl rfl)) (pss_cons (ps_if (PW.pt (pw_or (pt_not (pt_val (pe_callB call_isi (by rfl) T.b_isinstance (by decide +kernel) (pa_cons (pe_ix ix_list (pv 0) (pv 2) (fun _ _ => rfl)) (pa_cons (pe_bltn (v := .ty "tuple") (by rfl) T.b_tuple (by decide +kernel) rfl) pa_nil))))) (pw_or1 (pt_cmpR (op_neD hr.units) (pe_ix ix_list (pv 0) (pv 2) (fun _ _ => rfl)) (pe_ix ix_list (pv 1) (pv 2) (fun _ _ => rfl)) (nomark _))))) (pss_one (ps_ret pe_bl)) pss_nil)
      (pss_one (ps_for PassesOwn.never rfl (pi_tup (pe_ix ix_list (pv 0) (pv 2) (fun _ _ => rfl))) (pg_name (i := 3) sc_LPairsAlike.nd rfl (Or.inl rfl)) (pss_one (ps_if (PW.pt (pw_and (pt_not (pt_val (pe_callB call_isi (by rfl) T.b_isinstance (by decide +kernel) (pa_cons (pv 3) (pa_cons (pe_bltn (v := .ty "str") (by rfl) T.b_str (by decide +kernel) rfl) pa_nil))))) (pw_and1 (pt_not (pt_val (pe_call (ok_LWhole T) (hr.mono (by decide)) rfl T.g_LWhole T.f_LWhole.kp T.b_LWhole .nil pass0 (pa_cons (pv 3) pa_nil))))))) (pss_one (ps_ret pe_bl)) pss_nil))))))
      (pss_one (ps_ret pe_bl))))), ?_⟩)
  obtain ⟨r, q, rs, rfl, ⟨xs, hr, pr⟩, ⟨ys, hq, pq⟩, ok, hz, k⟩ := h
  walk_at "rd"
  refine r_is_lst_list hr ?_
  walk_at "rd"
  refine ⟨r, xs, rfl, .inl (SqL.of hr), ?_⟩
  walk_at "rd"
  refine ⟨q, ys, rfl, .inl (SqL.of hq), ?_⟩
  walk_at "rd"
  have l1 := pr.length
  have l2 := pq.length
  refine r_itn (fun z => absurd (by omega) z) (fun _ => ?_)
  walk_at "rd"
  refine ⟨q, ys, rfl, .inl (SqL.of hq), ?_⟩
  walk_at "rd"
  refine ⟨_, rfl, by omega, by omega, for_range (lo := 0) (n := ((ys.length : Nat) : Int).toNat) (fun i σ H' => ∃ v2 v3, σ = [some (.ref r), some (.ref q), v2, v3] ∧ H' = H) ⟨none, none, rfl, rfl⟩ ?_ ?_⟩
  · rintro i σ H' hi ⟨v2, v3, rfl, rfl⟩
    rw [Int.zero_add]
    have hi1 : i < xs.length := by omega
    have hi2 : i < ys.length := by omega
    obtain ⟨c, ec, t, et, ht⟩ := Paired.get_ex pr (List.getElem?_eq_getElem hi1)
    obtain ⟨c', ec', t', et', ht'⟩ := Paired.get_ex pq (List.getElem?_eq_getElem hi2)
    have e2 : c' = c := by
      rw [ec] at ec'
      exact (Option.some.inj ec').symm
    subst e2
    have sc := ok c' (List.mem_of_getElem? ec)
    have gx : xs[i]? = some (.ref t) := by rw [List.getElem?_eq_getElem hi1, et]
    have gy : ys[i]? = some (.ref t') := by rw [List.getElem?_eq_getElem hi2, et']
    walk_at "rd"
    refine r_ixL (SqL.of hr) (atI_get (j := i) rfl gx) ?_
    walk_at "rd"
    refine r_is_tup_tuple ht ?_
    walk_at "rd"
    refine r_ixL (SqL.of hr) (atI_get (j := i) rfl gx) ?_
    walk_at "rd"
    refine r_ixL (SqL.of hq) (atI_get (j := i) rfl gy) ?_
    refine r_neTT (SqT.of ht) (SqT.of ht') sc sc ?_
    walk_at "rd"
    refine r_itn (fun z => absurd rfl z) (fun _ => ?_)
    walk_at "rd"
    refine r_ixL (SqL.of hr) (atI_get (j := i) rfl gx) ?_
    refine ⟨t, rfl, ⟨c', SqT.of ht⟩, for_tup (K := K) (a := t) (xs := c') (fun i' σ H2 => ∃ v3, σ = [some (.ref r), some (.ref q), some (.int (i : Int)), v3] ∧ H2 = H') ⟨_, rfl, rfl⟩ (fun _ _ _ _ ⟨_, _, e⟩ => by rw [e]; exact SqT.of ht) ?_ ?_⟩
    · rintro i' x σ H2 hi' ⟨v4, rfl, rfl⟩
      have sx := sc x (List.mem_of_getElem? hi')
      rcases sx with ⟨n, rfl⟩ | ⟨z, rfl, _⟩
      · walk_at "rd"
        refine ⟨_, rfl, ?_⟩
        walk_at "rd"
        exact ⟨_, rfl, rfl⟩
      · walk_at "rd"
        exact ⟨_, rfl, rfl⟩
    · rintro σ H2 ⟨v4, rfl, rfl⟩
      exact ⟨_, _, rfl, rfl⟩
  · rintro σ H' ⟨v2, v3, rfl, rfl⟩
    walk_at "rd"
    exact k

/-! ### the account as data -/
theorem DpAll.of_get {K : PySem.W.Frag} {H : Hp} : ∀ {xs : List V} {ds : List PyData}, xs.length = ds.length → (∀ (i : Nat) x d, xs[i]? = some x → ds[i]? = some d → Dp K H x d) → DpAll K H xs ds
  | [], [], _, _ => .nil
  | [], _ :: _, h, _ => by cases h
  | _ :: _, [], h, _ => by cases h
  | x :: xs, d :: ds, h, g => .cons (g 0 x d rfl rfl) (DpAll.of_get (by simpa using h) fun i y e h1 h2 => g (i + 1) y e (by simpa using h1) (by simpa using h2))
def mkRow (m : Str × Int) : List V := [.str m.1, .int m.2]
def dLn (l : Ln) : PyData := .list ((lnL l).map dOf)
def dOd (o : Od) : PyData := .list [.list (o.lines.map dLn), .int o.money, dRows (o.marks.map mkRow)]
def dAcc (os : List Od) : PyData := .list (os.map dOd)
theorem mk_rows {H : Hp} : ∀ {xs : List V} {ms : List (Str × Int)}, Paired (MkAt H) xs ms → Paired (TupAt H) xs (ms.map mkRow)
  | _, _, .nil => .nil
  | _, _, .cons ⟨t, e, h⟩ r => .cons ⟨t, e, h⟩ (mk_rows r)
theorem mk_rws {ms : List (Str × Int)} (h : ∀ m, m ∈ ms → PyData.strOk m.1 = true) : Rws (ms.map mkRow) := fun r hr => by
  obtain ⟨m, hm, rfl⟩ := List.mem_map.mp hr
  exact .cons (.inr ⟨_, rfl, h m hm⟩) (.cons .int .nil)
theorem lnL_sc {l : Ln} (h : isItem l.item = true) : Scs (lnL l) := .cons (.inr ⟨_, rfl, item_str h⟩) (.cons .int (.cons .int (.cons .int (.cons .int (.cons .int (.cons .int (.cons .int .nil)))))))
theorem lay_all : ∀ {ds : List PyData} {n : Nat}, (∀ d, d ∈ ds → PyData.canLay0 d = true ∧ PyData.depth d ≤ n) → PyData.canLayAll0 ds = true ∧ PyData.depthAll ds ≤ n
  | [], n, _ => ⟨by simp only [PyData.canLayAll0], by simp only [PyData.depthAll]; omega⟩
  | d :: ds, n, h => by
    obtain ⟨a, b⟩ := h d List.mem_cons_self
    obtain ⟨c, e⟩ := lay_all (ds := ds) (n := n) fun u hu => h u (List.mem_cons_of_mem _ hu)
    refine ⟨by simp only [PyData.canLayAll0, a, c, Bool.and_self], by simp only [PyData.depthAll]; omega⟩
theorem dOd_dp {K : PySem.W.Frag} {H : Hp} {p : AO} {o : Od} (O : AoAt H p o) (s : o.strs) : Dp K H (.ref p.o) (dOd o) := by
  obtain ⟨ts, et, pt⟩ := O.rws
  refine .lst (SqL.of O.ob) (.cons (.lst (SqL.of O.ll) (DpAll.of_get (by simp [O.len]) fun i x d ex ed => ?_)) (.cons (.int _) (.cons (dRows_dp (SqL.of et) (mk_rows pt) (mk_rws s.2)) .nil)))
  obtain ⟨a, ea, rfl⟩ := ref_at ex
  rw [List.getElem?_map] at ed
  cases el : o.lines[i]? with
  | none => rw [el] at ed; cases ed
  | some l =>
    rw [el] at ed
    cases ed
    exact .lst (SqL.of (O.ln i a l ea el)) (lnL_sc (s.1 l (List.mem_of_getElem? el))).dp
theorem dOd_lay {o : Od} (s : o.strs) : PyData.canLay0 (dOd o) = true ∧ PyData.depth (dOd o) ≤ 4 := by
  obtain ⟨a, b⟩ := dRows_lay (mk_rws s.2)
  have h1 : PyData.canLay0 (.list (o.lines.map dLn)) = true ∧ PyData.depth (.list (o.lines.map dLn)) ≤ 2 := by
    obtain ⟨c, e⟩ := lay_all (ds := o.lines.map dLn) (n := 1) fun d hd => by
      obtain ⟨l, hl, rfl⟩ := List.mem_map.mp hd
      obtain ⟨x, y⟩ := (lnL_sc (s.1 l hl)).lay
      refine ⟨by simp only [dLn, PyData.canLay0]; exact x, by simp only [dLn, PyData.depth]; omega⟩
    exact ⟨by simp only [PyData.canLay0]; exact c, by simp only [PyData.depth]; omega⟩
  obtain ⟨c, e⟩ := lay_all (ds := [.list (o.lines.map dLn), .int o.money, dRows (o.marks.map mkRow)]) (n := 3) fun d hd => by
    simp only [List.mem_cons, List.not_mem_nil, or_false] at hd
    rcases hd with rfl | rfl | rfl
    · exact ⟨h1.1, by omega⟩
    · exact ⟨by simp only [PyData.canLay0], by simp only [PyData.depth]; omega⟩
    · exact ⟨a, by omega⟩
  exact ⟨by simp only [dOd, PyData.canLay0]; exact c, by simp only [dOd, PyData.depth]; omega⟩
theorem dAcc_shaped {os : List Od} (ok : OsOk os) : SeqAt.shaped (dAcc os) = true := by
  obtain ⟨a, b⟩ := lay_all (ds := os.map dOd) (n := 4) fun d hd => by
    obtain ⟨o, ho, rfl⟩ := List.mem_map.mp hd
    exact dOd_lay (ok.2 o ho).2.2
  have c : PyData.canLay0 (dAcc os) = true := by simp only [dAcc, PyData.canLay0]; exact a
  have e : PyData.depth (dAcc os) ≤ 5 := by simp only [dAcc, PyData.depth]; omega
  unfold SeqAt.shaped
  rw [c, decide_eq_true (by omega)]
  rfl
theorem AccAt.dp {K : PySem.W.Frag} {H : Hp} {a : Addr} {os : List Od} {A : AL} (h : AccAt H a os A) (ok : OsOk os) : Dp K H (.ref a) (dAcc os) := by
  refine .lst (SqL.of h.top) (DpAll.of_get (by simp [h.len]) fun i x d ex ed => ?_)
  rw [List.getElem?_map] at ex ed
  cases eo : os[i]? with
  | none => rw [eo] at ed; cases ed
  | some o =>
    rw [eo] at ed
    cases ed
    obtain ⟨p, ep, O, ev⟩ := acc_at h eo
    rw [ep] at ex
    cases ex
    exact dOd_dp O (ok.2 o (List.mem_of_getElem? eo)).2.2
theorem r_eqAcc {K : PySem.W.Frag} {H : Hp} {Q : VK} {a e : Addr} {os : List Od} {A : AL} (h : AccAt H a os A) (ok : OsOk os) (he : H e = some (.lst [])) (k : Q (.bl (decide (os = []))) H) : rEqD K (.ref a) (.ref e) H Q := by
  refine ⟨dAcc os, .list [], h.dp ok, .lst (SqL.of he) .nil, dAcc_shaped ok, by decide +kernel, ?_⟩
  have q : PyData.eqv (dAcc os) (.list []) = decide (os = []) := by
    cases os with
    | nil => simp [dAcc, PyData.eqv, PyData.eqvAll]
    | cons o r => simp [dAcc, PyData.eqv, PyData.eqvAll]
  rw [q]
  exact k
/-! ### deeds made -/
def wLn (w : Str) : Prop := w = "deliver" ∨ w = "back" ∨ w = "swap" ∨ w = "credit"
def wMo (w : Str) : Prop := w = "pay" ∨ w = "refund"
def words12 : List V := [.str "deliver", .str "deliver", .str "deliver", .str "deliver", .str "back", .str "swap", .str "credit", .str "pay", .str "pay", .str "refund", .str "move", .str "order"]
theorem word12 (z : Int) : ∃ w : Str, (wLn w ∨ wMo w ∨ w = "move" ∨ w = "order") ∧ atI words12 (z % 12) = some (.str w) := by
  have h : z % 12 = ((0 : Nat) : Int) ∨ z % 12 = ((1 : Nat) : Int) ∨ z % 12 = ((2 : Nat) : Int) ∨ z % 12 = ((3 : Nat) : Int) ∨ z % 12 = ((4 : Nat) : Int) ∨ z % 12 = ((5 : Nat) : Int) ∨ z % 12 = ((6 : Nat) : Int) ∨ z % 12 = ((7 : Nat) : Int) ∨ z % 12 = ((8 : Nat) : Int) ∨ z % 12 = ((9 : Nat) : Int) ∨ z % 12 = ((10 : Nat) : Int) ∨ z % 12 = ((11 : Nat) : Int) := by omega
  rcases h with h | h | h | h | h | h | h | h | h | h | h | h
  · exact ⟨_, .inl (.inl rfl), atI_get h rfl⟩
  · exact ⟨_, .inl (.inl rfl), atI_get h rfl⟩
  · exact ⟨_, .inl (.inl rfl), atI_get h rfl⟩
  · exact ⟨_, .inl (.inl rfl), atI_get h rfl⟩
  · exact ⟨_, .inl (.inr (.inl rfl)), atI_get h rfl⟩
  · exact ⟨_, .inl (.inr (.inr (.inl rfl))), atI_get h rfl⟩
  · exact ⟨_, .inl (.inr (.inr (.inr rfl))), atI_get h rfl⟩
  · exact ⟨_, .inr (.inl (.inl rfl)), atI_get h rfl⟩
  · exact ⟨_, .inr (.inl (.inl rfl)), atI_get h rfl⟩
  · exact ⟨_, .inr (.inl (.inr rfl)), atI_get h rfl⟩
  · exact ⟨_, .inr (.inr (.inl rfl)), atI_get h rfl⟩
  · exact ⟨_, .inr (.inr (.inr rfl)), atI_get h rfl⟩
def Dd.bnd (M : Int) : Dd → Prop
  | .ord _ => True
  | .ln _ o l n => (-M ≤ o ∧ o ≤ M) ∧ (-M ≤ l ∧ l ≤ M) ∧ (-M ≤ n ∧ n ≤ M)
  | .mo _ o n => (-M ≤ o ∧ o ≤ M) ∧ (-M ≤ n ∧ n ≤ M)
  | .mv o p n => (-M ≤ o ∧ o ≤ M) ∧ (-M ≤ p ∧ p ≤ M) ∧ (-M ≤ n ∧ n ≤ M)
def DB (os : List Od) (d : Dd) : Prop := ∀ M : Int, 10000000000000 ≤ M → (∀ w a p, -M ≤ mostOf os w a p ∧ mostOf os w a p ≤ M) → d.bnd (M + 1)
theorem pb_in {s n M : Int} (p : PB s n) (h0 : 0 ≤ s) (h1 : s ≤ 1000) (h : 10000000000000 ≤ M) : -(M + 1) ≤ n ∧ n ≤ M + 1 := by
  have := p h0
  omega
def spLDeedBy (_ : PySem.W.Frag) : Sp := fun vs H Q _ => ∃ (c m : Int) (a : Addr) (os : List Od) (A : AL), vs = [.int c, .int m, .ref a] ∧ AccAt H a os A ∧ OsOk os ∧
  ∀ v d H', Same H H' → DdAt (fun l => H l = none) H' v d → d.good → (∀ ls, d = .ord ls → Good ls ∧ os.length < 4) → DB os d → Q v H'
theorem len_LDeedBy {K : PySem.W.Frag} {vs : List V} {H : Hp} {Q : VK} {E : XK} (h : spLDeedBy K vs H Q E) : vs.length = 3 := by
  obtain ⟨_, _, _, _, _, rfl, _⟩ := h; rfl
theorem ok_LDeedBy {P : Program} {w : World} {K : PySem.W.Frag} {mg : Str → Option Value} {base : Heap} (T : Tx w K mg) : FnOk P w K mg base CX0 4 (He.fAd K dLDeedBy.at_) (fdO K dLDeedBy.at_) P_LDeedBy (spLDeedBy K) := by
  refine T.f_LDeedBy.ok sc_LDeedBy (fun vs H Q E h => len_LDeedBy h) (fun cdv A outer s H vs Q E hr h => ⟨_, PSs.nox ((pss_cons (ps_set (i := 3) sc_LDeedBy.nd rfl (Or.inl rfl) (pe_lst (pa_cons pe_str (pa_cons pe_str (pa_cons pe_str (pa_cons pe_str (pa_cons pe_str (pa_cons pe_str (pa_cons pe_str (pa_cons pe_str (pa_cons pe_str pa_nil)))))))))))
      (pss_cons (ps_set (i := 3) sc_LDeedBy.nd rfl (Or.inl rfl) (pe_op op_cat (pv 3) (pe_lst (pa_cons pe_str (pa_cons pe_str (pa_cons pe_str pa_nil))))))
      (pss_cons (ps_set (i := 4) sc_LDeedBy.nd rfl (Or.inl rfl) (pe_ix ix_list (pv 3) (pe_op op_mod (pe_op op_mod (pe_op op_mul (pv 0) pe_int) pe_int) pe_int) (fun _ _ => rfl)))
      (pss_cons (ps_if (PW.pt (pw_or (pt_cmpR (op_eqD hr.units) (pv 2) (pe_lst pa_nil) (nomark _)) (pw_or1 (PW.pt (pw_and (pt_cmpR op_eq (pv 4) pe_str (nomark _)) (pw_and1 (pt_cmpR op_lt (pe_callB call_len_seq (by rfl) T.b_len (by decide +kernel) (pa_cons (pv 2) pa_nil)) pe_int (nomark _)))))))) (pss_one (ps_ret (pe_tup (pa_cons pe_str (pa_cons (pe_call (ok_LLinesBy T) (hr.mono (by decide)) rfl T.g_LLinesBy T.f_LLinesBy.kp T.b_LLinesBy .nil pass0 (pa_cons (pv 1) pa_nil)) pa_nil))))) pss_nil)
      (pss_cons (ps_if (pt_cmpR op_eq (pv 4) pe_str (nomark _)) (pss_one (ps_set (i := 4) sc_LDeedBy.nd rfl (Or.inl rfl) pe_str)) pss_nil)
      (pss_cons (ps_set (i := 5) sc_LDeedBy.nd rfl (Or.inl rfl) (pe_call (ok_LPlaceBy T) (hr.mono (by decide)) rfl T.g_LPlaceBy T.f_LPlaceBy.kp T.b_LPlaceBy .nil pass0 (pa_cons (pv 0) (pa_cons pe_int (pa_cons (pe_callB call_len_seq (by rfl) T.b_len (by decide +kernel) (pa_cons (pv 2) pa_nil)) pa_nil)))))
      (pss_cons (ps_if (PW.pt (pw_or (pt_cmpR op_eq (pv 4) pe_str (nomark _)) (pw_or1 (pt_cmpR op_eq (pv 4) pe_str (nomark _))))) (pss_one (ps_ret (pe_tup (pa_cons (pv 4) (pa_cons (pv 5) (pa_cons (pe_call (ok_LNumberBy T) (hr.mono (by decide)) rfl T.g_LNumberBy T.f_LNumberBy.kp T.b_LNumberBy .nil pass0 (pa_cons (pv 1) (pa_cons (pe_call (ok_LMost T) (hr.mono (by decide)) rfl T.g_LMost T.f_LMost.kp T.b_LMost .nil pass0 (pa_cons (pv 4) (pa_cons (pv 5) (pa_cons pe_int (pa_cons (pv 2) pa_nil))))) pa_nil))) pa_nil)))))) pss_nil)
      (pss_cons (ps_if (pt_cmpR op_eq (pv 4) pe_str (nomark _)) (pss_cons (ps_set (i := 6) sc_LDeedBy.nd rfl (Or.inl rfl) (pe_call (ok_LPlaceBy T) (hr.mono (by decide)) rfl T.g_LPlaceBy T.f_LPlaceBy.kp T.b_LPlaceBy .nil pass0 (pa_cons (pv 1) (pa_cons pe_int (pa_cons (pe_callB call_len_seq (by rfl) T.b_len (by decide +kernel) (pa_cons (pv 2) pa_nil)) pa_nil)))))
      (pss_one (ps_ret (pe_tup (pa_cons (pv 4) (pa_cons (pv 5) (pa_cons (pv 6) (pa_cons (pe_call (ok_LNumberBy T) (hr.mono (by decide)) rfl T.g_LNumberBy T.f_LNumberBy.kp T.b_LNumberBy .nil pass0 (pa_cons (pv 1) (pa_cons (pe_call (ok_LMost T) (hr.mono (by decide)) rfl T.g_LMost T.f_LMost.kp T.b_LMost .nil pass0 (pa_cons (pv 4) (pa_cons (pv 5) (pa_cons pe_int (pa_cons (pv 2) pa_nil))))) pa_nil))) pa_nil)))))))) pss_nil)
      (pss_cons (ps_set (i := 7) sc_LDeedBy.nd rfl (Or.inl rfl) pe_int)
      (pss_cons (ps_if (pt_chain op_le op_lt pe_int (pv 5) (pe_callB call_len_seq (by rfl) T.b_len (by decide +kernel) (pa_cons (pv 2) pa_nil))) (pss_one (ps_set (i := 7) sc_LDeedBy.nd rfl (Or.inl rfl) (pe_callB call_len_seq (by rfl) T.b_len (by decide +kernel) (pa_cons (pe_ix ix_list (pe_ix ix_list (pv 2) (pv 5) (fun _ _ => rfl)) pe_int (fun _ _ => rfl)) pa_nil)))) pss_nil)
      (pss_cons (ps_set (i := 8) sc_LDeedBy.nd rfl (Or.inl rfl) (pe_call (ok_LPlaceBy T) (hr.mono (by decide)) rfl T.g_LPlaceBy T.f_LPlaceBy.kp T.b_LPlaceBy .nil pass0 (pa_cons (pv 0) (pa_cons pe_int (pa_cons (pv 7) pa_nil)))))
      (pss_one (ps_ret (pe_tup (pa_cons (pv 4) (pa_cons (pv 5) (pa_cons (pv 8) (pa_cons (pe_call (ok_LNumberBy T) (hr.mono (by decide)) rfl T.g_LNumberBy T.f_LNumberBy.kp T.b_LNumberBy .nil pass0 (pa_cons (pv 1) (pa_cons (pe_call (ok_LMost T) (hr.mono (by decide)) rfl T.g_LMost T.f_LMost.kp T.b_LMost .nil pass0 (pa_cons (pv 4) (pa_cons (pv 5) (pa_cons (pv 8) (pa_cons (pv 2) pa_nil))))) pa_nil))) pa_nil))))))))))))))))))), ?_⟩)
  obtain ⟨c, m, a, os, A, rfl, h, ok, k⟩ := h
  walk_at "rd"
  refine r_mk (by simp) fun w1 hw1 => ?_
  walk_at "rd"
  refine r_mk (by simp) fun w2 hw2 => ?_
  refine ⟨w1, w2, _, _, rfl, rfl, by rw [upd_ne (ne_of_none upd_same hw2)]; exact upd_same, upd_same, by show 9 + 3 ≤ sizeLine; rw [sizeLine_eq]; decide, fun w3 hw3 => ?_⟩
  have s3 := ((same_upd (o := .lst [.str "deliver", .str "deliver", .str "deliver", .str "deliver", .str "back", .str "swap", .str "credit", .str "pay", .str "pay"]) hw1).trans (same_upd (o := .lst [.str "refund", .str "move", .str "order"]) hw2)).trans (same_upd (o := .lst words12) hw3)
  have e3 : upd (upd (upd H w1 (.lst [.str "deliver", .str "deliver", .str "deliver", .str "deliver", .str "back", .str "swap", .str "credit", .str "pay", .str "pay"])) w2 (.lst [.str "refund", .str "move", .str "order"])) w3 (.lst words12) w3 = some (.lst words12) := upd_same
  change tSeq _ _ _ _ (upd (upd (upd H w1 (.lst [.str "deliver", .str "deliver", .str "deliver", .str "deliver", .str "back", .str "swap", .str "credit", .str "pay", .str "pay"])) w2 (.lst [.str "refund", .str "move", .str "order"])) w3 (.lst words12))
  revert s3 e3
  generalize upd (upd (upd H w1 (.lst [.str "deliver", .str "deliver", .str "deliver", .str "deliver", .str "back", .str "swap", .str "credit", .str "pay", .str "pay"])) w2 (.lst [.str "refund", .str "move", .str "order"])) w3 (.lst words12) = H3
  intro s3 e3
  have h3 := h.same s3
  walk_at "rd"
  walk_at "ml"
  walk_at "rd"
  walk_at "md"
  walk_at "rd"
  walk_at "md"
  obtain ⟨w', hw, ew⟩ := word12 (c * 48271 % 10007)
  refine r_ixL (SqL.of e3) ew ?_
  walk_at "rs"
  with_reducible refine r_seq ?_
  with_reducible refine ifj (fun b H' => Same H3 H' ∧ (b = true → os.length < 4) ∧ (b = false → os ≠ [])) ?_ fun QB hQB => ?_
  rotate_left
  · walk_at "rd"
    refine r_mk (by simp) fun e he => ?_
    have se := same_upd (o := .lst []) he
    refine r_eqAcc (h3.same se) ok upd_same ?_
    walk_at "rd"
    refine r_itd (fun c1 => ?_) (fun c1 => ?_)
    · exact hQB _ _ ⟨se, fun _ => (by rw [c1]; decide), fun z => by cases z⟩
    · walk_at "rd"
      refine r_itd (fun c2 => ?_) (fun c2 => ?_)
      · walk_at "rd"
        refine ⟨a, _, rfl, .inl (SqL.of (h3.same se).top), ?_⟩
        walk_at "rd"
        rw [List.length_map, h.len]
        refine hQB _ _ ⟨se, fun z => ?_, fun _ => c1⟩
        have := of_decide_eq_true z
        omega
      · exact hQB _ _ ⟨se, fun z => (by cases z), fun _ => c1⟩
  rintro b H4 ⟨s4, b1, b2⟩
  have h4 := h3.same s4
  have s04 := s3.trans s4
  refine r_itb (fun cb => ?_) (fun cb => ?_)
  · walk_at "rd"
    refine ⟨m, rfl, fun r ls H5 gl s5 hr ⟨xs, e5, p5⟩ => ?_⟩
    walk_at "rd"
    refine r_mk (by simp) fun t ht => ?_
    have s6 := same_upd (o := .tup [.str "order", .ref r]) ht
    refine k _ (.ord ls) _ (s04.trans (s5.trans s6)) ⟨t, r, xs, rfl, upd_same, s6 _ _ e5, Same.free s04 hr, (But.of (S := fun _ => False) s6).lts p5⟩ trivial (fun ls' q => ?_) fun _ _ _ => trivial
    cases q
    exact ⟨gl, b1 cb⟩
  walk_at "rs"
  with_reducible refine r_join (fun σ' H' => H4 = H' ∧ ∃ w2 : Str, (wLn w2 ∨ wMo w2 ∨ w2 = "move") ∧ σ' = [some (.int c), some (.int m), some (.ref a), some (.ref w3), some (.str w2), none, none, none, none]) ?_ fun N hN => ?_
  rotate_left
  · walk_at "rd"
    refine r_itd (fun c1 => ?_) (fun c1 => ?_)
    · walk_at "rd"
      exact hN _ _ ⟨rfl, _, .inr (.inr rfl), rfl⟩
    · walk_at "rd"
      refine hN _ _ ⟨rfl, w', ?_, rfl⟩
      rcases hw with q | q | q | q
      · exact .inl q
      · exact .inr (.inl q)
      · exact .inr (.inr q)
      · exact absurd q c1
  rintro σ' _ ⟨rfl, w2, hw2, rfl⟩
  walk_at "rd"
  refine ⟨a, _, rfl, .inl (SqL.of h4.top), ?_⟩
  walk_at "rd"
  rw [List.length_map, h4.len]
  have few := ok.1
  refine ⟨_, _, _, rfl, by decide, fun at' pat => ?_⟩
  walk_at "rd"
  have lnmo : wLn w2 → ¬ w2 = "pay" ∧ ¬ w2 = "refund" ∧ ¬ w2 = "move" := fun g => ⟨(gln g).2.2.1, (gln g).2.2.2, (gln g).2.1⟩
  rcases hw2 with g | g | g
  rotate_left
  · -- money
    have fin : ∀ H6 t n, Same H4 H6 → H6 t = none → NB (mostOf os w2 at' 0) n → Q (.ref t) (upd H6 t (.tup [.str w2, .int at', .int n])) := fun H6 t n s6 ht nb => by
      have s7 := same_upd (o := .tup [.str w2, .int at', .int n]) ht
      exact k _ (.mo w2 at' n) _ (s04.trans (s6.trans s7)) ⟨t, rfl, upd_same⟩ g (fun ls q => by cases q) fun M hM hm => ⟨pb_in pat (by omega) (by omega) hM, nb M hM (hm _ _ _).1 (hm _ _ _).2⟩
    rcases g with c1 | c1
    · refine r_ity c1 ?_
      walk_at "rd"
      refine ⟨w2, at', 0, a, os, A, rfl, h4, ok, fun H5 s5 => ?_⟩
      walk_at "rd"
      refine ⟨_, _, rfl, fun n nb => ?_⟩
      walk_at "rd"
      exact r_mk (by simp) fun t ht => fin _ _ _ s5 ht nb
    · refine r_itz (by rw [c1]; decide +kernel) ?_
      walk_at "rd"
      refine r_ity c1 ?_
      walk_at "rd"
      refine ⟨w2, at', 0, a, os, A, rfl, h4, ok, fun H5 s5 => ?_⟩
      walk_at "rd"
      refine ⟨_, _, rfl, fun n nb => ?_⟩
      walk_at "rd"
      exact r_mk (by simp) fun t ht => fin _ _ _ s5 ht nb
  · -- move
    refine r_itz (by rw [g]; decide +kernel) ?_
    walk_at "rd"
    refine r_itz (by rw [g]; decide +kernel) ?_
    walk_at "rd"
    refine r_ity g ?_
    walk_at "rd"
    refine ⟨a, _, rfl, .inl (SqL.of h4.top), ?_⟩
    walk_at "rd"
    rw [List.length_map, h4.len]
    refine ⟨_, _, _, rfl, by decide, fun ot pot => ?_⟩
    walk_at "rd"
    refine ⟨w2, at', 0, a, os, A, rfl, h4, ok, fun H5 s5 => ?_⟩
    walk_at "rd"
    refine ⟨_, _, rfl, fun n nb => ?_⟩
    walk_at "rd"
    refine r_mk (by simp) fun t ht => ?_
    have s7 := same_upd (o := .tup [.str w2, .int at', .int ot, .int n]) ht
    refine k _ (.mv at' ot n) _ (s04.trans (s5.trans s7)) ⟨t, rfl, ?_⟩ trivial (fun ls q => by cases q) fun M hM hm => ⟨pb_in pat (by omega) (by omega) hM, pb_in pot (by omega) (by omega) hM, nb M hM (hm _ _ _).1 (hm _ _ _).2⟩
    rw [upd_same, g]
  · obtain ⟨n1, n2, n3⟩ := lnmo g
    refine r_itz n1 ?_
    walk_at "rd"
    refine r_itz n2 ?_
    walk_at "rd"
    refine r_itz n3 ?_
    walk_at "rs"
    walk_at "rd1"
    walk_at "rs"
    with_reducible refine r_join (fun σ' H' => H4 = H' ∧ ∃ sz : Int, (0 ≤ sz ∧ sz ≤ 1000) ∧ σ' = [some (.int c), some (.int m), some (.ref a), some (.ref w3), some (.str w2), some (.int at'), none, some (.int sz), none]) ?_ fun N hN => ?_
    rotate_left
    · walk_at "rd"
      refine r_itd (fun c1 => ?_) (fun c1 => ?_)
      · walk_at "rd"
        refine ⟨a, _, rfl, .inl (SqL.of h4.top), ?_⟩
        walk_at "rd"
        rw [List.length_map, h.len]
        refine r_itd (fun c2 => ?_) (fun c2 => ?_)
        · walk_at "rd"
          obtain ⟨j, rfl⟩ : ∃ j : Nat, at' = (j : Int) := ⟨at'.toNat, by omega⟩
          have hj : j < os.length := by omega
          obtain ⟨p, ep, O, ev⟩ := acc_at h4 (List.getElem?_eq_getElem hj)
          refine r_ixL (SqL.of h4.top) (atI_get rfl ev) ?_
          walk_at "rd"
          refine r_ixL (SqL.of O.ob) (atI_get (j := 0) rfl rfl) ?_
          walk_at "rd"
          refine ⟨_, _, rfl, .inl (SqL.of O.ll), ?_⟩
          walk_at "rd"
          refine hN _ _ ⟨rfl, _, ?_, rfl⟩
          rw [List.length_map, O.len]
          have := (ok.2 _ (List.getElem_mem hj)).1.few
          omega
        · walk_at "rd"
          exact hN _ _ ⟨rfl, _, ⟨by decide, by decide⟩, rfl⟩
      · walk_at "rd"
        exact hN _ _ ⟨rfl, _, ⟨by decide, by decide⟩, rfl⟩
    rintro σ' _ ⟨rfl, sz, bsz, rfl⟩
    walk_at "rd"
    refine ⟨_, _, _, rfl, by decide, fun pl ppl => ?_⟩
    walk_at "rd"
    refine ⟨w2, at', pl, a, os, A, rfl, h4, ok, fun H5 s5 => ?_⟩
    walk_at "rd"
    refine ⟨_, _, rfl, fun n nb => ?_⟩
    walk_at "rd"
    refine r_mk (by simp) fun t ht => ?_
    have s7 := same_upd (o := .tup [.str w2, .int at', .int pl, .int n]) ht
    exact k _ (.ln w2 at' pl n) _ (s04.trans (s5.trans s7)) ⟨t, rfl, upd_same⟩ g (fun ls q => by cases q) fun M hM hm => ⟨pb_in pat (by omega) (by omega) hM, pb_in ppl bsz.1 bsz.2 hM, nb M hM (hm _ _ _).1 (hm _ _ _).2⟩

/-! ### a deed as data, what it touches -/
def ltRow (t : Lt) : List V := [.str t.item, .int t.pieces, .int t.cents, .int t.pack]
def dDeed : Dd → PyData
  | .ord ls => .tuple [.str "order", dRows (ls.map ltRow)]
  | .ln w o l n => dTup [.str w, .int o, .int l, .int n]
  | .mo w o n => dTup [.str w, .int o, .int n]
  | .mv o p n => dTup [.str "move", .int o, .int p, .int n]
theorem lt_rows {H : Hp} : ∀ {xs : List V} {ls : List Lt}, LtsAt H xs ls → Paired (TupAt H) xs (ls.map ltRow)
  | _, _, .nil => .nil
  | _, _, .cons ⟨t, e, h⟩ r => .cons ⟨t, e, h⟩ (lt_rows r)
theorem lt_rws {ls : List Lt} (h : ∀ t, t ∈ ls → PyData.strOk t.item = true) : Rws (ls.map ltRow) := fun r hr => by
  obtain ⟨t, ht, rfl⟩ := List.mem_map.mp hr
  exact .cons (.inr ⟨_, rfl, h t ht⟩) (.cons .int (.cons .int (.cons .int .nil)))
def Dd.plain (d : Dd) : Prop := ∀ ls, d = .ord ls → ∀ t, t ∈ ls → PyData.strOk t.item = true
theorem Dd.wd {d : Dd} (g : d.good) : Sc (.str (word d)) := .inr ⟨_, rfl, word_str g⟩
theorem deed_dp {K : PySem.W.Frag} {F : Addr → Prop} {H : Hp} {v : V} {d : Dd} (g : d.good) (pl : d.plain) (h : DdAt F H v d) : Dp K H v (dDeed d) ∧ SeqAt.shaped (dDeed d) = true := by
  cases d with
  | ord ls =>
    obtain ⟨t, l, xs, rfl, ht, hl, _, p⟩ := h
    have rw_ := lt_rws (pl ls rfl)
    obtain ⟨a, b⟩ := dRows_lay rw_
    refine ⟨.tup (SqT.of ht) (.cons (.str _) (.cons (dRows_dp (SqL.of hl) (lt_rows p) rw_) .nil)), ?_⟩
    have c : PyData.canLay0 (dDeed (.ord ls)) = true := by
      simp only [dDeed, PyData.canLay0, PyData.canLayAll0, a]
      decide +kernel
    have e : PyData.depth (dDeed (.ord ls)) ≤ 4 := by
      simp only [dDeed, PyData.depth, PyData.depthAll]
      omega
    unfold SeqAt.shaped
    rw [c, decide_eq_true (by omega)]
    rfl
  | ln w o l n =>
    obtain ⟨t, rfl, ht⟩ := h
    have s : Scs [.str w, .int o, .int l, .int n] := .cons (Dd.wd (d := .ln w o l n) g) (.cons .int (.cons .int (.cons .int .nil)))
    exact ⟨dTup_dp (SqT.of ht) s, dTup_shaped s⟩
  | mo w o n =>
    obtain ⟨t, rfl, ht⟩ := h
    have s : Scs [.str w, .int o, .int n] := .cons (Dd.wd (d := .mo w o n) g) (.cons .int (.cons .int .nil))
    exact ⟨dTup_dp (SqT.of ht) s, dTup_shaped s⟩
  | mv o p n =>
    obtain ⟨t, rfl, ht⟩ := h
    have s : Scs [.str "move", .int o, .int p, .int n] := .cons (Dd.wd (d := .mv o p n) g) (.cons .int (.cons .int (.cons .int .nil)))
    exact ⟨dTup_dp (SqT.of ht) s, dTup_shaped s⟩
theorem r_neDeed {K : PySem.W.Frag} {F F' : Addr → Prop} {H : Hp} {Q : VK} {v u : V} {d : Dd} (g : d.good) (pl : d.plain) (h : DdAt F H v d) (h' : DdAt F' H u d) (k : Q (.bl false) H) : rNeD K v u H Q := by
  obtain ⟨a, s⟩ := deed_dp (K := K) g pl h
  obtain ⟨b, _⟩ := deed_dp (K := K) g pl h'
  refine ⟨_, _, a, b, s, s, ?_⟩
  rw [SeqAt.eqv_refl _ (SeqAt.canLay_of_shaped s)]
  exact k
theorem Good.plain {d : Dd} (h : ∀ ls, d = .ord ls → Good ls) : d.plain := fun ls e t ht => item_str ((h ls e).2 t ht).1
theorem Good.few' {d : Dd} (h : ∀ ls, d = .ord ls → Good ls) : d.few := by
  cases d with
  | ord ls => exact (h ls rfl).few
  | _ => trivial
theorem Good.step {os : List Od} {ls : List Lt} (g : Good ls) (h : os.length < 40) : step os (.ord ls) = .ok (os ++ [⟨ls.map Lt.ln, 0, []⟩], []) := by
  simp only [Of.step]
  unfold stepOrd
  rw [g.err h]
theorem cs_len {os es : List Od} {cs : List (Int × Int)} {d : Dd} (e : Of.step os d = .ok (es, cs)) : cs.length ≤ 2 := by
  by_cases no : ∃ ls, d = .ord ls
  · obtain ⟨ls, rfl⟩ := no
    have e' : stepOrd os ls = .ok (es, cs) := e
    unfold stepOrd at e'
    split at e'
    · cases e'
    cases e'
    simp
  · obtain ⟨os1, tq, _, ecs, _, _⟩ := step_turn (fun ls e => no ⟨ls, e⟩) e
    rw [ecs]
    cases d <;> simp [places]
/-- ints of a list that are chosen -/
theorem lcp_filt {K : PySem.W.Frag} {tt : TT} {te : TE} {j : Nat} {σ : L2.St} {H1 : Hp} {Q : VK} {a : Addr} {ns : List Int} (p : Int → Prop) (hs : SqL K H1 a (ns.map V.int)) (hz : ns.length ≤ 100000)
    (ht : ∀ (n : Int) (H' : Hp) (QB : Bool → Hp → Prop), Same H1 H' → (∀ b, (b = true → p n) → QB b H') → tt ((wipe σ [j]).set j (some (.int n))) H' QB)
    (he : ∀ (n : Int) (H' : Hp) (W : VK), Same H1 H' → W (.int n) H' → te ((wipe σ [j]).set j (some (.int n))) H' W)
    (k : ∀ (D : Addr) (H' : Hp) (js : List Int), H1 D = none → Same H1 H' → H' D = some (.lst (js.map V.int)) → (∀ n, n ∈ js → p n) → js.length ≤ ns.length → Q (.ref D) H') :
    ∃ a', V.ref a = V.ref a' ∧ (∃ xs, SqL K H1 a' xs) ∧ Lcs (Itl K a') (gName j) tt te [j] σ H1 Q := by
  refine ⟨a, rfl, ⟨_, hs⟩, fun D hD => ?_⟩
  refine lc_list (K := K) (a := a) (xs := ns.map V.int) (fun i H' => Same H1 H' ∧ ∃ js : List Int, H' D = some (.lst (js.map V.int)) ∧ (∀ n, n ∈ js → p n) ∧ js.length ≤ i) ⟨same_upd hD, [], upd_same, (fun n hn => by cases hn), Nat.le_refl _⟩ (fun i H' _ q => q.1.seq hs) ?_ ?_
  · rintro i x H' hi ⟨s, js, e, pj, lj⟩
    have hil : i < ns.length := by
      have := (List.getElem?_eq_some_iff.mp hi).1
      simpa using this
    rw [List.getElem?_map] at hi
    cases en : ns[i]? with
    | none => rw [en] at hi; cases hi
    | some n =>
      rw [en] at hi
      cases hi
      refine ⟨wipe1, ht n _ _ s fun b pb => ?_⟩
      cases b with
      | true =>
        rw [if_pos rfl]
        refine he n _ _ s ⟨_, e, ?_, ?_, js ++ [n], ?_, ?_, ?_⟩
        · rw [List.length_map]; refine sz5l ?_; omega
        · exact fun b o q => by
            rw [upd_ne (ne_of_none q hD)]
            exact s _ _ q
        · rw [upd_same, List.map_append]; rfl
        · intro m hm
          rcases List.mem_append.mp hm with z | z
          · exact pj m z
          · rw [List.mem_singleton.mp z]; exact pb rfl
        · simp; exact lj
      | false =>
        rw [if_neg (by decide)]
        exact ⟨s, js, e, pj, Nat.le_succ_of_le lj⟩
  · rintro H' ⟨s, js, e, pj, lj⟩
    rw [List.length_map] at lj
    exact k D H' js hD s e pj lj

/-! ### what stands of lines, of orders -/
def Ln.base (l : Ln) : Lt := ⟨l.item, l.ordered, l.cents, l.pack⟩
structure Ln.inv (l : Ln) : Prop where
  it : isItem l.item = true
  ok : l.ok
  a : 0 ≤ l.again
  b : l.again ≤ l.home
  c : l.home ≤ l.sent
  d : l.sent ≤ l.ordered + l.again
  e : 0 ≤ l.credited
  f : l.credited ≤ l.worth
theorem worth_mono {k m c p : Int} (h : k ≤ m) (hc : 0 ≤ c) (hp : 0 < p) : k * c / p ≤ m * c / p := Int.ediv_le_ediv hp (Int.mul_le_mul_of_nonneg_right h hc)
theorem worth_pos {k c p : Int} (h : 0 ≤ k) (hc : 0 ≤ c) (hp : 0 < p) : 0 ≤ k * c / p := Int.ediv_nonneg (Int.mul_nonneg h hc) (Int.le_of_lt hp)
theorem Ln.turn_inv {l l' : Ln} {w : Str} {n : Int} (h : l.inv) (hn : 1 ≤ n) (e : l.turn w n = some l') : l'.inv ∧ l'.base = l.base := by
  have hc : 0 ≤ l.cents := h.ok.1.1
  have hp : 0 < l.pack := by have := h.ok.2.1; omega
  have ha := h.a
  have hb := h.b
  have hcc := h.c
  have hd := h.d
  have he := h.e
  have hf : l.credited ≤ (l.sent - l.home) * l.cents / l.pack := h.f
  unfold Ln.turn at e
  split at e
  · unfold Ln.deliver at e
    split at e
    · cases e
    rename_i q
    have q' : ¬ n > l.ordered - l.sent + l.again := q
    cases e
    refine ⟨⟨h.it, h.ok, h.a, h.b, ?_, ?_, h.e, ?_⟩, rfl⟩
    · show l.home ≤ l.sent + n
      omega
    · show l.sent + n ≤ l.ordered + l.again
      omega
    · show l.credited ≤ (l.sent + n - l.home) * l.cents / l.pack
      exact Int.le_trans hf (worth_mono (by omega) hc hp)
  · split at e
    · unfold Ln.reduce at e
      split at e
      · cases e
      rename_i q
      have q' : ¬ n > (l.sent - l.home) * l.cents / l.pack - l.credited := q
      cases e
      refine ⟨⟨h.it, h.ok, h.a, h.b, h.c, h.d, ?_, ?_⟩, rfl⟩
      · show 0 ≤ l.credited + n
        omega
      · show l.credited + n ≤ (l.sent - l.home) * l.cents / l.pack
        omega
    · unfold Ln.bring at e
      split at e
      · cases e
      rename_i q
      have q' : ¬ n > l.sent - l.home := q
      have cut : ∀ m : Ln, isItem m.item = true → m.ok → 0 ≤ m.again → m.again ≤ m.home → m.home ≤ m.sent → m.sent ≤ m.ordered + m.again → 0 ≤ m.credited → 0 ≤ m.worth → m.cut.inv ∧ m.cut.base = m.base := fun m h1 h2 h3 h4 h5 h6 h7 h8 => by
        refine ⟨⟨h1, h2, h3, h4, h5, h6, ?_, ?_⟩, rfl⟩
        · show 0 ≤ (if m.worth < m.credited then m.worth else m.credited)
          split <;> omega
        · show (if m.worth < m.credited then m.worth else m.credited) ≤ m.worth
          split <;> omega
      cases e
      split
      · refine cut _ h.it h.ok ?_ ?_ ?_ ?_ h.e (worth_pos ?_ hc hp)
        · show 0 ≤ l.again + n
          omega
        · show l.again + n ≤ l.home + n
          omega
        · show l.home + n ≤ l.sent
          omega
        · show l.sent ≤ l.ordered + (l.again + n)
          omega
        · show 0 ≤ l.sent - (l.home + n)
          omega
      · refine cut _ h.it h.ok h.a ?_ ?_ h.d h.e (worth_pos ?_ hc hp)
        · show l.again ≤ l.home + n
          omega
        · show l.home + n ≤ l.sent
          omega
        · show 0 ≤ l.sent - (l.home + n)
          omega
structure Od.inv (o : Od) : Prop where
  ln : ∀ l, l ∈ o.lines → l.inv
  mo : 0 ≤ o.money
  su : (o.marks.map (·.2)).sum = o.owing
  st : ∀ m, m ∈ o.marks → PyData.strOk m.1 = true
  few : o.lines.length ≤ 20
theorem charges_pos : ∀ {ls : List Ln}, (∀ l, l ∈ ls → l.inv) → 0 ≤ (ls.map Ln.charge).sum
  | [], _ => Int.le_refl _
  | l :: ls, h => by
    have h1 := (h l List.mem_cons_self).f
    have h2 := charges_pos (ls := ls) fun x hx => h x (List.mem_cons_of_mem _ hx)
    show 0 ≤ l.charge + (ls.map Ln.charge).sum
    have h3 : l.charge = l.worth - l.credited := rfl
    omega
theorem Od.inv.marked {o : Od} {w : Str} {c : Int} (ln : ∀ l, l ∈ o.lines → l.inv) (mo : 0 ≤ o.money) (st : ∀ m, m ∈ o.marks → PyData.strOk m.1 = true) (few : o.lines.length ≤ 20) (hw : PyData.strOk w = true) (su : (o.marks.map (·.2)).sum + c = o.owing) : (o.mark w c).inv where
  ln := ln
  mo := mo
  su := by
    show ((o.marks ++ [(w, c)]).map (·.2)).sum = Od.owing o
    rw [List.map_append, List.sum_append]
    simp
    exact su
  st := fun m hm => by
    rcases List.mem_append.mp hm with h | h
    · exact st m h
    · rw [List.mem_singleton.mp h]; exact hw
  few := few
theorem charge_zero : ∀ ls : List Lt, ((ls.map Lt.ln).map Ln.charge).sum = 0
  | [] => rfl
  | t :: r => by
    have ih := charge_zero r
    have cz : t.ln.charge = 0 := by
      show ((0 - 0) * t.cents) / t.pack - 0 = 0
      simp
    show t.ln.charge + ((r.map Lt.ln).map Ln.charge).sum = 0
    omega
/-- what a step did of each order -/
structure Chg (d : Dd) (os es : List Od) (cs : List (Int × Int)) : Prop where
  at_ : ∀ (j : Nat) a b, os[j]? = some a → es[j]? = some b → ((cs.filter fun c => decide (c.1 = (j : Int))).length ≤ 1 ∧ b.owing - a.owing = ((cs.filter fun c => decide (c.1 = (j : Int))).map (·.2)).sum ∧
    ((cs.filter fun c => decide (c.1 = (j : Int))) = [] → b = a) ∧ (wLn (word d) → b.money = a.money) ∧ (¬ wLn (word d) → b.lines = a.lines) ∧ b.lines.map Ln.base = a.lines.map Ln.base)
  sum : (cs.map (·.2)).sum = (es.map Od.owing).sum - (os.map Od.owing).sum
  inv : (∀ o, o ∈ os → o.inv) → ∀ o, o ∈ es → o.inv
theorem sum_set {os : List Od} {j : Nat} {a b : Od} (ea : os[j]? = some a) : ((os.set j b).map Od.owing).sum = (os.map Od.owing).sum + (b.owing - a.owing) := by
  induction os generalizing j with
  | nil => simp at ea
  | cons o r ih =>
    cases j with
    | zero =>
      have e : o = a := Option.some.inj ea
      subst e
      show b.owing + (r.map Od.owing).sum = o.owing + (r.map Od.owing).sum + _
      omega
    | succ j =>
      have q := ih (j := j) (by simpa using ea)
      show o.owing + ((r.set j b).map Od.owing).sum = o.owing + (r.map Od.owing).sum + _
      omega
theorem set_at {os : List Od} {j k : Nat} {a b x y : Od} (ea : os[j]? = some a) (ex : os[k]? = some x) (ey : (os.set j b)[k]? = some y) : (k = j ∧ x = a ∧ y = b) ∨ (k ≠ j ∧ y = x) := by
  have hj := (List.getElem?_eq_some_iff.mp ea).1
  by_cases c : k = j
  · subst c
    rw [List.getElem?_set_self hj] at ey
    rw [ea] at ex
    exact .inl ⟨rfl, (Option.some.inj ex).symm, (Option.some.inj ey).symm⟩
  · rw [List.getElem?_set_ne (Ne.symm c), ex] at ey
    exact .inr ⟨c, (Option.some.inj ey).symm⟩
theorem chg_one {d : Dd} {os : List Od} {j : Nat} {a b : Od} (ea : os[j]? = some a) (h1 : wLn (word d) → b.money = a.money) (h2 : ¬ wLn (word d) → b.lines = a.lines) (h3 : b.lines.map Ln.base = a.lines.map Ln.base) (h4 : a.inv → b.inv) :
    Chg d os (os.set j b) [((j : Int), b.owing - a.owing)] where
  at_ := fun k x y ex ey => by
    rcases set_at ea ex ey with ⟨rfl, rfl, rfl⟩ | ⟨n, rfl⟩
    · have e : ([((k : Int), y.owing - x.owing)].filter fun c => decide (c.1 = (k : Int))) = [((k : Int), y.owing - x.owing)] := by simp
      rw [e]
      exact ⟨Nat.le_refl _, by simp, fun z => (by cases z), h1, h2, h3⟩
    · have e : ([((j : Int), b.owing - a.owing)].filter fun c => decide (c.1 = (k : Int))) = [] := by
        have : ¬ (j : Int) = (k : Int) := by omega
        simp [this]
      rw [e]
      exact ⟨Nat.zero_le _, by simp, fun _ => rfl, fun _ => rfl, fun _ => rfl, rfl⟩
  sum := by
    rw [sum_set ea]
    simp
    omega
  inv := fun h o ho => by
    rcases set_mem ho with q | q
    · exact h o q
    · rw [q]; exact h4 (h a (List.mem_of_getElem? ea))
theorem step_chg {os es : List Od} {d : Dd} {cs : List (Int × Int)} (g : d.good) (gd : ∀ ls, d = .ord ls → Good ls) (st : step os d = .ok (es, cs)) : Chg d os es cs := by
  cases d with
  | ord ls =>
    have G := gd ls rfl
    have e' : stepOrd os ls = .ok (es, cs) := st
    unfold stepOrd at e'
    split at e'
    · cases e'
    cases e'
    have oz : Od.owing ⟨ls.map Lt.ln, 0, []⟩ = 0 := by
      have := charge_zero ls
      show ((ls.map Lt.ln).map Ln.charge).sum - 0 = 0
      omega
    refine ⟨fun j a b ea eb => ?_, ?_, fun h o ho => ?_⟩
    · rw [List.getElem?_append_left (List.getElem?_eq_some_iff.mp ea).1, ea] at eb
      cases eb
      exact ⟨Nat.zero_le _, by simp, fun _ => rfl, fun _ => rfl, fun _ => rfl, rfl⟩
    · rw [List.map_append, List.sum_append]
      simp [oz]
    · rcases List.mem_append.mp ho with q | q
      · exact h o q
      · rw [List.mem_singleton.mp q]
        refine ⟨fun l hl => ?_, Int.le_refl _, by rw [oz]; rfl, fun m hm => (by cases hm), by simpa using G.1.2⟩
        obtain ⟨t, ht, rfl⟩ := List.mem_map.mp hl
        obtain ⟨hi, n1, n2, n3⟩ := G.2 t ht
        refine ⟨hi, ⟨n2, n3⟩, Int.le_refl _, Int.le_refl _, Int.le_refl _, ?_, Int.le_refl _, ?_⟩
        · show (0 : Int) ≤ t.pieces + 0
          omega
        · show (0 : Int) ≤ ((0 - 0) * t.cents) / t.pack
          simp
  | ln w o l n =>
    have e' : stepLn os w o l n = .ok (es, cs) := st
    unfold stepLn at e'
    rcases at_or os o with ⟨q, _⟩ | ⟨j, od, rfl, eo, q⟩
    · rw [q] at e'; cases e'
    rw [q] at e'
    dsimp only at e'
    rcases at_or od.lines l with ⟨q, _⟩ | ⟨i, x, rfl, el, q⟩
    · rw [q] at e'; cases e'
    rw [q] at e'
    dsimp only at e'
    split at e'
    · cases e'
    rename_i hn
    cases et : x.turn w n with
    | none => rw [et] at e'; cases e'
    | some x' =>
      rw [et] at e'
      cases e'
      have hwl : wLn (word (.ln w j i n)) := g
      have bs : x.inv → x'.inv ∧ x'.base = x.base := fun h => Ln.turn_inv h (by omega) et
      have bb : x'.base = x.base := by
        rcases turn_def g et with ⟨_, rfl⟩ | ⟨_, rfl⟩ | ⟨_, _, rfl⟩
        · rfl
        · rfl
        · rfl
      have ob : (od.lines.set i x').map Ln.base = od.lines.map Ln.base := by
        rw [List.map_set, bb]
        have hi := (List.getElem?_eq_some_iff.mp el).1
        have : (od.lines.map Ln.base)[i]? = some x.base := by rw [List.getElem?_map, el]; rfl
        apply List.ext_getElem?
        intro k
        by_cases c : i = k
        · subst c
          rw [List.getElem?_set_self (by simpa using hi), this]
        · rw [List.getElem?_set_ne c]
      refine chg_one (b := Od.mark { od with lines := od.lines.set i x' } w (Od.owing { od with lines := od.lines.set i x' } - od.owing)) eo (fun _ => rfl) (fun z => absurd hwl z) ob fun h => ?_
      refine Od.inv.marked (fun y hy => ?_) h.mo h.st (by show (od.lines.set i x').length ≤ 20; rw [List.length_set]; exact h.few) (word_str (d := .ln w j i n) g) ?_
      · rcases List.mem_or_eq_of_mem_set hy with z | z
        · exact h.ln y z
        · rw [z]; exact (bs (h.ln x (List.mem_of_getElem? el))).1
      · show (od.marks.map (·.2)).sum + _ = _
        rw [h.su]
        omega
  | mo w o n =>
    have e' : stepMo os w o n = .ok (es, cs) := st
    unfold stepMo at e'
    rcases at_or os o with ⟨q, _⟩ | ⟨j, od, rfl, eo, q⟩
    · rw [q] at e'; cases e'
    rw [q] at e'
    dsimp only at e'
    have nw : ¬ wLn (word (.mo w j n)) := fun z => by
      have z' : wLn w := z
      rcases g with rfl | rfl
      · exact (gln z').2.2.1 rfl
      · exact (gln z').2.2.2 rfl
    have fin : ∀ m : Int, (od.inv → 0 ≤ od.money + m) → Chg (.mo w j n) os (os.set j (Od.mark (od.pay m) w ((od.pay m).owing - od.owing))) [((j : Int), (od.pay m).owing - od.owing)] := fun m hm =>
      chg_one (b := Od.mark (od.pay m) w ((od.pay m).owing - od.owing)) eo (fun z => absurd z nw) (fun _ => rfl) rfl fun h => Od.inv.marked h.ln (hm h) h.st h.few (word_str (d := .mo w j n) g) (by
        show (od.marks.map (·.2)).sum + _ = _
        rw [h.su]
        omega)
    split at e'
    · cases e'
    rename_i hn
    split at e'
    · cases e'
      exact fin n fun h => by have := h.mo; omega
    split at e'
    · cases e'
    rename_i ho
    cases e'
    refine fin (-n) fun h => ?_
    have c := charges_pos h.ln
    have ow : od.owing = (od.lines.map Ln.charge).sum - od.money := rfl
    omega
  | mv o p n =>
    have e' : stepMv os o p n = .ok (es, cs) := st
    unfold stepMv at e'
    rcases at_or os o with ⟨q, _⟩ | ⟨i, a, rfl, ea, q⟩
    · rw [q] at e'; cases e'
    rw [q] at e'
    dsimp only at e'
    rcases at_or os p with ⟨q, _⟩ | ⟨j, b, rfl, eb, q⟩
    · rw [q] at e'; cases e'
    rw [q] at e'
    dsimp only at e'
    split at e'
    · cases e'
    rename_i hij
    split at e'
    · cases e'
    rename_i hn
    split at e'
    · cases e'
    rename_i ho
    cases e'
    have ij : i ≠ j := fun z => hij (by rw [z])
    have nw : ¬ wLn (word (.mv i j n)) := fun z => by
      have z' : wLn ("move" : Str) := z
      exact (gln z').2.1 rfl
    have ms : PyData.strOk ("move" : Str) = true := by decide +kernel
    have a2 : a.inv → (Od.mark (a.pay (-n)) "move" ((a.pay (-n)).owing - a.owing)).inv := fun h => Od.inv.marked h.ln (by
      have c := charges_pos h.ln
      have ow : a.owing = (a.lines.map Ln.charge).sum - a.money := rfl
      show 0 ≤ a.money + -n
      omega) h.st h.few ms (by
      show (a.marks.map (·.2)).sum + _ = _
      rw [h.su]
      omega)
    have b2 : b.inv → (Od.mark (b.pay n) "move" ((b.pay n).owing - b.owing)).inv := fun h => Od.inv.marked h.ln (by
      have := h.mo
      show 0 ≤ b.money + n
      omega) h.st h.few ms (by
      show (b.marks.map (·.2)).sum + _ = _
      rw [h.su]
      omega)
    have c1 := chg_one (d := .mv i j n) (b := Od.mark (a.pay (-n)) "move" ((a.pay (-n)).owing - a.owing)) ea (fun z => absurd z nw) (fun _ => rfl) rfl a2
    have eb' : (os.set i (Od.mark (a.pay (-n)) "move" ((a.pay (-n)).owing - a.owing)))[j]? = some b := by rw [List.getElem?_set_ne ij]; exact eb
    have c2 := chg_one (d := .mv i j n) (b := Od.mark (b.pay n) "move" ((b.pay n).owing - b.owing)) eb' (fun z => absurd z nw) (fun _ => rfl) rfl b2
    have app : ∀ k : Int, ([((i : Int), (a.pay (-n)).owing - a.owing), ((j : Int), (b.pay n).owing - b.owing)].filter fun c => decide (c.1 = k)) = ([((i : Int), (a.pay (-n)).owing - a.owing)].filter fun c => decide (c.1 = k)) ++ ([((j : Int), (b.pay n).owing - b.owing)].filter fun c => decide (c.1 = k)) := fun k => List.filter_append (p := fun c : Int × Int => decide (c.1 = k)) [_] [_]
    refine ⟨fun k x z ex ez => ?_, ?_, fun h => c2.inv (c1.inv h)⟩
    · obtain ⟨y, ey⟩ : ∃ y, (os.set i (Od.mark (a.pay (-n)) "move" ((a.pay (-n)).owing - a.owing)))[k]? = some y := by
        have := (List.getElem?_eq_some_iff.mp ex).1
        exact ⟨_, List.getElem?_eq_getElem (by rw [List.length_set]; exact this)⟩
      have q1 : ([((i : Int), (a.pay (-n)).owing - a.owing)].filter fun c => decide (c.1 = (k : Int))).length ≤ 1 ∧ y.owing - x.owing = (([((i : Int), (a.pay (-n)).owing - a.owing)].filter fun c => decide (c.1 = (k : Int))).map (·.2)).sum ∧ _ := c1.at_ k x y ex ey
      have q2 : ([((j : Int), (b.pay n).owing - b.owing)].filter fun c => decide (c.1 = (k : Int))).length ≤ 1 ∧ z.owing - y.owing = (([((j : Int), (b.pay n).owing - b.owing)].filter fun c => decide (c.1 = (k : Int))).map (·.2)).sum ∧ _ := c2.at_ k y z ey ez
      rw [app]
      obtain ⟨u1, u2, u3, u4, u5, u6⟩ := q1
      obtain ⟨v1, v2, v3, v4, v5, v6⟩ := q2
      refine ⟨?_, by rw [List.map_append, List.sum_append]; omega, fun w => ?_, fun w => absurd w nw, fun w => (v5 w).trans (u5 w), v6.trans u6⟩
      · rw [List.length_append]
        by_cases ki : (i : Int) = (k : Int)
        · have : ¬ (j : Int) = (k : Int) := by omega
          have e2 : ([((j : Int), (b.pay n).owing - b.owing)].filter fun c => decide (c.1 = (k : Int))) = [] := by simp [this]
          rw [e2]
          simpa using u1
        · have e2 : ([((i : Int), (a.pay (-n)).owing - a.owing)].filter fun c => decide (c.1 = (k : Int))) = [] := by simp [ki]
          rw [e2]
          simpa using v1
      · obtain ⟨w1, w2⟩ := List.append_eq_nil_iff.mp w
        exact (v3 w2).trans (u3 w1)
    · have s1 := c1.sum
      have s2 := c2.sum
      have s1' : (a.pay (-n)).owing - a.owing + 0 = _ := s1
      have s2' : (b.pay n).owing - b.owing + 0 = _ := s2
      show (a.pay (-n)).owing - a.owing + ((b.pay n).owing - b.owing + 0) = _
      omega

/-! picked from x08 -/
abbrev numS (n : Nat) : Str := Str.ofString (toString ((n : Nat) : Int))
theorem tl_numS {n : Nat} : TL.tl (numS n) = TL.numL n := TL.tl_num n
theorem numS_len {n : Nat} (h : n < 10 ^ 30) : 1 ≤ (numS n).length ∧ (numS n).length ≤ 30 := by
  rw [TL.len_tl, tl_numS]
  refine ⟨?_, TL.numL_len (by decide) h⟩
  have := TL.numL_ne n
  cases e : TL.numL n with
  | nil => exact absurd e this
  | cons a r => simp
theorem join_cons {y x z : Str} {r : List Str} : Txt.join y (x :: z :: r) = x ++ y ++ Txt.join y (z :: r) := by
  rw [TL.join_eq, TL.join_eq]; rfl
theorem joinL_len {S : List Nat} {k : Nat} : ∀ ps : List (List Nat), (∀ p, p ∈ ps → p.length ≤ k) → (TL.joinL S ps).length ≤ ps.length * (k + S.length)
  | [], _ => Nat.zero_le _
  | [p], h => by
    have := h p List.mem_cons_self
    show p.length ≤ 1 * (k + S.length)
    omega
  | p :: q :: r, h => by
    have h1 := h p List.mem_cons_self
    have h2 := joinL_len (S := S) (q :: r) fun x hx => h x (List.mem_cons_of_mem _ hx)
    show (p ++ (S ++ TL.joinL S (q :: r))).length ≤ _
    rw [List.length_append, List.length_append, List.length_cons (as := q :: r), Nat.succ_mul]
    omega
theorem join_len {y : Str} {k : Nat} {ps : List Str} (h : ∀ p, p ∈ ps → p.length ≤ k) : (Txt.join y ps).length ≤ ps.length * (k + y.length) := by
  rw [TL.join_eq, TL.len_tl, TL.tl_join, TL.len_tl y]
  have := joinL_len (S := TL.tl y) (k := k) (ps.map TL.tl) fun p hp => by
    obtain ⟨z, hz, rfl⟩ := List.mem_map.mp hp
    rw [← TL.len_tl]; exact h z hz
  rw [List.length_map] at this
  exact this
theorem sum_len {k : Nat} : ∀ {ps : List Str}, (∀ p, p ∈ ps → p.length ≤ k) → (ps.map (·.length)).sum ≤ ps.length * k
  | [], _ => Nat.zero_le _
  | p :: r, h => by
    have h1 := h p List.mem_cons_self
    have h2 := sum_len (ps := r) fun x hx => h x (List.mem_cons_of_mem _ hx)
    rw [List.map_cons, List.sum_cons, List.length_cons, Nat.succ_mul]
    omega
structure Tl where
  z : Str
  a : Nat
  b : Nat
  c : Nat
structure Tl.ok (t : Tl) : Prop where
  z : isItem t.z = true
  a : t.a < 10 ^ 30
  b : t.b < 10 ^ 30
  c : t.c < 10 ^ 30
def Tl.row (t : Tl) : List V := [.str t.z, .int (t.a : Int), .int (t.b : Int), .int (t.c : Int)]
def Tl.str (t : Tl) : Str := Txt.join " " [t.z, numS t.a, numS t.b, numS t.c]
theorem item_free {z : Str} (h : isItem z = true) {s : Nat} (hs : s < 97) : s ∉ TL.tl z := fun m => by
  unfold isItem at h
  have q := of_decide_eq_true (Bool.and_eq_true_iff.mp h).1 s m
  have all : ∀ x, x ∈ letters.cps.toList → 97 ≤ x := by decide +kernel
  have := all s q
  omega
theorem Tl.ok.part_len {t : Tl} (h : t.ok) : ∀ p, p ∈ [t.z, numS t.a, numS t.b, numS t.c] → p.length ≤ 30 := fun p hp => by
  rcases List.mem_cons.mp hp with rfl | hp
  · have := item_len h.z; omega
  rcases List.mem_cons.mp hp with rfl | hp
  · exact (numS_len h.a).2
  rcases List.mem_cons.mp hp with rfl | hp
  · exact (numS_len h.b).2
  rcases List.mem_cons.mp hp with rfl | hp
  · exact (numS_len h.c).2
  cases hp
theorem Tl.len {t : Tl} (h : t.ok) : t.str.length ≤ 200 := by
  have := join_len (y := " ") (k := 30) h.part_len
  have e : (" " : Str).length = 1 := by decide +kernel
  rw [e] at this
  show (Txt.join " " _).length ≤ 200
  simp only [List.length_cons, List.length_nil] at this
  omega
theorem lcp_tup {K : PySem.W.Frag} {te : TE} {j : Nat} {σ : L2.St} {H1 : Hp} {Q : VK} {a : Addr} {xs ys : List V} (hs : H1 a = some (.tup xs)) (hl : ys.length = xs.length) (hz : xs.length ≤ 100000)
    (he : ∀ (i : Nat) (x y : V) (H' : Hp) (R : VK), xs[i]? = some x → ys[i]? = some y → Same H1 H' → (∀ H'', Same H' H'' → R y H'') → te ((wipe σ [j]).set j (some x)) H' R)
    (k : ∀ (D : Addr) (H' : Hp), H1 D = none → Same H1 H' → H' D = some (.lst ys) → Q (.ref D) H') : ∃ a', V.ref a = V.ref a' ∧ (∃ xs, SqT K H1 a' xs) ∧ Lcs (Itt K a') (gName j) tYes te [j] σ H1 Q := by
  refine ⟨a, rfl, ⟨xs, SqT.of hs⟩, fun D hD => ?_⟩
  refine lc_tup (K := K) (a := a) (xs := xs) (fun i H' => Same H1 H' ∧ H' D = some (.lst (ys.take i))) ⟨same_upd hD, upd_same⟩ (fun i H' _ p => SqT.of (p.1 _ _ hs)) ?_ ?_
  · rintro i x H' hi ⟨s, e⟩
    have hi2 : i < ys.length := by rw [hl]; exact (List.getElem?_eq_some_iff.mp hi).1
    have ey : ys[i]? = some ys[i] := List.getElem?_eq_getElem hi2
    refine ⟨wipe1, r_yes (r_itT ?_)⟩
    refine he i x _ H' _ hi ey s fun H'' s2 => ⟨_, s2 _ _ e, ?_, ?_, ?_⟩
    · refine sz5l ?_
      have := List.length_take_le i ys
      omega
    · exact fun b o q => by
        rw [upd_ne (ne_of_none q hD)]
        exact s2 _ _ (s _ _ q)
    · rw [upd_same, take_snoc ey]
  · rintro H' ⟨s, e⟩
    rw [← hl, List.take_length] at e
    exact k D H' hD s e
theorem log_num {n : Nat} (h : n < 10 ^ 30) : ((n : Nat) : Int).natAbs.log2 < 1920 := by
  have : n < 2 ^ 1920 := Nat.lt_of_lt_of_le h (by decide +kernel)
  show n.log2 < 1920
  by_cases c : n = 0
  · rw [c]; decide
  · exact (Nat.log2_lt c).mpr this
def numsOf (ns : List Nat) : List V := ns.map fun n : Nat => V.int (n : Int)
theorem pr_ex {α β : Type} {F : α → β → Prop} : ∀ {l₁ : List α} {l₂ : List β} {i : Nat} {a : α}, Paired F l₁ l₂ → l₁[i]? = some a → ∃ b, l₂[i]? = some b ∧ F a b
  | _, _, _, _, .nil, h => by simp at h
  | _, _, 0, _, .cons r _, h => by
    cases h
    exact ⟨_, rfl, r⟩
  | _, _, i + 1, _, .cons _ t, h => pr_ex (i := i) t h
inductive Td where
  | ord (ls : List Tl)
  | nums (w : Str) (ns : List Nat)
def Td.ok : Td → Prop
  | .ord ls => (1 ≤ ls.length ∧ ls.length ≤ 25) ∧ ∀ t, t ∈ ls → t.ok
  | .nums w ns => (∀ n, n ∈ ns → n < 10 ^ 30) ∧ ((ns.length = 2 ∧ (w = "pay" ∨ w = "refund")) ∨ (ns.length = 3 ∧ (w = "deliver" ∨ w = "back" ∨ w = "swap" ∨ w = "credit" ∨ w = "move")))
def Td.str : Td → Str
  | .ord ls => ("order " : Str) ++ Txt.join ", " (ls.map Tl.str)
  | .nums w ns => w ++ (" " : Str) ++ Txt.join " " (ns.map numS)
def TdA (H : Hp) (v : V) : Td → Prop
  | .ord ls => ∃ t l xs, v = .ref t ∧ H t = some (.tup [.str "order", .ref l]) ∧ H l = some (.lst xs) ∧ Paired (TupAt H) xs (ls.map Tl.row)
  | .nums w ns => ∃ t, v = .ref t ∧ H t = some (.tup (.str w :: numsOf ns))
theorem TdA.keep {H H' : Hp} {v : V} {d : Td} (h : TdA H v d) (s : Same H H') : TdA H' v d := by
  cases d with
  | ord ls =>
    obtain ⟨t, l, xs, e, h1, h2, p⟩ := h
    exact ⟨t, l, xs, e, s _ _ h1, s _ _ h2, tup_keep (But.of (S := fun _ => False) s) p⟩
  | nums w ns =>
    obtain ⟨t, e, h1⟩ := h
    exact ⟨t, e, s _ _ h1⟩
structure WOk (w : Str) (k : Nat) : Prop where
  no : ¬ w = "order"
  len : w.length ≤ 7
  free : 32 ∉ TL.tl w
  first : ∃ c, (TL.tl w).head? = some c ∧ c ≠ 111
  pt : parts.lookup w = some ((k : Int) + 1)
  str : PyData.strOk w = true
theorem word_ok {w : Str} {ns : List Nat} (h : (Td.nums w ns).ok) : WOk w ns.length ∧ (ns.length = 2 ∨ ns.length = 3) := by
  rcases h.2 with ⟨l, h⟩ | ⟨l, h⟩
  · refine ⟨?_, .inl l⟩
    rw [l]
    rcases h with rfl | rfl
    · exact ⟨by decide +kernel, by decide +kernel, by decide +kernel, ⟨112, by decide +kernel, by decide⟩, by decide +kernel, by decide +kernel⟩
    · exact ⟨by decide +kernel, by decide +kernel, by decide +kernel, ⟨114, by decide +kernel, by decide⟩, by decide +kernel, by decide +kernel⟩
  · refine ⟨?_, .inr l⟩
    rw [l]
    rcases h with rfl | rfl | rfl | rfl | rfl
    · exact ⟨by decide +kernel, by decide +kernel, by decide +kernel, ⟨100, by decide +kernel, by decide⟩, by decide +kernel, by decide +kernel⟩
    · exact ⟨by decide +kernel, by decide +kernel, by decide +kernel, ⟨98, by decide +kernel, by decide⟩, by decide +kernel, by decide +kernel⟩
    · exact ⟨by decide +kernel, by decide +kernel, by decide +kernel, ⟨115, by decide +kernel, by decide⟩, by decide +kernel, by decide +kernel⟩
    · exact ⟨by decide +kernel, by decide +kernel, by decide +kernel, ⟨99, by decide +kernel, by decide⟩, by decide +kernel, by decide +kernel⟩
    · exact ⟨by decide +kernel, by decide +kernel, by decide +kernel, ⟨109, by decide +kernel, by decide⟩, by decide +kernel, by decide +kernel⟩
theorem nums_parts {ns : List Nat} (h : ∀ n, n ∈ ns → n < 10 ^ 30) : ∀ p, p ∈ ns.map numS → p.length ≤ 30 := fun p hp => by
  obtain ⟨n, hn, rfl⟩ := List.mem_map.mp hp
  exact (numS_len (h n hn)).2
theorem cat_len {x y : Str} : (x ++ y).length = x.length + y.length := by
  rw [TL.len_tl, TL.tl_append, List.length_append, ← TL.len_tl, ← TL.len_tl]
theorem ord_parts {ls : List Tl} (h : ∀ t, t ∈ ls → t.ok) : ∀ p, p ∈ ls.map Tl.str → p.length ≤ 200 := fun p hp => by
  obtain ⟨t, ht, rfl⟩ := List.mem_map.mp hp
  exact Tl.len (h t ht)
theorem Td.len {d : Td} (h : d.ok) : d.str.length ≤ 90000 := by
  cases d with
  | ord ls =>
    have a := join_len (y := ", ") (ord_parts h.2)
    have e1 : (", " : Str).length = 2 := by decide +kernel
    have e2 : ("order " : Str).length = 6 := by decide +kernel
    have l := h.1.2
    show (("order " : Str) ++ _).length ≤ 90000
    rw [cat_len, e2]
    rw [e1, List.length_map] at a
    have : ls.length * (200 + 2) ≤ 25 * 202 := Nat.mul_le_mul_right _ l
    omega
  | nums w ns =>
    have a := join_len (y := " ") (nums_parts h.1)
    have e1 : (" " : Str).length = 1 := by decide +kernel
    obtain ⟨W, l⟩ := word_ok h
    have wl := W.len
    show (w ++ (" " : Str) ++ _).length ≤ 90000
    rw [cat_len, cat_len, e1]
    rw [e1, List.length_map] at a
    rcases l with l | l <;> rw [l] at a <;> omega
theorem cut_to6 {z : Str} : TL.tl (cutS z none (some 6)) = (TL.tl z).take 6 := by
  show ((z.cps.toList.drop (HT.sIx z.length 0 none)).take (HT.sIx z.length z.length (some ((6 : Nat) : Int)) - HT.sIx z.length 0 none)) = z.cps.toList.take 6
  rw [HT.sIx_none, HT.sIx_nat, List.drop_zero, Nat.sub_zero]
  by_cases h : 6 ≤ z.length
  · rw [Nat.min_eq_left h]
  · have hl : z.cps.toList.length = z.length := Array.length_toList
    rw [Nat.min_eq_right (by omega), List.take_of_length_le (by omega), List.take_of_length_le (by omega)]
theorem cut_from6 {z : Str} : TL.tl (cutS z (some 6) none) = (TL.tl z).drop 6 := by
  show ((z.cps.toList.drop (HT.sIx z.length 0 (some ((6 : Nat) : Int)))).take (HT.sIx z.length z.length none - HT.sIx z.length 0 (some ((6 : Nat) : Int)))) = z.cps.toList.drop 6
  rw [HT.sIx_none, HT.sIx_nat]
  have hl : z.cps.toList.length = z.length := Array.length_toList
  by_cases h : 6 ≤ z.length
  · rw [Nat.min_eq_left h, List.take_of_length_le (by rw [List.length_drop]; omega)]
  · rw [Nat.min_eq_right (by omega), List.drop_of_length_le (by omega), List.drop_of_length_le (by omega)]
    simp
theorem six : TL.tl ("order " : Str) = [111, 114, 100, 101, 114, 32] := by decide +kernel

/-! ### a comprehension whose elements may raise -/
section
open PySem PySem.Spec PyProof.Rows L2
variable {X : Cx}
/-- what a call within a block lets out -/
def Fly (Y : Cx) (E : XK) (u : Value) (s' : Shared) : Prop := ∃ pins σ H s, Inv Y pins σ H s ∧ L2.CX Y.prog Y.w Y.stack H s E u s'
/-- a block that raises -/
abbrev bx (X : Cx) (E : XK) (s : Shared) (H : Hp) (scope : Scope) (cenv : Env) (fp : List Addr) : Cx := (X.blk s H scope cenv fp).wish (Fly (X.blk s H scope cenv fp) E)
theorem fly_pass {Y : Cx} {E : XK} : ∀ (pins : List (Addr × Obj)) (σ : L2.St) (H : Hp) (s : Shared) (e : Value) (s' : Shared), Inv (Y.wish (Fly Y E)) pins σ H s → L2.CX (Y.wish (Fly Y E)).prog (Y.wish (Fly Y E)).w (Y.wish (Fly Y E)).stack H s E e s' → (Y.wish (Fly Y E)).xe e s' :=
  fun pins σ H s e s' I c => ⟨pins, σ, H, s, I.unwish, c⟩
theorem traced_one {h B B' : Heap} {a : Addr} {Z Z' : Obj → Prop} {f f' : Value} (x : HandSPX.TracedZ h B a Z f) (y : HandSPX.TracedZ h B' a Z' f') : f = f' := by
  obtain ⟨o, vs, T, oT, ts, e1, _, e2, e3, _, _, e4, e5, e6⟩ := x
  obtain ⟨o', vs', T', oT', ts', d1, _, d2, d3, _, _, d4, d5, d6⟩ := y
  rw [e1] at d1
  cases d1
  rw [e2] at d2
  cases d2
  rw [e3] at d3
  cases d3
  rw [e4] at d4
  cases d4
  rw [e5] at d5
  cases d5
  rw [e6] at d6
  exact Option.some.inj d6
/-- the names of a block let go, the exception held -/
theorem held_cut {B h h2 : Heap} {l : List Env} {a C L : Addr} {cls : Value} {d : Option Addr} {m m2 : Str → Option Value} (hh : HandSPX.HeldZ B l a (Zc cls d) L h) (ns : h.Ns C m) (ns2 : h2.Ns C m2) (sb : Heap.SameBut C h h2) : HandSPX.HeldZ (PySem.W.hideAll B [C]) l a (Zc cls d) L h2 := by
  obtain ⟨st, nB, fr, oe, vs, T, oT, ts, e1, z, e2, e3, nT, ne, e4, e5, e6⟩ := hh
  have hid : ∀ {b : Addr} {o : Obj}, (PySem.W.hideAll B [C]).get? b = some o → b ≠ C ∧ B.get? b = some o := fun {b o} q => by
    refine ⟨fun w => ?_, PySem.W.of_hideAll _ q⟩
    rw [w, PySem.W.hideAll_none [C] (List.mem_singleton.mpr rfl)] at q
    cases q
  have none_of : ∀ {b : Addr}, B.get? b = none → (PySem.W.hideAll B [C]).get? b = none := fun {b} q => by
    cases w : (PySem.W.hideAll B [C]).get? b with
    | none => rfl
    | some o =>
      have := (hid w).2
      rw [q] at this
      cases this
  obtain ⟨oC, es, ep, eC, dC, _⟩ := ns
  have nC : ∀ {b : Addr} {o : Obj} {ws : Array Value}, h.get? b = some o → o.data = .fields ws → b ≠ C := fun {b o ws} q1 q2 w => by
    rw [w, eC] at q1
    cases q1
    rw [dC] at q2
    cases q2
  refine ⟨fun b o q => ?_, none_of nB, funFrames_none (Heap.FunFrames.sameBut sb ns2 fr) fun b hb => none_of (fr.mem hb).1, oe, vs, T, oT, ts, (sb.2 _ (nC e1 e2)).trans e1, z, e2, e3, none_of nT, ne, (sb.2 _ (nC e4 e5)).trans e4, e5, e6⟩
  obtain ⟨n, q2⟩ := hid q
  exact (sb.2 b n).trans (st b o q2)
/-- an element's exception leaves the comprehension -/
theorem fly_out {E : XK} {pins : List (Addr × Obj)} {σ : L2.St} {H3 : Hp} {s3 : Shared} {scope : Scope} {ce : Env} {fp : List Addr} {u : Value} {s' : Shared} {use : Option (Value → Sem Unit)} {Qf : Value → Shared → Prop} {acc : Value}
    (I3 : Inv X pins σ H3 s3) (hC : ce.locals = s3.heap.objs.size) (hcf : ce.frame = X.env.frame) (hstk : X.stack = X.env :: X.outer) (hf : X.env.frame = some X.env.locals) (tk : Takes X fun c d _ H => E c d H) (f3 : ∀ b ∈ fp, FpOk X pins H3 b)
    (c : Fly (X.blk s3 H3 scope ce fp) E u s') : notedBy (model X.prog X.w) X.A ce (fun e s'' => compEnds (model X.prog X.w) X.A X.xe use Qf acc ce (.error e) s'') u s' := by
  obtain ⟨pins', σ', H', s5, I5, c⟩ := c
  have fly : ∃ a B cls d, u = .ref a ∧ HandSPX.FlyingZ B X.stack a (Zc cls d) s'.heap := by
    obtain ⟨a, B, _, cls, d, e, fl, _⟩ := c
    exact ⟨a, B, cls, d, e, fl⟩
  obtain ⟨a, B, sI, pins2, σ2, H2, cls, d, rfl, I6, nb, up, sky, na, os, ag, w⟩ := XE.of_call (X := X.blk s3 H3 scope ce fp) (W := fun c d _ H => E c d H) I5 (fun _ _ _ h => h) c
  obtain ⟨a', B0, cls0, d0, ea, fl0⟩ := fly
  obtain rfl : a = a' := by cases ea; rfl
  have fl : HandSPX.FlyingZ B (X.env :: X.outer) a (Zc cls d) s'.heap := by
    rw [← hstk]
    rcases sky with ⟨_, _, _, oe, vs, e1, _, e2, e3⟩ | fl | hh
    · obtain ⟨_, _, _, oe', vs', T, _, _, d1, _, d2, d3, _⟩ := fl0
      rw [e1] at d1
      cases d1
      rw [e2] at d2
      cases d2
      rw [e3] at d3
      cases d3
    · exact fl
    · have := traced_one hh.2.2.2 fl0.2.2.2
      cases this
  have hfr : X.A.frames = some (X.env :: X.outer) := by rw [I3.ok.frames, hstk]
  show wpAny _ _ (noteFrame (.ref a) ce) _ _ s'
  rw [noteFrame_env _ hcf]
  refine HandSPX.looks_onZ Zc.steady hfr hf fl fun h1 hh up1 => ?_
  obtain ⟨m, nsI, _⟩ := I6.loc
  have nsI' : sI.heap.Ns ce.locals m := nsI
  have ns1 : h1.Ns ce.locals m := (nsI'.upToSlots up).upToSlots up1
  refine ⟨m, ns1, fun h2 m2 ns2 sb => ?_⟩
  have hh2 := held_cut hh ns1 ns2 sb
  obtain ⟨_, _, _, oe, vs, T, oT, ts, e1, _, e2, e3, _⟩ := id hh2
  unfold PySem.passOn
  refine wpAny_bind (wpAny_field e1 e2 e3 ?_)
  rw [if_neg (show ¬ ((Value.ref T == Value.none) = true) from by simp), hcf, hf]
  refine wpAny_bind (HandSPX.setFlight_onZ (s := { s' with heap := h2 }) hh2 fun h3' hh3 up3 => ?_)
  refine wpAny_throw (tk _ _ ?_)
  have I7 : Inv X pins σ H2 sI := I3.call' (ch := fp) I6.os I6.base I6.hok I6.bare fun b hb => ⟨(f3 b hb).2.2.2.1, (f3 b hb).2.1, (f3 b hb).2.2.2.2.1, (f3 b hb).2.2.2.2.2⟩
  have nC : H2 s3.heap.objs.size = none := by
    have z : H2 ce.locals = none := I6.free
    rw [hC] at z
    exact z
  obtain ⟨f0, f1, f2, f4, f5, f6⟩ := I3.fpOk (H' := H2) (Nat.le_refl _) nC
  have I8 := I7.turned (it := s3.heap.objs.size) (h' := PySem.W.hideAll sI.heap [s3.heap.objs.size]) (t' := sI.toks) (fun b o n e => PySem.W.hideAll_get _ e fun q => n (List.mem_singleton.mp q)) f0 f1 f4 f5 f6
  have hid : ∀ {b : Addr} {o : Obj}, (PySem.W.hideAll sI.heap [s3.heap.objs.size]).get? b = some o → b ≠ ce.locals ∧ sI.heap.get? b = some o := fun {b o} q => by
    refine ⟨fun w => ?_, PySem.W.of_hideAll _ q⟩
    rw [w, hC, PySem.W.hideAll_none _ (List.mem_singleton.mpr rfl)] at q
    cases q
  refine ⟨a, PySem.W.hideAll B [ce.locals], _, pins, σ, H2, cls, d, rfl, I8, fun b o e nf => ?_, fun b o e nd => ?_, .inr (.inr (by rw [hstk]; exact hh3)), na, os, ag, w⟩
  · obtain ⟨n, e'⟩ := hid e
    exact PySem.W.hideAll_get _ (nb b o e' nf) fun q => n (List.mem_singleton.mp q)
  · obtain ⟨n, e'⟩ := hid e
    obtain ⟨sl1, q1⟩ := up b o e' nd
    obtain ⟨sl2, q2⟩ := up1 b _ q1 nd
    obtain ⟨sl3, q3⟩ := up3 b _ ((sb.2 b n).trans q2) nd
    exact ⟨sl3, q3⟩
/-- a list comprehension without tests, its element raising by a call -/
theorem lcx_core {E : XK} {pins : List (Addr × Obj)} {s : Shared} {σ : L2.St} {H : Hp} {Q : VK} {elt tg iter : Expr} {scope : Scope} {own : List (Str × Nat)} {pos pos' : Pos} {wi : TI} {g : TG} {te : TE} {use : Option (Value → Sem Unit)} {Qf : Value → Shared → Prop}
    (hc : X.calm = true) (hN : X.N.Nodup) (hstk : X.stack = X.env :: X.outer) (hf : X.env.frame = some X.env.locals) (tk : Takes X fun c d _ H => E c d H) (I : Inv X pins σ H s) (hi : PI X tg iter wi) (ok : BlkOk X.N X.env.scope scope own)
    (hg : ∀ (s : Shared) (H : Hp) (C : Addr) (cl : List (Str × Addr)) (fp : List Addr), PG (X.blk s H scope (compEnvC scope cl C X.env) fp) tg g) (he : ∀ (s : Shared) (H : Hp) (C : Addr) (cl : List (Str × Addr)) (fp : List Addr), PE (bx X E s H scope (compEnvC scope cl C X.env) fp) elt te)
    (hs : ∀ x, foldedSetIterable iter X.env x = pure x) (h : tLc wi g tYes te (own.map (·.2)) σ H Q)
    (fin : ∀ D C s' m H', Inv X pins σ H' s' → Q (.ref D) H' → s'.heap.Ns C m → FpOk X pins H' C → ∀ ce : Env, ce.locals = C → compEnds (model X.prog X.w) X.A X.xe use Qf (.ref D) ce (.ok .next) s') :
    wpAny (model X.prog X.w) X.A (comprehension (.ListComp elt [⟨tg, iter, [], 0⟩] scope pos) scope X.env pos' (newList []) false (eval iter X.env) use) Qf X.xe s := by
  have cells : ∀ y ∈ scope.names, y.2 = .free → ∃ c, X.env.cells.lookup y.1 = some c := fun y hy e => (ok.free y hy e).elim (fun k => I.ok.has _ (.inl k)) fun k => I.ok.has _ (.inr k)
  refine comprehension_at rfl hs (closure_ok cells) ok.kind (fun y hy e => by rw [ok.uniq y hy, e]) (thn (hi.run pins s σ H _ I h) fun xv s1 hx => thn hx fun itv s2 start => ?_)
  obtain ⟨it, fp, tn, J, H2, rfl, I2, T, t2, f2, q⟩ := start
  refine wpAny_newObj_type (newEnv_comp ?_) (by show 0 ≤ sizeLine; decide)
  obtain ⟨D, eD⟩ : ∃ D, s2.heap.objs.size = D := ⟨_, rfl⟩
  have hD : H2 D = none := I2.hok.fresh (Nat.le_of_eq eD)
  obtain ⟨W, ⟨m0, w0⟩, turn⟩ := q D hD
  rw [eD]
  obtain ⟨s3, e3⟩ : ∃ s3 : Shared, s3 = { s2 with heap := s2.heap.push { cls := .type "list", data := .seq ([] : List Value).toArray } } := ⟨_, rfl⟩
  have ep : s3.heap = s2.heap.push { cls := .type "list", data := .seq ([] : List Value).toArray } := by rw [e3]
  have I3 : Inv X pins σ (upd H2 D (.lst [])) s3 := by
    rw [e3]
    refine I2.laid (t' := s2.toks) (fun b o e => Heap.get?_push_of_some _ e) (Nat.le_of_eq eD) ⟨Nat.zero_le _, [], 0, .nil, ?_⟩
    rw [← eD]
    exact Heap.get?_push_size _ rfl
  have low : ∀ b ∈ fp, b < s2.heap.objs.size := fun b hb => by
    obtain ⟨o, e, _⟩ := T.obj _ _ t2 b hb
    exact Heap.lt_size e
  have f3 : ∀ b ∈ fp, FpOk X pins (upd H2 D (.lst [])) b ∧ b < s3.heap.objs.size := fun b hb => by
    have l := low b hb
    refine ⟨⟨?_, (f2 b hb).2⟩, by rw [ep, Heap.size_push]; exact Nat.lt_succ_of_lt l⟩
    rw [upd_ne (by rw [← eD]; exact Nat.ne_of_lt l)]
    exact (f2 b hb).1
  have t3 : tn 0 s3.heap := T.keep _ _ _ t2 fun b _ o e => by rw [ep]; exact Heap.get?_push_of_some _ e
  have I4 := block_start I3 ok hN f3
  show codeAny _ _ (.compStart (.ListComp elt [⟨tg, iter, [], 0⟩] scope pos) 0 (.ref it) (.ref D) (compEnvC scope (cellsFrom ((s2.heap.push { cls := .type "list", data := .seq ([] : List Value).toArray }).objs.size + 1) scope.names (cloFrom X.env.cells scope.names [])) (s2.heap.push { cls := .type "list", data := .seq ([] : List Value).toArray }).objs.size X.env))
    (compEnds (model X.prog X.w) X.A X.xe use Qf (.ref D) (compEnvC scope (cellsFrom ((s2.heap.push { cls := .type "list", data := .seq ([] : List Value).toArray }).objs.size + 1) scope.names (cloFrom X.env.cells scope.names [])) (s2.heap.push { cls := .type "list", data := .seq ([] : List Value).toArray }).objs.size X.env))
    { s2 with heap := pushCells ((s2.heap.push { cls := .type "list", data := .seq ([] : List Value).toArray }).push { cls := .type "dict", data := .dict #[] }) scope.names }
  have back : ({ s2 with heap := pushCells ((s2.heap.push { cls := .type "list", data := .seq ([] : List Value).toArray }).push { cls := .type "dict", data := .dict #[] }) scope.names } : Shared) = { s3 with heap := pushCells (s3.heap.push { cls := .type "dict", data := .dict #[] }) scope.names } := by rw [e3]
  rw [back, ← ep]
  have pg := hg s3 (upd H2 D (.lst [])) s3.heap.objs.size (cellsFrom (s3.heap.objs.size + 1) scope.names (cloFrom X.env.cells scope.names [])) fp
  have pe := he s3 (upd H2 D (.lst [])) s3.heap.objs.size (cellsFrom (s3.heap.objs.size + 1) scope.names (cloFrom X.env.cells scope.names [])) fp
  obtain ⟨ce, ece⟩ : ∃ ce, ce = compEnvC scope (cellsFrom (s3.heap.objs.size + 1) scope.names (cloFrom X.env.cells scope.names [])) s3.heap.objs.size X.env := ⟨_, rfl⟩
  rw [← ece] at I4 pg pe ⊢
  have cL : ce.locals = s3.heap.objs.size := by rw [ece]; rfl
  have cF : ce.frame = X.env.frame := by rw [ece]; rfl
  have nfp : ∀ b ∈ fp, (upd H2 D (.lst [])) b = none := fun b hb => (f3 b hb).1.1
  revert I3 I4 pg pe w0 nfp f3
  generalize upd H2 D (.lst []) = H3
  intro w0 I3 f3 pe pg I4 nfp
  have out : ∀ u s', Fly (X.blk s3 H3 scope ce fp) E u s' → notedBy (model X.prog X.w) X.A ce (fun e s'' => compEnds (model X.prog X.w) X.A X.xe use Qf (.ref D) ce (.error e) s'') u s' := fun u s' c => fly_out I3 cL cF hstk hf tk (fun b hb => (f3 b hb).1) c
  have t4 : tn 0 (pushCells (s3.heap.push { cls := .type "dict", data := .dict #[] }) scope.names) := T.keep _ _ _ t3 fun b _ o e => pushCells_keeps _ _ _ _ (Heap.get?_push_of_some _ e)
  have still : ∀ {σ' : L2.St} {H' : Hp} {s' : Shared}, Inv (X.blk s3 H3 scope ce fp) [] σ' H' s' → (∀ b ∈ fp, H' b = none) → ∀ b ∈ fp, FpOk (X.blk s3 H3 scope ce fp) [] H' b := fun I' hn b hb =>
    ⟨hn b hb, (I'.ok.exf b hb).1, I'.ok.exfs b hb, .inl hb, fun x c e => (I'.ok.exf b hb).2 x c e, fun p hp => by cases hp⟩
  have loop : codeAny (model X.prog X.w) X.A (.compLoop (.ListComp elt [⟨tg, iter, [], 0⟩] scope pos) 0 (.ref it) (.ref D) ce) (compEnds (model X.prog X.w) X.A X.xe use Qf (.ref D) ce) { s3 with heap := pushCells (s3.heap.push { cls := .type "dict", data := .dict #[] }) scope.names } := by
    refine compLoop_any (fun n s' => ∃ i H', Inv (X.blk s3 H3 scope ce fp) [] (wipe σ (own.map (·.2))) H' s' ∧ tn i s'.heap ∧ (∀ b ∈ fp, H' b = none) ∧ W i n H') ?_ m0 ⟨0, H3, I4, t4, nfp, w0⟩
    rintro n s5 ⟨i, H5, I5, t5, n5, w5⟩
    rcases turn i n H5 w5 with ⟨stop, qq⟩ | ⟨go, Nx, hNx, stepE⟩
    · refine thnF (T.done (X.blk s3 H3 scope ce fp) rfl rfl rfl hc i [] s5 _ H5 (fun _ _ => False) I5 (still I5 n5) t5 stop) fun r s6 ⟨hr, I6⟩ => ?_
      subst hr
      have nC : H5 s3.heap.objs.size = none := by
        have z : H5 ce.locals = none := I6.free
        rw [cL] at z
        exact z
      obtain ⟨m, hn, _⟩ := I6.loc
      have hn' : s6.heap.Ns ce.locals m := hn
      exact fin D s3.heap.objs.size s6 m H5 (I3.call' (ch := fp) I6.os I6.base I6.hok I6.bare fun b hb => ⟨(f3 b hb).1.2.2.2.1, (f3 b hb).1.2.1, (f3 b hb).1.2.2.2.2.1, (f3 b hb).1.2.2.2.2.2⟩) qq (by rw [← cL]; exact hn') (I3.fpOk (Nat.le_refl _) nC) ce cL
    · refine thnF (T.item (X.blk s3 H3 scope ce fp) rfl rfl rfl hc i [] s5 _ H5 (fun _ _ => False) I5 (still I5 n5) t5 go) fun r s6 ⟨u, hr, h6⟩ => ?_
      subst hr
      refine thnF h6 fun _ s7 ⟨x, H7, I7, r7, y7, t7, n7⟩ => ?_
      refine thnF (pg.run _ s7 _ H7 x u _ (I7.pinned (still I7 n7) (T.obj _ _ t7)) r7 (stepE x H7 y7)) fun _ s8 ⟨σ8, H8, I8, hw8, q8⟩ => ?_
      refine wpAny_tests_nil ?_
      have q8' : te σ8 H8 fun y H4 => ∃ acc, H4 D = some (.lst acc) ∧ acc.length < sizeLine ∧ Nx (upd H4 D (.lst (acc ++ [y]))) := by
        have z : (if true = true then te σ8 H8 fun y H4 => ∃ acc, H4 D = some (.lst acc) ∧ acc.length < sizeLine ∧ Nx (upd H4 D (.lst (acc ++ [y]))) else Nx H8) := q8
        rw [if_pos rfl] at z
        exact z
      rw [if_pos rfl]
      refine wpAny_mono (pe.run _ s8 σ8 H8 _ (I8.wish _) q8') (fun z s10 ⟨yv, H10, I10, r10, acc, hD10, hz10, nx⟩ => ?_) fun u s' c => out u s' c
      refine wpAny_mono (app_ok (X := X.blk s3 H3 scope ce fp) (E := fun _ _ => False) I10.unwish hD10 hz10 r10 fun s11 I11 => ?_) (fun _ _ y => y) fun _ _ y => y.elim
      obtain ⟨m', hm, w'⟩ := hNx _ nx
      have pin' : ∀ b ∈ fp, ∀ o, s7.heap.get? b = some o → s11.heap.get? b = some o ∧ (upd H10 D (.lst (acc ++ [yv]))) b = none := fun b hb o e =>
        let z := I11.pin (b, o) (List.mem_append_right _ (List.mem_append_right _ (mem_pinsAt hb e)))
        ⟨z.1, z.2.1⟩
      refine ⟨m', hm, i + 1, _, (I11.unpinned (pins := [])).weak (by rw [← hw8, wipe_length]) (fun j v e => ?_), T.keep _ _ _ t7 fun b hb o e => (pin' b hb o e).1, fun b hb => ?_, w'⟩
      · rw [← hw8] at e
        exact (wipe_some e).1
      · obtain ⟨o, e, _⟩ := T.obj _ _ t7 b hb
        exact (pin' b hb o e).2
  exact codeAny_compStart_list loop (T.self X.A 0 _ _ _ t4 loop)
theorem pe_lcX {E : XK} {elt tg iter : Expr} {scope : Scope} {own : List (Str × Nat)} {pos : Pos} {wi : TI} {g : TG} {te : TE} (hc : X.calm = true) (hN : X.N.Nodup) (hstk : X.stack = X.env :: X.outer) (hf : X.env.frame = some X.env.locals) (tk : Takes X fun c d _ H => E c d H) (hi : PI X tg iter wi) (ok : BlkOk X.N X.env.scope scope own)
    (hg : ∀ (s : Shared) (H : Hp) (C : Addr) (cl : List (Str × Addr)) (fp : List Addr), PG (X.blk s H scope (compEnvC scope cl C X.env) fp) tg g) (he : ∀ (s : Shared) (H : Hp) (C : Addr) (cl : List (Str × Addr)) (fp : List Addr), PE (bx X E s H scope (compEnvC scope cl C X.env) fp) elt te)
    (hs : ∀ x, foldedSetIterable iter X.env x = pure x := by intro _; rfl) : PE X (.ListComp elt [⟨tg, iter, [], 0⟩] scope pos) (tLc wi g tYes te (own.map (·.2))) := by
  constructor
  intro pins s σ H Q I h
  rw [eval_ListComp]
  refine lcx_core hc hN hstk hf tk I hi ok hg he hs h fun D C s' m H' I' q hn f ce ec => ?_
  obtain ⟨f0, f1, f2, f3, f4, f5⟩ := f
  refine ⟨m, by rw [ec]; exact hn, fun h2 sb => ⟨.ref D, H', I'.turned (it := C) (t' := s'.toks) (fun b o n e => (sb.2 b (by rw [ec]; exact n)).trans e) f0 f1 f3 f4 f5, rfl, q⟩⟩
theorem ps_setLcX {E : XK} {i : Nat} {y : Str} {py : Pos} {elt tg iter : Expr} {scope : Scope} {own : List (Str × Nat)} {pos spos : Pos} {wi : TI} {g : TG} {te : TE} (hc : X.calm = true) (hN : X.N.Nodup) (hstk : X.stack = X.env :: X.outer) (hf : X.env.frame = some X.env.locals) (tk : Takes X fun c d _ H => E c d H)
    (hy : X.N[i]? = some y) (hyl : X.env.scope.names.lookup y = some .local) (hsw : swapsWith (.ListComp elt [⟨tg, iter, [], 0⟩] scope pos) (some (.Name y py)) spos.line X.env = pure true) (hi : PI X tg iter wi) (ok : BlkOk X.N X.env.scope scope own)
    (hg : ∀ (s : Shared) (H : Hp) (C : Addr) (cl : List (Str × Addr)) (fp : List Addr), PG (X.blk s H scope (compEnvC scope cl C X.env) fp) tg g) (he : ∀ (s : Shared) (H : Hp) (C : Addr) (cl : List (Str × Addr)) (fp : List Addr), PE (bx X E s H scope (compEnvC scope cl C X.env) fp) elt te)
    (hs : ∀ x, foldedSetIterable iter X.env x = pure x := by intro _; rfl) : PS X (.Assign [.Name y py] (.ListComp elt [⟨tg, iter, [], 0⟩] scope pos) spos) (tAsg (tLc wi g tYes te (own.map (·.2))) (gName i)) := by
  constructor
  intro pins s σ H D I h
  rw [exec_Assign_Name_used _ _ _ _ hsw]
  refine wpAny_bind (wpAny_standAt (wpAny_bind ?_))
  have h' : tLc wi g tYes te (own.map (·.2)) σ H (fun x H1 => gName i x σ H1 D.nx) := h
  show wpAny _ X.A (do let _ ← comprehension (.ListComp elt [⟨tg, iter, [], 0⟩] scope pos) scope X.env (firstIterPos [⟨tg, iter, [], 0⟩] pos) (newList []) false (eval iter X.env) (some (assign (.Name y py) X.env))) _ _ s
  refine wpAny_bind (thn (lcx_core (Qf := fun _ s' => SP X pins D .next s') hc hN hstk hf tk I hi ok hg he hs h' fun L C s' m H' I' q hn f ce ec => ?_) fun _ s' hq => wpAny_pure (wpAny_pure hq))
  show wpAny _ _ (assign (.Name y py) X.env (.ref L)) _ _ _
  obtain ⟨f0, f1, f2, f3, f4, f5⟩ := f
  refine wpAny_assign_Name (store_ok2 (v := V.ref L) I' hN hy (.inl hyl) rfl (fun s2 I2 ⟨a, sb, ha⟩ => ?_) (.inr hyl))
  have nCa : C ≠ a := fun e => ha.elim (fun z => f1 (e.trans z)) fun z => f4 y a z e.symm
  refine ⟨m, by rw [ec]; exact hn.sameBut sb nCa, fun h3 sb3 => ?_⟩
  exact ⟨_, H', I2.turned (it := C) (t' := s2.toks) (fun b o n e => (sb3.2 b (by rw [ec]; exact n)).trans e) f0 f1 f3 f4 f5, q⟩
end

/-! ### figures and lines, as they are read -/
abbrev figures : Str := "0123456789"
def figs (z : Str) : Bool := decide (∀ c ∈ z.cps.toList, c ∈ figures.cps.toList) && (decide (1 ≤ z.length ∧ z.length ≤ 30) && !(decide (z.cps.toList.head? = some 48) && decide (1 < z.length)))
def numOf (z : Str) : Option Nat := if figs z = true then some (NumText.digitsVal z.cps.toList) else none
theorem fig_of {c : Nat} (h : c ∈ figures.cps.toList) : 48 ≤ c ∧ c ≤ 57 := by
  have all : ∀ c, c ∈ figures.cps.toList → 48 ≤ c ∧ c ≤ 57 := by decide +kernel
  exact all c h
theorem figs_int {z : Str} (h : ∀ c ∈ z.cps.toList, c ∈ figures.cps.toList) (l : 1 ≤ z.length ∧ z.length ≤ 30) : PySem.intText? z = some ((NumText.digitsVal z.cps.toList : Nat) : Int) := by
  have hl : z.cps.toList.length = z.length := Array.length_toList
  refine intText_digits (fun c hc => fig_of (h c hc)) (fun e => ?_) (by omega)
  rw [e] at hl
  simp at hl
  omega
theorem digitsVal_lt : ∀ (cs : List Nat), (∀ c ∈ cs, c ∈ figures.cps.toList) → NumText.digitsVal cs < 10 ^ cs.length := by
  intro cs
  have gen : ∀ (n : Nat) (cs : List Nat), cs.length = n → (∀ c ∈ cs, c ∈ figures.cps.toList) → NumText.digitsVal cs < 10 ^ n := by
    intro n
    induction n with
    | zero =>
      intro cs hl _
      have : cs = [] := List.length_eq_zero_iff.mp hl
      subst this
      decide
    | succ n ih =>
      intro cs hl h
      obtain ⟨ds, d, rfl⟩ : ∃ ds d, cs = ds ++ [d] := by
        rcases List.eq_nil_or_concat cs with z | ⟨L, b, z⟩
        · rw [z] at hl; simp at hl
        · exact ⟨L, b, by rw [z, List.concat_eq_append]⟩
      rw [NumText.digitsVal_snoc]
      have k := ih ds (by simpa using hl) fun c hc => h c (List.mem_append_left _ hc)
      have f := fig_of (h d (by simp))
      rw [Nat.pow_succ]
      omega
  exact fun h => gen _ cs rfl h
theorem numOf_lt {z : Str} {n : Nat} (h : numOf z = some n) : n < 10 ^ 30 := by
  unfold numOf at h
  split at h
  · rename_i c
    cases h
    unfold figs at c
    obtain ⟨a, b⟩ := Bool.and_eq_true_iff.mp c
    have l := of_decide_eq_true (Bool.and_eq_true_iff.mp b).1
    have hl : z.cps.toList.length = z.length := Array.length_toList
    have q := digitsVal_lt _ (of_decide_eq_true a)
    rw [hl] at q
    exact Nat.lt_of_lt_of_le q (Nat.pow_le_pow_right (by decide) l.2)
  · cases h
theorem figs_sign {z : Str} {i c : Nat} (h : z.cps[i]? = some c) (n : ¬ c ∈ figures.cps.toList) : figs z = false := by
  have hm : c ∈ z.cps.toList := by
    have h2 : z.cps.toList[i]? = some c := by simpa using h
    exact List.mem_of_getElem? h2
  unfold figs
  rw [decide_eq_false (fun q => n (q c hm))]
  rfl
theorem figs_all {z : Str} (h : ∀ j c, j < z.cps.size → z.cps[j]? = some c → c ∈ figures.cps.toList) : ∀ c ∈ z.cps.toList, c ∈ figures.cps.toList := fun c hc => by
  obtain ⟨j, hj⟩ := List.getElem?_of_mem hc
  have h2 : z.cps[j]? = some c := by simpa using hj
  exact h j c (Array.getElem?_eq_some_iff.mp h2).1 h2
theorem figs_if {z : Str} (h : ∀ c ∈ z.cps.toList, c ∈ figures.cps.toList) : figs z = (decide (1 ≤ z.length ∧ z.length ≤ 30) && !(decide (z.cps.toList.head? = some 48) && decide (1 < z.length))) := by
  unfold figs
  rw [decide_eq_true h]
  rfl
theorem one_sign {c : Nat} : (decide ((⟨#[c]⟩ : Str) = "0")) = decide (c = 48) := by
  by_cases h : c = 48
  · subst h
    exact decide_eq_true (by decide +kernel)
  · rw [decide_eq_false h]
    refine decide_eq_false fun z => h ?_
    have h2 : ([c] : List Nat) = [48] := congrArg (fun z : Str => z.cps.toList) z
    injection h2
theorem head_at {z : Str} (l : 1 ≤ z.length) : ∃ c, atI z.cps.toList 0 = some c ∧ z.cps.toList.head? = some c := by
  have hl : z.cps.toList.length = z.length := Array.length_toList
  cases e : z.cps.toList with
  | nil => rw [e] at hl; simp at hl; omega
  | cons a r => exact ⟨a, atI_get (j := 0) rfl rfl, rfl⟩
def ltOf (z : Str) : Option Tl := match Txt.split z " " with
  | [a, b, c, d] => if isItem a = true then (match numOf b, numOf c, numOf d with
    | some x, some y, some u => some ⟨a, x, y, u⟩
    | _, _, _ => none) else none
  | _ => none
theorem ltOf_ok {z : Str} {t : Tl} (h : ltOf z = some t) : t.ok := by
  unfold ltOf at h
  split at h
  · split at h
    · rename_i a b c d e it
      split at h
      · rename_i x y u e1 e2 e3
        cases h
        exact ⟨it, numOf_lt e1, numOf_lt e2, numOf_lt e3⟩
      · cases h
    · cases h
  · cases h
/-- a part of a split text is no longer than it -/
theorem le_sum : ∀ {ls : List Nat} {n : Nat}, n ∈ ls → n ≤ ls.sum
  | a :: r, n, h => by
    rw [List.sum_cons]
    rcases List.mem_cons.mp h with e | h
    · omega
    · have := le_sum h
      omega
theorem split_len {z y : Str} (h : 1 ≤ y.length) : ∀ p, p ∈ Txt.split z y → p.length ≤ z.length := fun p hp => by
  have w := PyProof.Rows.split_weight z y h
  have l := List.length_pos_of_mem hp
  have := le_sum (List.mem_map_of_mem (f := fun q : Str => q.length) hp)
  omega
theorem split_many {z y : Str} (h : 1 ≤ y.length) : (Txt.split z y).length ≤ z.length + 1 := by
  have w := PyProof.Rows.split_weight z y h
  omega
theorem split_ne {z y : Str} : ∃ a r, Txt.split z y = a :: r := by
  unfold Txt.split
  split
  · exact ⟨_, _, rfl⟩
  split
  · exact ⟨_, _, rfl⟩
  · cases e : Builtin.Str.occurrences z y 0 z.length (z.length + 1) with
    | nil => exact ⟨_, _, rfl⟩
    | cons c r => exact ⟨_, _, rfl⟩
/-! ### the program reads them -/
def errN (K : PySem.W.Frag) : Value := .ref (He.ga K "NoDeed")
def spNumberIn (K : PySem.W.Frag) : Sp := fun vs H Q E => ∃ z : Str, vs = [.str z] ∧ z.length ≤ 90000 ∧ (∀ n, numOf z = some n → Q (.int (n : Int)) H) ∧ (numOf z = none → E (errN K) none H)
theorem len_NumberIn {K : PySem.W.Frag} {vs : List V} {H : Hp} {Q : VK} {E : XK} (h : spNumberIn K vs H Q E) : vs.length = 1 := by
  obtain ⟨_, rfl, _⟩ := h; rfl
theorem ok_NumberIn {P : Program} {w : World} {K : PySem.W.Frag} {mg : Str → Option Value} {base : Heap} (T : Tx w K mg) : FnOk P w K mg base (L2.CX P w) 1 (He.fAd K dNumberIn.at_) (fdO K dNumberIn.at_) P_NumberIn (spNumberIn K) := by
  refine T.f_NumberIn.ok sc_NumberIn (fun vs H Q E h => len_NumberIn h) (fun cdv A outer s H vs Q E hr h => ⟨_, ((pss_cons (ps_for (passes_of rfl) rfl (pi_str (pv 0)) (pg_name (i := 1) sc_NumberIn.nd rfl (Or.inl rfl)) (pss_one (ps_if (pt_cmpR op_notIn_sign (pv 1) (pe_gc rfl T.c_FIGURES) (by rfl)) (pss_one (ps_raise rfl (takes_of rfl rfl rfl rfl) (pmk_own PySem.F.excBase_ValueError T.x_NoDeed.1 T.g_NoDeed T.x_NoDeed.2.1 (raises_own T.x_NoDeed.2.2.1 T.x_NoDeed.2.2.2) rfl))) pss_nil)))
      (pss_cons (ps_if (PW.pt (pw_or (pt_not (pt_chain op_le op_le pe_int (pe_callB call_len_str (by rfl) T.b_len (by decide +kernel) (pa_cons (pv 0) pa_nil)) (pe_gc rfl T.c_MOST_FIGURES))) (pw_or1 (PW.pt (pw_and (pt_cmpR op_eq (pe_ix ix_str (pv 0) pe_int (fun _ _ => rfl)) pe_str (nomark _)) (pw_and1 (pt_cmpR op_gt (pe_callB call_len_str (by rfl) T.b_len (by decide +kernel) (pa_cons (pv 0) pa_nil)) pe_int (nomark _)))))))) (pss_one (ps_raise rfl (takes_of rfl rfl rfl rfl) (pmk_own PySem.F.excBase_ValueError T.x_NoDeed.1 T.g_NoDeed T.x_NoDeed.2.1 (raises_own T.x_NoDeed.2.2.1 T.x_NoDeed.2.2.2) rfl))) pss_nil)
      (pss_one (ps_ret (pe_callTy call_int_str (by rfl) T.b_int (by decide +kernel) (pa_cons (pv 0) pa_nil))))))), ?_⟩)
  obtain ⟨z, rfl, hz, k, kE⟩ := h
  have no : figs z = false → E (errN K) none H := fun f => kE (by unfold numOf; rw [f]; rfl)
  walk_at "rd"
  refine ⟨z, rfl, for_it walk_str (fun i σ H' => ∃ v, σ = [some (.str z), v] ∧ H' = H ∧ ∀ j c, j < i → z.cps[j]? = some c → c ∈ figures.cps.toList) ⟨none, rfl, rfl, fun j c hj => absurd hj (Nat.not_lt_zero _)⟩ (fun _ _ _ _ _ => trivial) ?_ ?_⟩
  · rintro i x σ H1 H2 hi ⟨v, rfl, rfl, hp⟩ ⟨rfl, c, hc, rfl⟩
    walk_at "rd"
    refine ⟨c, _, rfl, rfl, ?_⟩
    walk_at "rd"
    refine r_itn (fun hn => ?_) (fun hy => ?_)
    · exact no (figs_sign hc hn)
    · walk_at "rd"
      refine ⟨_, rfl, rfl, fun j c' hj e => ?_⟩
      by_cases h : j = i
      · subst h
        rw [hc] at e
        rw [← Option.some.inj e]
        exact hy
      · exact hp j c' (by omega) e
  · rintro σ H1 ⟨v, rfl, rfl, hp⟩
    have all := figs_all hp
    have fi := figs_if all
    walk_at "rd"
    refine ⟨_, rfl, sz5 (by omega), ?_⟩
    walk_at "rd"
    refine r_itd (fun c1 => ?_) (fun c1 => ?_)
    rotate_left
    · walk_at "rd"
      exact no (by rw [fi, decide_eq_false (by omega)]; rfl)
    walk_at "rd"
    refine r_itn (fun c2 => ?_) (fun c2 => ?_)
    · walk_at "rd"
      exact no (by rw [fi, decide_eq_false (by omega)]; rfl)
    walk_at "rd"
    have l : 1 ≤ z.length ∧ z.length ≤ 30 := ⟨by omega, by omega⟩
    rw [decide_eq_true l, Bool.true_and] at fi
    obtain ⟨c, e1, e2⟩ := head_at l.1
    have fin : figs z = true → ∃ a n', [V.str z] = [V.str a] ∧ PySem.intText? a = some n' ∧ a.length ≤ 640 ∧ Q (.int n') H1 := fun f => ⟨z, _, rfl, figs_int all l, by omega, k _ (by unfold numOf; rw [f]; rfl)⟩
    refine ⟨_, _, c, rfl, rfl, sz5 (by omega), e1, ?_⟩
    rw [e2] at fi
    walk_at "rd"
    rw [one_sign]
    refine r_itd (fun c3 => ?_) (fun c3 => ?_)
    · walk_at "rd"
      refine ⟨_, rfl, sz5 (by omega), ?_⟩
      walk_at "rd"
      refine r_itd (fun c4 => ?_) (fun c4 => ?_)
      · walk_at "rd"
        refine no ?_
        rw [fi, decide_eq_true (by rw [c3]), decide_eq_true (by omega)]; rfl
      · walk_at "rd"
        refine fin ?_
        rw [fi, decide_eq_false (p := 1 < z.length) (by omega), Bool.and_false]; rfl
    · walk_at "rd"
      refine fin ?_
      rw [fi, decide_eq_false (p := some c = some 48) (fun w => c3 (Option.some.inj w))]; rfl
def spLineIn (K : PySem.W.Frag) : Sp := fun vs H Q E => ∃ z : Str, vs = [.str z] ∧ z.length ≤ 90000 ∧ (∀ t, ltOf z = some t → ∀ v H', Same H H' → TupAt H' v t.row → Q v H') ∧ (ltOf z = none → ∀ H', Same H H' → E (errN K) none H')
theorem len_LineIn {K : PySem.W.Frag} {vs : List V} {H : Hp} {Q : VK} {E : XK} (h : spLineIn K vs H Q E) : vs.length = 1 := by
  obtain ⟨_, rfl, _⟩ := h; rfl
theorem ok_LineIn {P : Program} {w : World} {K : PySem.W.Frag} {mg : Str → Option Value} {base : Heap} (T : Tx w K mg) : FnOk P w K mg base (L2.CX P w) 2 (He.fAd K dLineIn.at_) (fdO K dLineIn.at_) P_LineIn (spLineIn K) := by
  refine T.f_LineIn.ok sc_LineIn (fun vs H Q E h => len_LineIn h) (fun cdv A outer s H vs Q E hr h => ⟨_, ((pss_cons (ps_set (i := 1) sc_LineIn.nd rfl (Or.inl rfl) (pe_bm PySem.F.plainAttrs_str PySem.F.slot_str_split PySem.F.type_str_split mt_split (pv 0) (pa_cons pe_str pa_nil)))
      (pss_cons (ps_if (PW.pt (pw_or (pt_cmpR op_ne (pe_callB call_len_seq (by rfl) T.b_len (by decide +kernel) (pa_cons (pv 1) pa_nil)) pe_int (nomark _)) (pw_or1 (pt_not (pt_val (pe_call (ok_IsItem T) (hr.mono (by decide)) rfl T.g_IsItem T.f_IsItem.kp T.b_IsItem .nil pass0 (pa_cons (pe_ix ix_list (pv 1) pe_int (fun _ _ => rfl)) pa_nil))))))) (pss_one (ps_raise rfl (takes_of rfl rfl rfl rfl) (pmk_own PySem.F.excBase_ValueError T.x_NoDeed.1 T.g_NoDeed T.x_NoDeed.2.1 (raises_own T.x_NoDeed.2.2.1 T.x_NoDeed.2.2.2) rfl))) pss_nil)
      (pss_one (ps_ret (pe_tup (pa_cons (pe_ix ix_list (pv 1) pe_int (fun _ _ => rfl)) (pa_cons (pe_call (ok_NumberIn T) (hr.mono (by decide)) rfl T.g_NumberIn T.f_NumberIn.kp T.b_NumberIn .nil (passes_call (takes_of rfl rfl rfl rfl) (fun _ _ _ _ h => h)) (pa_cons (pe_ix ix_list (pv 1) pe_int (fun _ _ => rfl)) pa_nil)) (pa_cons (pe_call (ok_NumberIn T) (hr.mono (by decide)) rfl T.g_NumberIn T.f_NumberIn.kp T.b_NumberIn .nil (passes_call (takes_of rfl rfl rfl rfl) (fun _ _ _ _ h => h)) (pa_cons (pe_ix ix_list (pv 1) pe_int (fun _ _ => rfl)) pa_nil)) (pa_cons (pe_call (ok_NumberIn T) (hr.mono (by decide)) rfl T.g_NumberIn T.f_NumberIn.kp T.b_NumberIn .nil (passes_call (takes_of rfl rfl rfl rfl) (fun _ _ _ _ h => h)) (pa_cons (pe_ix ix_list (pv 1) pe_int (fun _ _ => rfl)) pa_nil)) pa_nil)))))))))), ?_⟩)
  obtain ⟨z, rfl, hz, k, kE⟩ := h
  walk_at "rd"
  refine ⟨rfl, ?_⟩
  walk_at "rd"
  refine ⟨_, _, rfl, rfl, by decide +kernel, sz5 (by omega), fun p hp => ?_⟩
  have sl := fun p hp => split_len (z := z) (y := " ") (by decide +kernel) p hp
  obtain ⟨ps, eps⟩ : ∃ ps, ps = Txt.split z " " := ⟨_, rfl⟩
  rw [← eps] at sl ⊢
  have s1 := same_upd (o := .lst (ps.map V.str)) hp
  have ep : upd H p (.lst (ps.map V.str)) p = some (.lst (ps.map V.str)) := upd_same
  revert s1 ep
  generalize upd H p (.lst (ps.map V.str)) = H1
  intro s1 ep
  walk_at "rd"
  refine ⟨p, _, rfl, .inl (SqL.of ep), ?_⟩
  rw [List.length_map]
  walk_at "rd"
  refine r_itn (fun c => ?_) (fun c => ?_)
  · walk_at "rd"
    refine kE ?_ _ s1
    unfold ltOf
    rw [← eps]
    split
    · exact absurd rfl c
    · rfl
  match ps, sl, eps, ep, c with
  | [a, b, c', d], sl, eps, ep, _ =>
  have la := sl a (by simp)
  have lb := sl b (by simp)
  have lc := sl c' (by simp)
  have ld := sl d (by simp)
  have lt : ltOf z = if isItem a = true then (match numOf b, numOf c', numOf d with
    | some x, some y, some u => some ⟨a, x, y, u⟩
    | _, _, _ => none) else none := by
    unfold ltOf
    rw [← eps]
  walk_at "rd"
  refine r_ixL (SqL.of ep) (atI_get (j := 0) rfl rfl) ?_
  walk_at "rd"
  refine ⟨a, rfl, by omega, ?_⟩
  cases it : isItem a with
  | false =>
    rw [it, if_neg (by decide)] at lt
    walk_at "rd"
    exact kE lt _ s1
  | true =>
    rw [it, if_pos rfl] at lt
    walk_at "rd"
    refine r_ixL (SqL.of ep) (atI_get (j := 0) rfl rfl) ?_
    walk_at "rd"
    refine r_ixL (SqL.of ep) (atI_get (j := 1) rfl rfl) ?_
    walk_at "rd"
    refine ⟨b, rfl, by omega, fun x ex => ?_, fun ex => kE (by rw [lt, ex]) _ s1⟩
    walk_at "rd"
    refine r_ixL (SqL.of ep) (atI_get (j := 2) rfl rfl) ?_
    walk_at "rd"
    refine ⟨c', rfl, by omega, fun y ey => ?_, fun ey => kE (by rw [lt, ex, ey]) _ s1⟩
    walk_at "rd"
    refine r_ixL (SqL.of ep) (atI_get (j := 3) rfl rfl) ?_
    walk_at "rd"
    refine ⟨d, rfl, by omega, fun u eu => ?_, fun eu => kE (by rw [lt, ex, ey, eu]) _ s1⟩
    walk_at "rd"
    rw [ex, ey, eu] at lt
    exact r_mk (by simp) fun q hq => k _ lt _ _ (s1.trans (same_upd hq)) ⟨q, rfl, upd_same⟩

/-! ### a text read -/
def mapO {α β : Type} (f : α → Option β) : List α → Option (List β)
  | [] => some []
  | a :: r => match f a, mapO f r with
    | some b, some bs => some (b :: bs)
    | _, _ => none
theorem mapO_app {α β : Type} {f : α → Option β} : ∀ {l : List α} {m : List α}, mapO f (l ++ m) = match mapO f l, mapO f m with
    | some bs, some cs => some (bs ++ cs)
    | _, _ => none
  | [], m => by
    show mapO f m = _
    cases mapO f m <;> rfl
  | a :: r, m => by
    have ih := mapO_app (f := f) (l := r) (m := m)
    show (match f a, mapO f (r ++ m) with | some b, some bs => some (b :: bs) | _, _ => none) = _
    rw [ih]
    show _ = match (match f a, mapO f r with | some b, some bs => some (b :: bs) | _, _ => none), mapO f m with
      | some bs, some cs => some (bs ++ cs)
      | _, _ => none
    cases f a <;> cases mapO f r <;> cases mapO f m <;> rfl
theorem mapO_len {α β : Type} {f : α → Option β} : ∀ {l : List α} {bs : List β}, mapO f l = some bs → bs.length = l.length
  | [], bs, h => by cases h; rfl
  | a :: r, bs, h => by
    have h' : (match f a, mapO f r with | some b, some bs => some (b :: bs) | _, _ => none) = some bs := h
    cases e1 : f a with
    | none => rw [e1] at h'; cases h'
    | some b =>
      cases e2 : mapO f r with
      | none => rw [e1, e2] at h'; cases h'
      | some cs =>
        rw [e1, e2] at h'
        cases h'
        rw [List.length_cons, List.length_cons, mapO_len e2]
theorem mapO_mem {α β : Type} {f : α → Option β} : ∀ {l : List α} {bs : List β} {b : β}, mapO f l = some bs → b ∈ bs → ∃ a, a ∈ l ∧ f a = some b
  | [], bs, b, h, hb => by cases h; cases hb
  | a :: r, bs, b, h, hb => by
    have h' : (match f a, mapO f r with | some b, some bs => some (b :: bs) | _, _ => none) = some bs := h
    cases e1 : f a with
    | none => rw [e1] at h'; cases h'
    | some b' =>
      cases e2 : mapO f r with
      | none => rw [e1, e2] at h'; cases h'
      | some cs =>
        rw [e1, e2] at h'
        cases h'
        rcases List.mem_cons.mp hb with rfl | hb
        · exact ⟨a, List.mem_cons_self, e1⟩
        · obtain ⟨x, hx, e⟩ := mapO_mem e2 hb
          exact ⟨x, List.mem_cons_of_mem _ hx, e⟩
theorem mapO_snoc {α β : Type} {f : α → Option β} {l : List α} {bs : List β} {i : Nat} {a : α} {b : β} (h : mapO f (l.take i) = some bs) (ha : l[i]? = some a) (e : f a = some b) : mapO f (l.take (i + 1)) = some (bs ++ [b]) := by
  rw [take_snoc ha, mapO_app, h]
  show (match (some bs : Option (List β)), (match f a, mapO f [] with | some b, some bs => some (b :: bs) | _, _ => none) with | some bs, some cs => some (bs ++ cs) | _, _ => none) = _
  rw [e]
  rfl
theorem mapO_bad {α β : Type} {f : α → Option β} : ∀ {l : List α} {i : Nat} {a : α}, l[i]? = some a → f a = none → mapO f l = none
  | [], i, a, h, _ => by simp at h
  | x :: r, 0, a, h, e => by
    cases h
    show (match f x, mapO f r with | some b, some bs => some (b :: bs) | _, _ => none) = none
    rw [e]
  | x :: r, i + 1, a, h, e => by
    have ih := mapO_bad (l := r) (i := i) (by simpa using h) e
    show (match f x, mapO f r with | some b, some bs => some (b :: bs) | _, _ => none) = none
    rw [ih]
    cases f x <;> rfl
/-- elements that may fail -/
theorem lcp_opt {K : PySem.W.Frag} {te : TE} {j : Nat} {σ : L2.St} {H1 : Hp} {Q : VK} {p : Addr} {α β : Type} {ps : List α} {g : α → V} {f : α → Option β} {R : Hp → V → β → Prop} {F : Hp → Prop} (hs : SqL K H1 p (ps.map g)) (hz : ps.length ≤ 100000)
    (stab : ∀ H H' v z, R H v z → (∀ b ys, H b = some (.tup ys) → H' b = some (.tup ys)) → R H' v z)
    (he : ∀ (i : Nat) (x : α) (H' : Hp) (W : VK), ps[i]? = some x → Same H1 H' → (∀ b, f x = some b → ∀ y H'', Same H' H'' → R H'' y b → W y H'') → (f x = none → ∀ H'', Same H' H'' → F H'') → te ((wipe σ [j]).set j (some (g x))) H' W)
    (kF : mapO f ps = none → ∀ H', Same H1 H' → F H')
    (k : ∀ bs, mapO f ps = some bs → ∀ (D : Addr) (H' : Hp) (acc : List V), H1 D = none → Same H1 H' → H' D = some (.lst acc) → Paired (R H') acc bs → Q (.ref D) H') : ∃ a', V.ref p = V.ref a' ∧ (∃ xs, SqL K H1 a' xs) ∧ Lcs (Itl K a') (gName j) tYes te [j] σ H1 Q := by
  refine ⟨p, rfl, ⟨_, hs⟩, fun D hD => ?_⟩
  refine lc_list (K := K) (a := p) (xs := ps.map g) (fun i H' => Same H1 H' ∧ ∃ acc bs, H' D = some (.lst acc) ∧ mapO f (ps.take i) = some bs ∧ Paired (R H') acc bs) ⟨same_upd hD, [], [], upd_same, rfl, .nil⟩ (fun i H' _ q => q.1.seq hs) ?_ ?_
  · rintro i x H' hi ⟨s, acc, bs, e, m, pr⟩
    rw [List.getElem?_map] at hi
    cases ea : ps[i]? with
    | none => rw [ea] at hi; cases hi
    | some a =>
      rw [ea] at hi
      cases hi
      have il := (List.getElem?_eq_some_iff.mp ea).1
      refine ⟨wipe1, r_yes (r_itT ?_)⟩
      refine he i a H' _ ea s (fun b eb y H'' s2 r => ⟨acc, s2 _ _ e, ?_, ?_, acc ++ [y], bs ++ [b], upd_same, mapO_snoc m ea eb, ?_⟩) fun eb H'' s2 => kF (mapO_bad ea eb) _ (s.trans s2)
      · have l1 := pr.length
        have l2 := mapO_len m
        rw [List.length_take] at l2
        exact sz5l (by omega)
      · exact fun b o q => by
          rw [upd_ne (ne_of_none q hD)]
          exact s2 _ _ (s _ _ q)
      · have bt : ∀ b ys, H'' b = some (.tup ys) → upd H'' D (.lst (acc ++ [y])) b = some (.tup ys) := fun b ys q => by
          rw [upd_ne (ne_of q (s2 _ _ e) (by intro z; cases z))]; exact q
        exact Paired.snoc (Paired.mapP pr fun v z q => stab _ _ v z q fun b ys w => bt b ys (s2 _ _ w)) (stab _ _ _ _ r bt)
  · rintro H' ⟨s, acc, bs, e, m, pr⟩
    rw [List.length_map, List.take_length] at m
    exact k bs m D H' acc hD s e pr
def rdOf (z : Str) : Option Td :=
  if cutS z none (some 6) = "order " then (mapO ltOf (Txt.split (cutS z (some 6) none) ", ")).map Td.ord
  else match Txt.split z " " with
    | w :: ws => if w ≠ "order" ∧ parts.lookup w = some ((ws.length : Int) + 1) then (mapO numOf ws).map (Td.nums w) else none
    | [] => none
def numV (_ : Hp) (v : V) (n : Nat) : Prop := v = .int (n : Int)
theorem numV_all {H : Hp} : ∀ {acc : List V} {ns : List Nat}, Paired (numV H) acc ns → acc = numsOf ns
  | _, _, .nil => rfl
  | _, _, .cons h r => by
    have h' : _ = V.int _ := h
    rw [h', numV_all r]; rfl
theorem part_len {w : Str} {n : Int} (h : parts.lookup w = some n) (no : w ≠ "order") : n = 4 ∨ n = 3 := by
  have hm := lookup_mem h
  unfold parts at hm
  simp only [List.mem_cons, Prod.mk.injEq, List.not_mem_nil, or_false] at hm
  rcases hm with h | h | h | h | h | h | h | h
  · exact absurd h.1 no
  all_goals first | exact .inl h.2 | exact .inr h.2
def spRead (K : PySem.W.Frag) : Sp := fun vs H Q E => ∃ z : Str, vs = [.str z] ∧ z.length ≤ 90000 ∧ (∀ d, rdOf z = some d → ∀ v H', Same H H' → TdA H' v d → (∀ t l, v = .ref t → H' t = some (.tup [.str "order", .ref l]) → H l = none) → Q v H') ∧ (rdOf z = none → ∀ H', Same H H' → E (errN K) none H')
theorem len_Read {K : PySem.W.Frag} {vs : List V} {H : Hp} {Q : VK} {E : XK} (h : spRead K vs H Q E) : vs.length = 1 := by
  obtain ⟨_, rfl, _⟩ := h; rfl
theorem ok_Read {P : Program} {w : World} {K : PySem.W.Frag} {mg : Str → Option Value} {base : Heap} (T : Tx w K mg) : FnOk P w K mg base (L2.CX P w) 3 (He.fAd K dRead.at_) (fdO K dRead.at_) P_Read (spRead K) := by
  refine T.f_Read.ok sc_Read (fun vs H Q E h => len_Read h) (fun cdv A outer s H vs Q E hr h => ⟨_, ((pss_cons (ps_if (pt_cmpR op_eq (pe_slice sl_str (pv 0) po_none (po_some pe_int)) pe_str (nomark _)) (pss_one (ps_ret (pe_tup (pa_cons pe_str (pa_cons (pe_lcX (E := E) (own := [("line", 1)]) (g := gName 1) rfl sc_Read.nd rfl rfl (takes_of rfl rfl rfl rfl) (pi_list (pe_bm PySem.F.plainAttrs_str PySem.F.slot_str_split PySem.F.type_str_split mt_split (pe_slice sl_str (pv 0) (po_some pe_int) po_none) (pa_cons pe_str pa_nil))) (blkOk_by (N := N_Read) (sc := defScope sRead) (by decide +kernel)) (fun _ _ _ _ _ => pg_name (i := 1) sc_Read.nd rfl (Or.inl rfl)) (fun _ _ _ _ _ => (pe_call (ok_LineIn T) (hr.mono (by decide)) rfl T.g_LineIn T.f_LineIn.kp T.b_LineIn .nil fly_pass (pa_cons (pv 1) pa_nil)))) pa_nil))))) pss_nil)
      (pss_cons (ps_set (i := 2) sc_Read.nd rfl (Or.inl rfl) (pe_bm PySem.F.plainAttrs_str PySem.F.slot_str_split PySem.F.type_str_split mt_split (pv 0) (pa_cons pe_str pa_nil)))
      (pss_cons (ps_if (PW.pt (pw_or (pt_cmpR op_eq (pe_ix ix_list (pv 2) pe_int (fun _ _ => rfl)) pe_str (nomark _)) (pw_or (pt_cmpR (op_notIn_pt T.kd) (pe_ix ix_list (pv 2) pe_int (fun _ _ => rfl)) (pe_glob rfl T.c_PARTS (v := .ref (He.ga K "PARTS")) rfl) (by rfl)) (pw_or1 (pt_cmpR op_ne (pe_callB call_len_seq (by rfl) T.b_len (by decide +kernel) (pa_cons (pv 2) pa_nil)) (pe_ix ix_kdict (pe_glob rfl T.c_PARTS (v := .ref (He.ga K "PARTS")) rfl) (pe_ix ix_list (pv 2) pe_int (fun _ _ => rfl)) (fun _ _ => rfl)) (nomark _)))))) (pss_one (ps_raise rfl (takes_of rfl rfl rfl rfl) (pmk_own PySem.F.excBase_ValueError T.x_NoDeed.1 T.g_NoDeed T.x_NoDeed.2.1 (raises_own T.x_NoDeed.2.2.1 T.x_NoDeed.2.2.2) rfl))) pss_nil)
      (pss_cons (ps_setLcX (i := 4) (E := E) (own := [("part", 3)]) (g := gName 3) rfl sc_Read.nd rfl rfl (takes_of rfl rfl rfl rfl) rfl rfl (sw_true rfl rfl rfl (by decide +kernel)) (pi_list (pe_slice sl_list (pv 2) (po_some pe_int) po_none)) (blkOk_by (N := N_Read) (sc := defScope sRead) (by decide +kernel)) (fun _ _ _ _ _ => pg_name (i := 3) sc_Read.nd rfl (Or.inl rfl)) (fun _ _ _ _ _ => (pe_call (ok_NumberIn T) (hr.mono (by decide)) rfl T.g_NumberIn T.f_NumberIn.kp T.b_NumberIn .nil fly_pass (pa_cons (pv 3) pa_nil))))
      (pss_cons (ps_if (pt_cmpR op_eq (pe_callB call_len_seq (by rfl) T.b_len (by decide +kernel) (pa_cons (pv 4) pa_nil)) pe_int (nomark _)) (pss_one (ps_ret (pe_tup (pa_cons (pe_ix ix_list (pv 2) pe_int (fun _ _ => rfl)) (pa_cons (pe_ix ix_list (pv 4) pe_int (fun _ _ => rfl)) (pa_cons (pe_ix ix_list (pv 4) pe_int (fun _ _ => rfl)) pa_nil)))))) pss_nil)
      (pss_one (ps_ret (pe_tup (pa_cons (pe_ix ix_list (pv 2) pe_int (fun _ _ => rfl)) (pa_cons (pe_ix ix_list (pv 4) pe_int (fun _ _ => rfl)) (pa_cons (pe_ix ix_list (pv 4) pe_int (fun _ _ => rfl)) (pa_cons (pe_ix ix_list (pv 4) pe_int (fun _ _ => rfl)) pa_nil))))))))))))), ?_⟩)
  obtain ⟨z, rfl, hz, k, kE⟩ := h
  walk_at "rd"
  refine ⟨_, rfl, sz5 (by omega), ?_⟩
  walk_at "rd"
  refine r_itd (fun ho => ?_) (fun ho => ?_)
  · have rd : rdOf z = (mapO ltOf (Txt.split (cutS z (some 6) none) ", ")).map Td.ord := if_pos ho
    have tl : (cutS z (some 6) none).length ≤ 90000 := Nat.le_trans (cutS_length z _ _) hz
    walk_at "rd"
    refine ⟨_, rfl, sz5 (by omega), ?_⟩
    refine ⟨rfl, ?_⟩
    walk_at "rd"
    refine ⟨_, _, rfl, rfl, by decide +kernel, sz5 (by omega), fun p hp => ?_⟩
    have sl := fun p hp => split_len (z := cutS z (some 6) none) (y := ", ") (by decide +kernel) p hp
    have sm := split_many (z := cutS z (some 6) none) (y := ", ") (by decide +kernel)
    revert rd sl sm
    generalize Txt.split (cutS z (some 6) none) ", " = ps
    intro rd sl sm
    have s1 := same_upd (o := .lst (ps.map V.str)) hp
    refine lcp_opt (ps := ps) (g := V.str) (f := ltOf) (R := fun H v t => TupAt H v t.row) (F := fun H' => E (errN K) none H') (SqL.of upd_same) (by omega) (fun H H' v t ⟨q, e, h⟩ st => ⟨q, e, st _ _ h⟩) ?_ (fun m H' s => kE (by rw [rd, m]; rfl) _ (s1.trans s)) ?_
    · intro i x H' W ex s q qF
      walk_at "rd"
      exact ⟨x, rfl, by have := sl x (List.mem_of_getElem? ex); omega, fun t et v H2 s2 hv => q t et v H2 s2 hv, fun et H2 s2 => qF et H2 s2⟩
    · intro bs m D H' acc hD s e pr
      walk_at "rd"
      refine r_mk (by simp) fun t ht => ?_
      have s2 := same_upd (o := .tup [.str "order", .ref D]) ht
      have pr' : Paired (TupAt H') acc (bs.map Tl.row) := by
        clear m rd k kE e
        induction pr with
        | nil => exact .nil
        | cons h r ih => exact .cons h ih
      exact k (.ord bs) (by rw [rd, m]; rfl) _ _ ((s1.trans s).trans s2) ⟨t, D, acc, rfl, upd_same, s2 _ _ e, tup_keep (But.of (S := fun _ => False) s2) pr'⟩ fun t' l' e1 e2 => by
        cases e1
        rw [upd_same] at e2
        cases e2
        exact Same.free s1 hD
  · have rd : rdOf z = match Txt.split z " " with
      | w :: ws => if w ≠ "order" ∧ parts.lookup w = some ((ws.length : Int) + 1) then (mapO numOf ws).map (Td.nums w) else none
      | [] => none := if_neg ho
    walk_at "rd"
    refine ⟨rfl, ?_⟩
    walk_at "rd"
    refine ⟨_, _, rfl, rfl, by decide +kernel, sz5 (by omega), fun p hp => ?_⟩
    have sl := fun p hp => split_len (z := z) (y := " ") (by decide +kernel) p hp
    have sm := split_many (z := z) (y := " ") (by decide +kernel)
    obtain ⟨w', ws, ew⟩ := split_ne (z := z) (y := " ")
    rw [ew] at rd sl sm ⊢
    have s1 := same_upd (o := .lst ((w' :: ws).map V.str)) hp
    have ep : upd H p (.lst ((w' :: ws).map V.str)) p = some (.lst ((w' :: ws).map V.str)) := upd_same
    revert s1 ep
    generalize upd H p (.lst ((w' :: ws).map V.str)) = H1
    intro s1 ep
    walk_at "rd"
    refine r_ixL (SqL.of ep) (atI_get (j := 0) rfl rfl) ?_
    walk_at "rd"
    have no : ¬ (w' ≠ "order" ∧ parts.lookup w' = some ((ws.length : Int) + 1)) → ∀ H', Same H1 H' → E (errN K) none H' := fun c H' s => kE (by rw [rd]; exact if_neg c) _ (s1.trans s)
    refine r_itd (fun c => ?_) (fun c => ?_)
    · exact no (fun q => q.1 c) _ (Same.refl _)
    walk_at "rd"
    refine r_ixL (SqL.of ep) (atI_get (j := 0) rfl rfl) ?_
    walk_at "rd"
    rcases T.pt w' with ⟨n, e1, u, e2, ru⟩ | ⟨e1, e2⟩
    rotate_left
    · refine ⟨w', _, rfl, rfl, e2, ?_⟩
      walk_at "rd"
      exact no (fun q => by rw [e1] at q; cases q.2) _ (Same.refl _)
    refine ⟨w', _, rfl, rfl, e2, ?_⟩
    walk_at "rd"
    refine r_itnT ?_
    walk_at "rd"
    refine ⟨_, _, rfl, .inl (SqL.of ep), ?_⟩
    walk_at "rd"
    refine r_ixL (SqL.of ep) (atI_get (j := 0) rfl rfl) ?_
    obtain ⟨es, m, lk, lit, ky, low⟩ := T.kd
    refine ⟨_, w', .int n, rfl, rfl, ⟨es, m, u, lk, lit, e2, ru⟩, ?_⟩
    walk_at "rd"
    have lw : ((((w' :: ws).map V.str).length : Nat) : Int) = (ws.length : Int) + 1 := by simp
    rw [lw]
    refine r_itn (fun q => ?_) (fun q => ?_)
    · exact no (fun y => by rw [e1] at y; exact q (Option.some.inj y.2).symm) _ (Same.refl _)
    have yes : w' ≠ "order" ∧ parts.lookup w' = some ((ws.length : Int) + 1) := ⟨c, by rw [e1, q]⟩
    have rd2 : rdOf z = (mapO numOf ws).map (Td.nums w') := by rw [rd]; exact if_pos yes
    have ln := part_len yes.2 c
    walk_at "rd"
    refine r_sll (SqL.of ep) fun p2 hp2 => ?_
    have cut : cutV ((w' :: ws).map V.str) (some 1) none = ws.map V.str := cut_from (k := 1)
    rw [cut]
    have s2 := same_upd (o := .lst (ws.map V.str)) hp2
    refine lcp_opt (ps := ws) (g := V.str) (f := numOf) (R := numV) (F := fun H' => E (errN K) none H') (SqL.of upd_same) (by simp at sm; omega) (fun _ _ _ _ h _ => h) ?_ (fun m H' s => kE (by rw [rd2, m]; rfl) _ ((s1.trans s2).trans s)) ?_
    · intro i x H' W ex s q qF
      walk_at "rd"
      exact ⟨x, rfl, by have := sl x (List.mem_cons_of_mem _ (List.mem_of_getElem? ex)); omega, fun n en => q n en _ _ (Same.refl _) rfl, fun en => qF en _ (Same.refl _)⟩
    · intro ns m D H' acc hD s e pr
      have ea := numV_all pr
      subst ea
      have ll := mapO_len m
      have s3 := (s1.trans s2).trans s
      have ep3 := s _ _ (s2 _ _ ep)
      have fin : ∀ t, H' t = none → Q (.ref t) (upd H' t (.tup (.str w' :: numsOf ns))) := fun t ht => k (.nums w' ns) (by rw [rd2, m]; rfl) _ _ (s3.trans (same_upd ht)) ⟨t, rfl, upd_same⟩ fun t' l' e1 e2 => by
        cases e1
        rw [upd_same] at e2
        have e3 := HO.tup.inj (Option.some.inj e2)
        exact absurd (V.str.inj (List.cons.inj e3).1) c
      walk_at "rd"
      refine ⟨D, _, rfl, .inl (SqL.of e), ?_⟩
      have ln2 : ((numsOf ns).length : Nat) = ws.length := by unfold numsOf; rw [List.length_map, ll]
      rw [ln2]
      walk_at "rd"
      refine r_itd (fun c2 => ?_) (fun c2 => ?_)
      · have l2 : ns.length = 2 := by omega
        match ns, l2 with
        | [a, b], _ =>
        walk_at "rd"
        refine r_ixL (SqL.of ep3) (atI_get (j := 0) rfl rfl) ?_
        walk_at "rd"
        refine r_ixL (SqL.of e) (atI_get (j := 0) rfl rfl) ?_
        walk_at "rd"
        refine r_ixL (SqL.of e) (atI_get (j := 1) rfl rfl) ?_
        walk_at "rd"
        exact r_mk (by simp) fun t ht => fin t ht
      · have l3 : ns.length = 3 := by omega
        match ns, l3 with
        | [a, b, d], _ =>
        walk_at "rd"
        refine r_ixL (SqL.of ep3) (atI_get (j := 0) rfl rfl) ?_
        walk_at "rd"
        refine r_ixL (SqL.of e) (atI_get (j := 0) rfl rfl) ?_
        walk_at "rd"
        refine r_ixL (SqL.of e) (atI_get (j := 1) rfl rfl) ?_
        walk_at "rd"
        refine r_ixL (SqL.of e) (atI_get (j := 2) rfl rfl) ?_
        walk_at "rd"
        exact r_mk (by simp) fun t ht => fin t ht

/-! ### the law reads it -/
theorem starts_cut {z : Str} : Txt.startswith z "order " = decide (cutS z none (some 6) = "order ") := by
  have l6 : ("order " : Str).length = 6 := by decide +kernel
  have hl : z.cps.toList.length = z.length := Array.length_toList
  have t6 : ("order " : Str).cps.toList = [111, 114, 100, 101, 114, 32] := six
  unfold Txt.startswith
  rw [StrLaws.subAt_eq, l6, List.drop_zero, t6]
  by_cases h : cutS z none (some 6) = "order "
  · rw [decide_eq_true h]
    have q := congrArg TL.tl h
    rw [cut_to6, six] at q
    have q' : z.cps.toList.take 6 = [111, 114, 100, 101, 114, 32] := q
    have l := congrArg List.length q'
    rw [List.length_take] at l
    have l' : min 6 z.cps.toList.length = 6 := l
    rw [q', decide_eq_true (by omega)]
    rfl
  · rw [decide_eq_false h]
    cases e : (z.cps.toList.take 6 == [111, 114, 100, 101, 114, 32]) with
    | false => rw [Bool.and_false]
    | true =>
      exfalso
      refine h (TL.ext_tl ?_)
      rw [cut_to6, six]
      exact eq_of_beq e
def numI (z : Str) : Int := match numOf z with
  | some n => (n : Int)
  | none => -1
def spLNumberIn (K : PySem.W.Frag) : Sp := fun vs H Q _ => ∃ z : Str, vs = [.str z] ∧ z.length ≤ 90000 ∧ Q (.int (numI z)) H
theorem len_LNumberIn {K : PySem.W.Frag} {vs : List V} {H : Hp} {Q : VK} {E : XK} (h : spLNumberIn K vs H Q E) : vs.length = 1 := by
  obtain ⟨_, rfl, _⟩ := h; rfl
theorem ok_LNumberIn {P : Program} {w : World} {K : PySem.W.Frag} {mg : Str → Option Value} {base : Heap} (T : Tx w K mg) : FnOk P w K mg base CX0 1 (He.fAd K dLNumberIn.at_) (fdO K dLNumberIn.at_) P_LNumberIn (spLNumberIn K) := by
  refine T.f_LNumberIn.ok sc_LNumberIn (fun vs H Q E h => len_LNumberIn h) (fun cdv A outer s H vs Q E hr h => ⟨_, PSs.nox ((pss_cons (ps_if (PW.pt (pw_or (pt_not (pt_chain op_lt op_lt pe_int (pe_callB call_len_str (by rfl) T.b_len (by decide +kernel) (pa_cons (pv 0) pa_nil)) pe_int)) (pw_or1 (PW.pt (pw_and (pt_cmpR op_eq (pe_ix ix_str (pv 0) pe_int (fun _ _ => rfl)) pe_str (nomark _)) (pw_and1 (pt_cmpR op_gt (pe_callB call_len_str (by rfl) T.b_len (by decide +kernel) (pa_cons (pv 0) pa_nil)) pe_int (nomark _)))))))) (pss_one (ps_ret (pe_un un_neg pe_int))) pss_nil)
      (pss_cons (ps_for PassesOwn.never rfl (pi_str (pv 0)) (pg_name (i := 1) sc_LNumberIn.nd rfl (Or.inl rfl)) (pss_one (ps_if (pt_cmpR op_notIn_sign (pv 1) pe_str (by rfl)) (pss_one (ps_ret (pe_un un_neg pe_int))) pss_nil)))
      (pss_one (ps_ret (pe_callTy call_int_str (by rfl) T.b_int (by decide +kernel) (pa_cons (pv 0) pa_nil))))))), ?_⟩)
  obtain ⟨z, rfl, hz, k⟩ := h
  have no : figs z = false → Q (.int (-1)) H := fun f => by
    have e : numI z = -1 := by
      unfold numI numOf
      rw [f]; rfl
    rw [e] at k
    exact k
  have lens : ¬ (1 ≤ z.length ∧ z.length ≤ 30) → figs z = false := fun c => by
    unfold figs
    rw [decide_eq_false c, Bool.false_and, Bool.and_false]
  with_reducible refine r_join (fun σ' H' => H = H' ∧ (1 ≤ z.length ∧ z.length ≤ 30) ∧ (decide (z.cps.toList.head? = some 48) && decide (1 < z.length)) = false ∧ σ' = [some (.str z), none]) ?_ fun N hN => ?_
  rotate_left
  · walk_at "rd"
    refine ⟨_, rfl, sz5 (by omega), ?_⟩
    walk_at "rd"
    refine r_itd (fun c1 => ?_) (fun c1 => ?_)
    rotate_left
    · walk_at "rd"
      exact no (lens (by omega))
    walk_at "rd"
    refine r_itn (fun c2 => ?_) (fun c2 => ?_)
    · walk_at "rd"
      exact no (lens (by omega))
    have l : 1 ≤ z.length ∧ z.length ≤ 30 := ⟨by omega, by omega⟩
    obtain ⟨c, e1, e2⟩ := head_at l.1
    walk_at "rd"
    refine ⟨_, _, c, rfl, rfl, sz5 (by omega), e1, ?_⟩
    walk_at "rd"
    rw [one_sign]
    refine r_itd (fun c3 => ?_) (fun c3 => ?_)
    · walk_at "rd"
      refine ⟨_, rfl, sz5 (by omega), ?_⟩
      walk_at "rd"
      refine r_itd (fun c4 => ?_) (fun c4 => ?_)
      · walk_at "rd"
        refine no ?_
        unfold figs
        rw [e2, decide_eq_true (p := some c = some 48) (by rw [c3]), decide_eq_true (p := 1 < z.length) (by omega)]
        simp
      · walk_at "rd"
        exact hN _ _ ⟨rfl, l, by rw [decide_eq_false (p := 1 < z.length) (by omega), Bool.and_false], rfl⟩
    · walk_at "rd"
      exact hN _ _ ⟨rfl, l, by rw [e2, decide_eq_false (p := some c = some 48) (fun w => c3 (Option.some.inj w)), Bool.false_and], rfl⟩
  rintro σ' _ ⟨rfl, l, nz, rfl⟩
  walk_at "rd"
  refine ⟨z, rfl, for_it walk_str (fun i σ H' => ∃ v, σ = [some (.str z), v] ∧ H' = H ∧ ∀ j c, j < i → z.cps[j]? = some c → c ∈ figures.cps.toList) ⟨none, rfl, rfl, fun j c hj => absurd hj (Nat.not_lt_zero _)⟩ (fun _ _ _ _ _ => trivial) ?_ ?_⟩
  · rintro i x σ H1 H2 hi ⟨v, rfl, rfl, hp⟩ ⟨rfl, c, hc, rfl⟩
    walk_at "rd"
    refine ⟨c, _, rfl, rfl, ?_⟩
    walk_at "rd"
    refine r_itn (fun hn => ?_) (fun hy => ?_)
    · walk_at "rd"
      exact no (figs_sign hc hn)
    · walk_at "rd"
      refine ⟨_, rfl, rfl, fun j c' hj e => ?_⟩
      by_cases h : j = i
      · subst h
        rw [hc] at e
        rw [← Option.some.inj e]
        exact hy
      · exact hp j c' (by omega) e
  · rintro σ H1 ⟨v, rfl, rfl, hp⟩
    have all := figs_all hp
    have fi : figs z = true := by rw [figs_if all, decide_eq_true l, nz]; rfl
    have e : numI z = ((NumText.digitsVal z.cps.toList : Nat) : Int) := by
      unfold numI numOf
      rw [fi]; rfl
    rw [e] at k
    walk_at "rd"
    exact ⟨z, _, rfl, figs_int all l, by omega, k⟩
def spLLineIn (K : PySem.W.Frag) : Sp := fun vs H Q _ => ∃ z : Str, vs = [.str z] ∧ z.length ≤ 90000 ∧ (∀ t, ltOf z = some t → ∀ v H', Same H H' → TupAt H' v t.row → Q v H') ∧ (ltOf z = none → ∀ H', Same H H' → Q .non H')
theorem len_LLineIn {K : PySem.W.Frag} {vs : List V} {H : Hp} {Q : VK} {E : XK} (h : spLLineIn K vs H Q E) : vs.length = 1 := by
  obtain ⟨_, rfl, _⟩ := h; rfl
theorem numI_cases (z : Str) : (∃ n, numOf z = some n ∧ numI z = (n : Int)) ∨ (numOf z = none ∧ numI z = -1) := by
  unfold numI
  cases numOf z with
  | none => exact .inr ⟨rfl, rfl⟩
  | some n => exact .inl ⟨n, rfl, rfl⟩
theorem ok_LLineIn {P : Program} {w : World} {K : PySem.W.Frag} {mg : Str → Option Value} {base : Heap} (T : Tx w K mg) : FnOk P w K mg base CX0 2 (He.fAd K dLLineIn.at_) (fdO K dLLineIn.at_) P_LLineIn (spLLineIn K) := by
  refine T.f_LLineIn.ok sc_LLineIn (fun vs H Q E h => len_LLineIn h) (fun cdv A outer s H vs Q E hr h => ⟨_, PSs.nox ((pss_cons (ps_set (i := 1) sc_LLineIn.nd rfl (Or.inl rfl) (pe_bm PySem.F.plainAttrs_str PySem.F.slot_str_split PySem.F.type_str_split mt_split (pv 0) (pa_cons pe_str pa_nil)))
      (pss_cons (ps_if (PW.pt (pw_or (pt_cmpR op_ne (pe_callB call_len_seq (by rfl) T.b_len (by decide +kernel) (pa_cons (pv 1) pa_nil)) pe_int (nomark _)) (pw_or1 (pt_not (pt_chain op_lt op_lt pe_int (pe_callB call_len_str (by rfl) T.b_len (by decide +kernel) (pa_cons (pe_ix ix_list (pv 1) pe_int (fun _ _ => rfl)) pa_nil)) pe_int))))) (pss_one (ps_ret pe_non)) pss_nil)
      (pss_cons (ps_for PassesOwn.never rfl (pi_str (pe_ix ix_list (pv 1) pe_int (fun _ _ => rfl))) (pg_name (i := 2) sc_LLineIn.nd rfl (Or.inl rfl)) (pss_one (ps_if (pt_cmpR op_notIn_sign (pv 2) pe_str (by rfl)) (pss_one (ps_ret pe_non)) pss_nil)))
      (pss_cons (ps_setLc (i := 4) (own := [("_law_word", 3)]) (g := gName 3) (tt := tYes) rfl sc_LLineIn.nd rfl rfl (sw_true rfl rfl rfl (by decide +kernel)) (pi_list (pe_slice sl_list (pv 1) (po_some pe_int) po_none)) (blkOk_by (N := N_LLineIn) (sc := defScope sLLineIn) (by decide +kernel)) (fun _ _ _ _ _ => pg_name (i := 3) sc_LLineIn.nd rfl (Or.inl rfl)) (fun _ _ _ _ _ => pts_nil) (fun _ _ _ _ _ => (pe_call (ok_LNumberIn T) (hr.mono (by decide)) rfl T.g_LNumberIn T.f_LNumberIn.kp T.b_LNumberIn .nil pass0 (pa_cons (pv 3) pa_nil))))
      (pss_cons (ps_if (pt_cmpR op_lt (pe_callB (cr_min rfl) (by rfl) T.b_min (by decide +kernel) (pa_cons (pv 4) pa_nil)) pe_int (nomark _)) (pss_one (ps_ret pe_non)) pss_nil)
      (pss_one (ps_ret (pe_tup (pa_cons (pe_ix ix_list (pv 1) pe_int (fun _ _ => rfl)) (pa_cons (pe_ix ix_list (pv 4) pe_int (fun _ _ => rfl)) (pa_cons (pe_ix ix_list (pv 4) pe_int (fun _ _ => rfl)) (pa_cons (pe_ix ix_list (pv 4) pe_int (fun _ _ => rfl)) pa_nil))))))))))))), ?_⟩)
  obtain ⟨z, rfl, hz, k, kN⟩ := h
  walk_at "rd"
  refine ⟨rfl, ?_⟩
  walk_at "rd"
  refine ⟨_, _, rfl, rfl, by decide +kernel, sz5 (by omega), fun p hp => ?_⟩
  have sl := fun p hp => split_len (z := z) (y := " ") (by decide +kernel) p hp
  obtain ⟨ps, eps⟩ : ∃ ps, ps = Txt.split z " " := ⟨_, rfl⟩
  rw [← eps] at sl ⊢
  have s1 := same_upd (o := .lst (ps.map V.str)) hp
  have ep : upd H p (.lst (ps.map V.str)) p = some (.lst (ps.map V.str)) := upd_same
  revert s1 ep
  generalize upd H p (.lst (ps.map V.str)) = H1
  intro s1 ep
  walk_at "rs"
  with_reducible refine r_join (fun σ' H' => H1 = H' ∧ (∃ a b c d, ps = [a, b, c, d] ∧ 1 ≤ a.length ∧ a.length ≤ 12) ∧ σ' = [some (.str z), some (.ref p), none, none, none]) ?_ fun N hN => ?_
  rotate_left
  · walk_at "rd"
    refine ⟨p, _, rfl, .inl (SqL.of ep), ?_⟩
    rw [List.length_map]
    walk_at "rd"
    refine r_itn (fun c => ?_) (fun c => ?_)
    · walk_at "rd"
      refine kN ?_ _ s1
      unfold ltOf
      rw [← eps]
      split
      · exact absurd rfl c
      · rfl
    match ps, sl, eps, ep, c, hN with
    | [a, b, c', d], sl, eps, ep, _, hN =>
    have la := sl a (by simp)
    have no : isItem a = false → Q .non H1 := fun it => kN (by
      unfold ltOf
      rw [← eps]
      show (if isItem a = true then _ else none) = none
      rw [it, if_neg (by decide)]) _ s1
    walk_at "rd"
    refine r_ixL (SqL.of ep) (atI_get (j := 0) rfl rfl) ?_
    walk_at "rd"
    refine ⟨a, rfl, sz5 (by omega), ?_⟩
    walk_at "rd"
    refine r_itd (fun c1 => ?_) (fun c1 => ?_)
    rotate_left
    · walk_at "rd"
      exact no (by unfold isItem; rw [decide_eq_false (p := 1 ≤ a.length ∧ a.length ≤ 12) (by omega), Bool.and_false])
    walk_at "rd"
    refine r_itn (fun c2 => ?_) (fun c2 => ?_)
    · walk_at "rd"
      exact no (by unfold isItem; rw [decide_eq_false (p := 1 ≤ a.length ∧ a.length ≤ 12) (by omega), Bool.and_false])
    · walk_at "rd"
      exact hN _ _ ⟨rfl, ⟨a, b, c', d, rfl, by omega, by omega⟩, rfl⟩
  rintro σ' _ ⟨rfl, ⟨a, b, c', d, rfl, la1, la2⟩, rfl⟩
  have lb := sl b (by simp)
  have lc := sl c' (by simp)
  have ld := sl d (by simp)
  have lt : ltOf z = if isItem a = true then (match numOf b, numOf c', numOf d with
    | some x, some y, some u => some ⟨a, x, y, u⟩
    | _, _, _ => none) else none := by
    unfold ltOf
    rw [← eps]
    try rfl
  walk_at "rd"
  refine r_ixL (SqL.of ep) (atI_get (j := 0) rfl rfl) ?_
  refine ⟨a, rfl, for_it walk_str (fun i σ H' => ∃ v, σ = [some (.str z), some (.ref p), v, none, none] ∧ H' = H1 ∧ ∀ j c, j < i → a.cps[j]? = some c → c ∈ letters.cps.toList) ⟨none, rfl, rfl, fun j c hj => absurd hj (Nat.not_lt_zero _)⟩ (fun _ _ _ _ _ => trivial) ?_ ?_⟩
  · rintro i x σ H2 H3 hi ⟨v, rfl, rfl, hp⟩ ⟨rfl, c, hc, rfl⟩
    walk_at "rd"
    refine ⟨c, _, rfl, rfl, ?_⟩
    walk_at "rd"
    refine r_itn (fun hn => ?_) (fun hy => ?_)
    · walk_at "rd"
      exact kN (by rw [lt, isItem_no hc hn]; rfl) _ s1
    · walk_at "rd"
      refine ⟨_, rfl, rfl, fun j c' hj e => ?_⟩
      by_cases h : j = i
      · subst h
        rw [hc] at e
        rw [← Option.some.inj e]
        exact hy
      · exact hp j c' (by omega) e
  · rintro σ H2 ⟨v, rfl, rfl, hp⟩
    have it : isItem a = true := by rw [isItem_yes hp]; exact decide_eq_true ⟨la1, la2⟩
    rw [it, if_pos rfl] at lt
    walk_at "rd"
    refine r_sll (SqL.of ep) fun p2 hp2 => ?_
    have cut : cutV ([a, b, c', d].map V.str) (some 1) none = [b, c', d].map V.str := cut_from (k := 1)
    rw [cut]
    have s2 := same_upd (o := .lst ([b, c', d].map V.str)) hp2
    refine lcp_list (ys := [b, c', d].map fun q => V.int (numI q)) (SqL.of upd_same) rfl (by show 3 ≤ 100000; decide) ?_ ?_
    · intro i x y H' R ex ey s q
      have hi : i < 3 := (List.getElem?_eq_some_iff.mp ex).1
      obtain ⟨w', hw, rfl, rfl⟩ : ∃ w', w'.length ≤ 90000 ∧ x = .str w' ∧ y = .int (numI w') := by
        have : i = 0 ∨ i = 1 ∨ i = 2 := by omega
        rcases this with rfl | rfl | rfl <;> (cases ex; cases ey)
        · exact ⟨b, by omega, rfl, rfl⟩
        · exact ⟨c', by omega, rfl, rfl⟩
        · exact ⟨d, by omega, rfl, rfl⟩
      walk_at "rd"
      exact ⟨w', rfl, hw, q _ (Same.refl _)⟩
    · intro D H3 hD s3 eD
      have s13 := (s1.trans s2).trans s3
      walk_at "rd"
      refine ⟨D, [numI b, numI c', numI d], rfl, SqL.of eD, (by show 0 < 3; decide), fun mn hm hmin => ?_⟩
      have h1 := hmin (numI b) (by simp)
      have h2 := hmin (numI c') (by simp)
      have h3 := hmin (numI d) (by simp)
      walk_at "rd"
      refine r_itd (fun c1 => ?_) (fun c1 => ?_)
      · walk_at "rd"
        refine kN ?_ _ s13
        rw [lt]
        simp only [List.mem_cons, List.not_mem_nil, or_false] at hm
        rcases numI_cases b with ⟨x, e1, f1⟩ | ⟨e1, f1⟩
        · rcases numI_cases c' with ⟨y, e2, f2⟩ | ⟨e2, f2⟩
          · rcases numI_cases d with ⟨u, e3, f3⟩ | ⟨e3, f3⟩
            · exfalso
              rcases hm with hm | hm | hm <;> omega
            · rw [e1, e2, e3]
          · rw [e1, e2]
        · rw [e1]
      · rcases numI_cases b with ⟨x, e1, f1⟩ | ⟨e1, f1⟩
        rotate_left
        · exfalso; omega
        rcases numI_cases c' with ⟨y, e2, f2⟩ | ⟨e2, f2⟩
        rotate_left
        · exfalso; omega
        rcases numI_cases d with ⟨u, e3, f3⟩ | ⟨e3, f3⟩
        rotate_left
        · exfalso; omega
        rw [e1, e2, e3] at lt
        walk_at "rd"
        refine r_ixL (SqL.of (s3 _ _ (s2 _ _ ep))) (atI_get (j := 0) rfl rfl) ?_
        walk_at "rd"
        refine r_ixL (SqL.of eD) (atI_get (j := 0) rfl rfl) ?_
        walk_at "rd"
        refine r_ixL (SqL.of eD) (atI_get (j := 1) rfl rfl) ?_
        walk_at "rd"
        refine r_ixL (SqL.of eD) (atI_get (j := 2) rfl rfl) ?_
        walk_at "rd"
        dsimp only
        rw [f1, f2, f3]
        exact r_mk (by simp) fun q hq => k _ lt _ _ (s13.trans (same_upd hq)) ⟨q, rfl, upd_same⟩
/-- what words of deeds there are -/
theorem words7 {w : Str} (no : w ≠ "order") : (parts.lookup w = none ∧ w ∉ (["deliver", "back", "swap", "credit", "move", "pay", "refund"] : List Str)) ∨
    (inV (.str w) [.str "deliver", .str "back", .str "swap", .str "credit", .str "move", .str "pay", .str "refund"] = true ∧ PyData.strOk w = true ∧ ((parts.lookup w = some 4 ∧ inV (.str w) [.str "pay", .str "refund"] = false) ∨ (parts.lookup w = some 3 ∧ inV (.str w) [.str "pay", .str "refund"] = true))) := by
  by_cases h : w ∈ (["deliver", "back", "swap", "credit", "move", "pay", "refund"] : List Str)
  · refine .inr ?_
    simp only [List.mem_cons, List.not_mem_nil, or_false] at h
    rcases h with rfl | rfl | rfl | rfl | rfl | rfl | rfl
    · exact ⟨by decide +kernel, by decide +kernel, .inl ⟨by decide +kernel, by decide +kernel⟩⟩
    · exact ⟨by decide +kernel, by decide +kernel, .inl ⟨by decide +kernel, by decide +kernel⟩⟩
    · exact ⟨by decide +kernel, by decide +kernel, .inl ⟨by decide +kernel, by decide +kernel⟩⟩
    · exact ⟨by decide +kernel, by decide +kernel, .inl ⟨by decide +kernel, by decide +kernel⟩⟩
    · exact ⟨by decide +kernel, by decide +kernel, .inl ⟨by decide +kernel, by decide +kernel⟩⟩
    · exact ⟨by decide +kernel, by decide +kernel, .inr ⟨by decide +kernel, by decide +kernel⟩⟩
    · exact ⟨by decide +kernel, by decide +kernel, .inr ⟨by decide +kernel, by decide +kernel⟩⟩
  · refine .inl ⟨?_, h⟩
    cases e : parts.lookup w with
    | none => rfl
    | some n =>
      exfalso
      have hm := lookup_mem e
      unfold parts at hm
      simp only [List.mem_cons, Prod.mk.injEq, List.not_mem_nil, or_false] at hm
      simp only [List.mem_cons, List.not_mem_nil, or_false, not_or] at h
      rcases hm with q | q | q | q | q | q | q | q
      · exact no q.1
      · exact h.1 q.1
      · exact h.2.1 q.1
      · exact h.2.2.1 q.1
      · exact h.2.2.2.1 q.1
      · exact h.2.2.2.2.2.1 q.1
      · exact h.2.2.2.2.2.2 q.1
      · exact h.2.2.2.2.1 q.1
theorem inV_out {w : Str} {ws : List Str} (h : w ∉ ws) : inV (.str w) (ws.map V.str) = false := by
  unfold inV
  rw [List.any_eq_false]
  intro v hv
  obtain ⟨z, hz, rfl⟩ := List.mem_map.mp hv
  show ¬ (z == w) = true
  intro e
  have : z = w := by simpa using e
  exact h (this ▸ hz)
theorem mapO_all {α β : Type} {f : α → Option β} : ∀ {l : List α}, (∀ a, a ∈ l → f a ≠ none) → ∃ bs, mapO f l = some bs
  | [], _ => ⟨[], rfl⟩
  | a :: r, h => by
    obtain ⟨bs, e⟩ := mapO_all (f := f) (l := r) fun x hx => h x (List.mem_cons_of_mem _ hx)
    cases q : f a with
    | none => exact absurd q (h a List.mem_cons_self)
    | some b =>
      refine ⟨b :: bs, ?_⟩
      show (match f a, mapO f r with | some b, some bs => some (b :: bs) | _, _ => none) = _
      rw [q, e]
def optV (H : Hp) (v : V) (z : Str) : Prop := (∃ t, ltOf z = some t ∧ TupAt H v t.row) ∨ (ltOf z = none ∧ v = .non)
theorem mapO_some {α β : Type} {f : α → Option β} {a : α} {r : List α} {bs : List β} (h : mapO f (a :: r) = some bs) : ∃ b cs, f a = some b ∧ mapO f r = some cs ∧ bs = b :: cs := by
  have h' : (match f a, mapO f r with | some b, some bs => some (b :: bs) | _, _ => none) = some bs := h
  cases e1 : f a with
  | none => rw [e1] at h'; cases h'
  | some b =>
    cases e2 : mapO f r with
    | none => rw [e1, e2] at h'; cases h'
    | some cs =>
      rw [e1, e2] at h'
      cases h'
      exact ⟨b, cs, rfl, rfl, rfl⟩
theorem opt_pair {H : Hp} : ∀ {acc : List V} {ps : List Str} {bs : List Tl}, Paired (optV H) acc ps → mapO ltOf ps = some bs → Paired (TupAt H) acc (bs.map Tl.row)
  | _, _, bs, .nil, h => by
    cases h
    exact .nil
  | _, _, bs, .cons q r, h => by
    obtain ⟨b, cs, e1, e2, rfl⟩ := mapO_some h
    rcases q with ⟨t, e, q⟩ | ⟨e, _⟩
    · rw [e1] at e
      cases e
      exact .cons q (opt_pair r e2)
    · rw [e1] at e
      cases e
theorem nums_all : ∀ {ws : List Str} {ns : List Nat}, mapO numOf ws = some ns → (ws.map fun q => V.int (numI q)) = numsOf ns
  | [], ns, h => by cases h; rfl
  | w :: ws, ns, h => by
    obtain ⟨b, cs, e1, e2, rfl⟩ := mapO_some h
    have : numI w = (b : Int) := by
      unfold numI
      rw [e1]
    rw [List.map_cons, nums_all e2, this]
    rfl
def spLDeedIn (K : PySem.W.Frag) : Sp := fun vs H Q _ => ∃ z : Str, vs = [.str z] ∧ z.length ≤ 90000 ∧ (∀ d, rdOf z = some d → ∀ v H', Same H H' → TdA H' v d → Q v H') ∧ (rdOf z = none → ∀ H', Same H H' → Q .non H')
theorem len_LDeedIn {K : PySem.W.Frag} {vs : List V} {H : Hp} {Q : VK} {E : XK} (h : spLDeedIn K vs H Q E) : vs.length = 1 := by
  obtain ⟨_, rfl, _⟩ := h; rfl
theorem ok_LDeedIn {P : Program} {w : World} {K : PySem.W.Frag} {mg : Str → Option Value} {base : Heap} (T : Tx w K mg) : FnOk P w K mg base CX0 3 (He.fAd K dLDeedIn.at_) (fdO K dLDeedIn.at_) P_LDeedIn (spLDeedIn K) := by
  refine T.f_LDeedIn.ok sc_LDeedIn (fun vs H Q E h => len_LDeedIn h) (fun cdv A outer s H vs Q E hr h => ⟨_, PSs.nox ((pss_cons (ps_if (pt_val (pe_bm PySem.F.plainAttrs_str PySem.F.slot_str_startswith PySem.F.type_str_startswith mt_startswith (pv 0) (pa_cons pe_str pa_nil))) (pss_cons (ps_setLc (i := 2) (own := [("_law_part", 1)]) (g := gName 1) (tt := tYes) rfl sc_LDeedIn.nd rfl rfl (sw_true rfl rfl rfl (by decide +kernel)) (pi_list (pe_bm PySem.F.plainAttrs_str PySem.F.slot_str_split PySem.F.type_str_split mt_split (pe_slice sl_str (pv 0) (po_some pe_int) po_none) (pa_cons pe_str pa_nil))) (blkOk_by (N := N_LDeedIn) (sc := defScope sLDeedIn) (by decide +kernel)) (fun _ _ _ _ _ => pg_name (i := 1) sc_LDeedIn.nd rfl (Or.inl rfl)) (fun _ _ _ _ _ => pts_nil) (fun _ _ _ _ _ => (pe_call (ok_LLineIn T) (hr.mono (by decide)) rfl T.g_LLineIn T.f_LLineIn.kp T.b_LLineIn .nil pass0 (pa_cons (pv 1) pa_nil))))
      (pss_cons (ps_for PassesOwn.never rfl (pi_list (pv 2)) (pg_name (i := 3) sc_LDeedIn.nd rfl (Or.inl rfl)) (pss_one (ps_if (pt_cmpR op_isN (pv 3) pe_non (nomark _)) (pss_one (ps_ret pe_non)) pss_nil)))
      (pss_one (ps_ret (pe_tup (pa_cons pe_str (pa_cons (pv 2) pa_nil))))))) pss_nil)
      (pss_cons (ps_set (i := 4) sc_LDeedIn.nd rfl (Or.inl rfl) (pe_bm PySem.F.plainAttrs_str PySem.F.slot_str_split PySem.F.type_str_split mt_split (pv 0) (pa_cons pe_str pa_nil)))
      (pss_cons (ps_set (i := 5) sc_LDeedIn.nd rfl (Or.inl rfl) (pe_op op_sub pe_int (pe_callTy call_int1 (by rfl) T.b_int (by decide +kernel) (pa_cons (pe_cmpR op_in_seq (pe_ix ix_list (pv 4) pe_int (fun _ _ => rfl)) (pe_lst (pa_cons pe_str (pa_cons pe_str pa_nil))) (by rfl)) pa_nil))))
      (pss_cons (ps_if (PW.pt (pw_or (pt_cmpR op_notIn_seq (pe_ix ix_list (pv 4) pe_int (fun _ _ => rfl)) (pe_lst (pa_cons pe_str (pa_cons pe_str (pa_cons pe_str (pa_cons pe_str (pa_cons pe_str (pa_cons pe_str (pa_cons pe_str pa_nil)))))))) (by rfl)) (pw_or1 (pt_cmpR op_ne (pe_callB call_len_seq (by rfl) T.b_len (by decide +kernel) (pa_cons (pv 4) pa_nil)) (pv 5) (nomark _))))) (pss_one (ps_ret pe_non)) pss_nil)
      (pss_cons (ps_setLc (i := 7) (own := [("_law_word", 6)]) (g := gName 6) (tt := tYes) rfl sc_LDeedIn.nd rfl rfl (sw_true rfl rfl rfl (by decide +kernel)) (pi_list (pe_slice sl_list (pv 4) (po_some pe_int) po_none)) (blkOk_by (N := N_LDeedIn) (sc := defScope sLDeedIn) (by decide +kernel)) (fun _ _ _ _ _ => pg_name (i := 6) sc_LDeedIn.nd rfl (Or.inl rfl)) (fun _ _ _ _ _ => pts_nil) (fun _ _ _ _ _ => (pe_call (ok_LNumberIn T) (hr.mono (by decide)) rfl T.g_LNumberIn T.f_LNumberIn.kp T.b_LNumberIn .nil pass0 (pa_cons (pv 6) pa_nil))))
      (pss_cons (ps_if (pt_cmpR op_lt (pe_callB (cr_min rfl) (by rfl) T.b_min (by decide +kernel) (pa_cons (pv 7) pa_nil)) pe_int (nomark _)) (pss_one (ps_ret pe_non)) pss_nil)
      (pss_one (ps_ret (pe_callTy call_tuple_of (by rfl) T.b_tuple (by decide +kernel) (pa_cons (pe_op op_cat (pe_lst (pa_cons (pe_ix ix_list (pv 4) pe_int (fun _ _ => rfl)) pa_nil)) (pv 7)) pa_nil))))))))))), ?_⟩)
  obtain ⟨z, rfl, hz, k, kN⟩ := h
  walk_at "rd"
  refine ⟨rfl, ?_⟩
  walk_at "rd"
  refine ⟨z, _, rfl, rfl, ?_⟩
  rw [starts_cut]
  walk_at "rd"
  refine r_itd (fun ho => ?_) (fun ho => ?_)
  · have rd : rdOf z = (mapO ltOf (Txt.split (cutS z (some 6) none) ", ")).map Td.ord := if_pos ho
    have tl : (cutS z (some 6) none).length ≤ 90000 := Nat.le_trans (cutS_length z _ _) hz
    walk_at "rd"
    refine ⟨_, rfl, sz5 (by omega), ?_⟩
    refine ⟨rfl, ?_⟩
    walk_at "rd"
    refine ⟨_, _, rfl, rfl, by decide +kernel, sz5 (by omega), fun p hp => ?_⟩
    have sl := fun p hp => split_len (z := cutS z (some 6) none) (y := ", ") (by decide +kernel) p hp
    have sm := split_many (z := cutS z (some 6) none) (y := ", ") (by decide +kernel)
    revert rd sl sm
    generalize Txt.split (cutS z (some 6) none) ", " = ps
    intro rd sl sm
    have s1 := same_upd (o := .lst (ps.map V.str)) hp
    refine lcp_rel (xs := ps.map V.str) (zs := ps) (R := optV) (SqL.of upd_same) (by simp) (by simp; omega) (fun H H' v t h st => h.elim (fun ⟨x, e, q, e2, h⟩ => .inl ⟨x, e, q, e2, st _ _ h⟩) .inr) ?_ ?_
    · intro i x y H' W ex ey s q
      rw [List.getElem?_map, ey] at ex
      cases ex
      walk_at "rd"
      exact ⟨y, rfl, by have := sl y (List.mem_of_getElem? ey); omega, fun t et v H2 s2 hv => q v H2 s2 (.inl ⟨t, et, hv⟩), fun et H2 s2 => q .non H2 s2 (.inr ⟨et, rfl⟩)⟩
    · intro D H2 acc hD s2 eD pr
      have s12 := s1.trans s2
      walk_at "rd"
      refine ⟨D, rfl, ⟨_, SqL.of eD⟩, for_list (K := K) (a := D) (xs := acc) (fun i σ H' => ∃ v, σ = [some (.str z), none, some (.ref D), v, none, none, none, none] ∧ H' = H2 ∧ ∀ (j : Nat) w, j < i → ps[j]? = some w → ltOf w ≠ none) ⟨none, rfl, rfl, fun j w hj => absurd hj (Nat.not_lt_zero _)⟩ (fun i σ H' _ ⟨_, _, e, _⟩ => by rw [e]; exact SqL.of eD) ?_ ?_⟩
      · rintro i x σ H' hi ⟨v, rfl, rfl, ok⟩
        obtain ⟨w', ew, hw⟩ := pr_ex pr hi
        rcases hw with ⟨t, et, q, rfl, hq⟩ | ⟨et, rfl⟩
        · walk_at "rd"
          refine ⟨rfl, ?_⟩
          walk_at "rd"
          refine r_itz (fun q => by cases q) ?_
          walk_at "rd"
          refine ⟨_, rfl, rfl, fun j u hj eu => ?_⟩
          by_cases ej : j = i
          · subst ej
            rw [ew] at eu
            cases eu
            rw [et]
            exact fun q => nomatch q
          · exact ok j u (by omega) eu
        · walk_at "rd"
          refine ⟨rfl, ?_⟩
          walk_at "rd"
          refine r_ity rfl ?_
          walk_at "rd"
          exact kN (by rw [rd, mapO_bad ew et]; rfl) _ s12
      · rintro σ H' ⟨v, rfl, rfl, ok⟩
        have lp := pr.length
        obtain ⟨bs, m⟩ := mapO_all (f := ltOf) (l := ps) fun a ha => by
          obtain ⟨j, hj⟩ := List.getElem?_of_mem ha
          exact ok j a (by rw [lp]; exact (List.getElem?_eq_some_iff.mp hj).1) hj
        walk_at "rd"
        refine r_mk (by simp) fun t ht => ?_
        have s3 := same_upd (o := .tup [.str "order", .ref D]) ht
        exact k (.ord bs) (by rw [rd, m]; rfl) _ _ (s12.trans s3) ⟨t, D, acc, rfl, upd_same, s3 _ _ eD, tup_keep (But.of (S := fun _ => False) s3) (opt_pair pr m)⟩
  · have rd : rdOf z = match Txt.split z " " with
      | w :: ws => if w ≠ "order" ∧ parts.lookup w = some ((ws.length : Int) + 1) then (mapO numOf ws).map (Td.nums w) else none
      | [] => none := if_neg ho
    walk_at "rd"
    refine ⟨rfl, ?_⟩
    walk_at "rd"
    refine ⟨_, _, rfl, rfl, by decide +kernel, sz5 (by omega), fun p hp => ?_⟩
    have sl := fun p hp => split_len (z := z) (y := " ") (by decide +kernel) p hp
    have sm := split_many (z := z) (y := " ") (by decide +kernel)
    obtain ⟨w', ws, ew⟩ := split_ne (z := z) (y := " ")
    rw [ew] at rd sl sm ⊢
    have s1 := same_upd (o := .lst ((w' :: ws).map V.str)) hp
    have ep : upd H p (.lst ((w' :: ws).map V.str)) p = some (.lst ((w' :: ws).map V.str)) := upd_same
    revert s1 ep
    generalize upd H p (.lst ((w' :: ws).map V.str)) = H1
    intro s1 ep
    have no : ¬ (w' ≠ "order" ∧ parts.lookup w' = some ((ws.length : Int) + 1)) → ∀ H', Same H1 H' → Q .non H' := fun c H' s => kN (by rw [rd]; exact if_neg c) _ (s1.trans s)
    have lw : ((((w' :: ws).map V.str).length : Nat) : Int) = (ws.length : Int) + 1 := by simp
    walk_at "rd"
    refine r_ixL (SqL.of ep) (atI_get (j := 0) rfl rfl) ?_
    walk_at "rd"
    refine r_mk (by simp) fun l2 hl2 => ?_
    have s2 := same_upd (o := .lst [.str "pay", .str "refund"]) hl2
    walk_at "rd"
    refine ⟨l2, _, rfl, .inl (SqL.of upd_same), rfl, rfl, ?_⟩
    revert s2
    generalize upd H1 l2 _ = H2
    intro s2
    walk_at "rd"
    refine .inr ⟨_, rfl, ?_⟩
    walk_at "rd"
    refine r_ixL (SqL.of (s2 _ _ ep)) (atI_get (j := 0) rfl rfl) ?_
    walk_at "rd"
    refine r_mk (by simp) fun l3 hl3 => ?_
    have s3 := same_upd (o := .lst [.str "deliver", .str "back", .str "swap", .str "credit", .str "move", .str "pay", .str "refund"]) hl3
    walk_at "rd"
    refine ⟨l3, _, rfl, .inl (SqL.of upd_same), rfl, rfl, ?_⟩
    revert s3
    generalize upd H2 l3 _ = H3
    intro s3
    have s23 := s2.trans s3
    have ep3 := s23 _ _ ep
    have cls : (inV (.str w') [.str "deliver", .str "back", .str "swap", .str "credit", .str "move", .str "pay", .str "refund"] = false ∧ ∀ n : Int, ¬ (w' ≠ "order" ∧ parts.lookup w' = some n)) ∨
      (inV (.str w') [.str "deliver", .str "back", .str "swap", .str "credit", .str "move", .str "pay", .str "refund"] = true ∧ w' ≠ "order" ∧ ∃ bw : Bool, inV (.str w') [.str "pay", .str "refund"] = bw ∧ parts.lookup w' = some (4 - (if bw = true then 1 else 0))) := by
      by_cases c : w' = "order"
      · subst c
        exact .inl ⟨by decide +kernel, fun n q => q.1 rfl⟩
      rcases words7 c with ⟨e, h⟩ | ⟨i7, _, ⟨e, b⟩ | ⟨e, b⟩⟩
      · exact .inl ⟨inV_out h, fun n q => by rw [e] at q; cases q.2⟩
      · exact .inr ⟨i7, c, false, b, e⟩
      · exact .inr ⟨i7, c, true, b, e⟩
    rcases cls with ⟨e, bad⟩ | ⟨i7, nord, bw, eb, e⟩
    · rw [e]
      walk_at "rd"
      exact no (bad _) _ s23
    rw [i7]
    walk_at "rd"
    refine r_itnT ?_
    walk_at "rd"
    refine ⟨_, _, rfl, .inl (SqL.of ep3), ?_⟩
    rw [lw]
    walk_at "rd"
    have size : (4 - (if (if false = true then !inV (V.str w') [V.str "pay", V.str "refund"] else inV (V.str w') [V.str "pay", V.str "refund"]) = true then 1 else 0) : Int) = 4 - (if bw = true then 1 else 0) := by
      rw [if_neg (show ¬ false = true by decide), eb]
    rw [size]
    refine r_itn (fun c => ?_) (fun c => ?_)
    · walk_at "rd"
      exact no (fun q => by rw [e] at q; exact c (Option.some.inj q.2).symm) _ s23
    have yes : w' ≠ "order" ∧ parts.lookup w' = some ((ws.length : Int) + 1) := ⟨nord, by rw [e, c]⟩
    have rd2 : rdOf z = (mapO numOf ws).map (Td.nums w') := by rw [rd]; exact if_pos yes
    have ln := part_len yes.2 nord
    walk_at "rd"
    refine r_sll (SqL.of ep3) fun p2 hp2 => ?_
    have cut : cutV ((w' :: ws).map V.str) (some 1) none = ws.map V.str := cut_from (k := 1)
    rw [cut]
    have s4 := same_upd (o := .lst (ws.map V.str)) hp2
    refine lcp_list (ys := ws.map fun q => V.int (numI q)) (SqL.of upd_same) (by simp) (by simp; omega) ?_ ?_
    · intro i x y H' R ex ey s q
      rw [List.getElem?_map] at ex ey
      cases ea : ws[i]? with
      | none => rw [ea] at ex; cases ex
      | some a =>
        rw [ea] at ex ey
        cases ex
        cases ey
        walk_at "rd"
        exact ⟨a, rfl, by have := sl a (List.mem_cons_of_mem _ (List.mem_of_getElem? ea)); omega, q _ (Same.refl _)⟩
    · intro D H5 hD s5 eD
      have s25 := (s23.trans s4).trans s5
      have ep5 := s5 _ _ (s4 _ _ ep3)
      walk_at "rd"
      refine ⟨D, ws.map numI, rfl, SqL.of (by rw [eD, List.map_map]; rfl), by rw [List.length_map]; omega, fun mn hm hmin => ?_⟩
      walk_at "rd"
      refine r_itd (fun c1 => ?_) (fun c1 => ?_)
      · walk_at "rd"
        refine kN ?_ _ (s1.trans s25)
        obtain ⟨a, ha, ea⟩ := List.mem_map.mp hm
        obtain ⟨j, hj⟩ := List.getElem?_of_mem ha
        have bad : numOf a = none := by
          rcases numI_cases a with ⟨n, _, f⟩ | ⟨f, _⟩
          · exfalso; omega
          · exact f
        rw [rd2, mapO_bad hj bad]; rfl
      · obtain ⟨ns, m⟩ := mapO_all (f := numOf) (l := ws) fun a ha q => by
          have h1 := hmin (numI a) (List.mem_map_of_mem ha)
          rcases numI_cases a with ⟨n, f, _⟩ | ⟨_, f⟩
          · rw [q] at f; cases f
          · omega
        rw [nums_all m] at eD
        have ll := mapO_len m
        walk_at "rd"
        refine r_ixL (SqL.of ep5) (atI_get (j := 0) rfl rfl) ?_
        walk_at "rd"
        refine r_mk (by simp) fun l6 hl6 => ?_
        have s6 := same_upd (o := .lst [.str w']) hl6
        walk_at "rd"
        refine ⟨l6, D, _, _, rfl, rfl, upd_same, s6 _ _ eD, by show 1 + (numsOf ns).length ≤ sizeLine; unfold numsOf; exact sz5 (by rw [List.length_map]; omega), fun l7 hl7 => ?_⟩
        have s7 := same_upd (o := .lst ([.str w'] ++ numsOf ns)) hl7
        walk_at "rd"
        refine ⟨l7, _, rfl, .inl ⟨SqL.of upd_same, fun t ht => ?_⟩⟩
        have s8 := same_upd (o := .tup ([.str w'] ++ numsOf ns)) ht
        exact k (.nums w' ns) (by rw [rd2, m]; rfl) _ _ ((((s1.trans s25).trans s6).trans s7).trans s8) ⟨t, rfl, upd_same⟩

/-! ### texts of any deed: their length, their signs -/
def okS (z : Str) : Prop := ∀ c ∈ z.cps.toList, c < 0x110000
theorem okS.str {z : Str} (h : okS z) : PyData.strOk z = true := by
  unfold PyData.strOk
  rw [← Array.all_toList, List.all_eq_true]
  exact fun c hc => decide_eq_true (h c hc)
theorem okS.of {z : Str} (h : PyData.strOk z = true) : okS z := by
  unfold PyData.strOk at h
  rw [← Array.all_toList, List.all_eq_true] at h
  exact fun c hc => of_decide_eq_true (h c hc)
theorem okS.cat {x y : Str} (h : okS x) (g : okS y) : okS (x ++ y) := fun c hc => by
  have e : (x ++ y).cps.toList = x.cps.toList ++ y.cps.toList := TL.tl_append x y
  rw [e] at hc
  exact (List.mem_append.mp hc).elim (h c) (g c)
theorem okS.cut {z : Str} {a b : Option Int} (h : okS z) : okS (cutS z a b) := fun c hc => by
  have hc' : c ∈ ((z.cps.toList.drop (HT.sIx z.length 0 a)).take (HT.sIx z.length z.length b - HT.sIx z.length 0 a)) := hc
  exact h c (List.mem_of_mem_drop (List.mem_of_mem_take hc'))
theorem okS.joinL {S : List Nat} (hs : ∀ c ∈ S, c < 0x110000) : ∀ ps : List (List Nat), (∀ p, p ∈ ps → ∀ c ∈ p, c < 0x110000) → ∀ c ∈ TL.joinL S ps, c < 0x110000
  | [], _, c, hc => by cases hc
  | [p], h, c, hc => h p List.mem_cons_self c hc
  | p :: q :: r, h, c, hc => by
    have hc' : c ∈ p ++ (S ++ TL.joinL S (q :: r)) := hc
    rcases List.mem_append.mp hc' with z | z
    · exact h p List.mem_cons_self c z
    rcases List.mem_append.mp z with z | z
    · exact hs c z
    · exact okS.joinL hs (q :: r) (fun x hx => h x (List.mem_cons_of_mem _ hx)) c z
theorem okS.join {y : Str} {ps : List Str} (hy : okS y) (h : ∀ p, p ∈ ps → okS p) : okS (Txt.join y ps) := fun c hc => by
  rw [TL.join_eq] at hc
  have e : (Str.join y ps).cps.toList = TL.joinL (TL.tl y) (ps.map TL.tl) := TL.tl_join y ps
  rw [e] at hc
  refine okS.joinL (S := TL.tl y) hy (ps.map TL.tl) (fun p hp d hd => ?_) c hc
  obtain ⟨x, hx, rfl⟩ := List.mem_map.mp hp
  exact h x hx d hd
abbrev intS (n : Int) : Str := Str.ofString (toString n)
theorem intS_ok {n : Int} : okS (intS n) := fun c hc => by
  have e : (intS n).cps.toList = (toString n).toList.map Char.toNat := by
    show (Str.ofString (toString n)).cps.toList = _
    rw [Str.ofString_eq_toList]
  rw [e] at hc
  obtain ⟨d, _, rfl⟩ := List.mem_map.mp hc
  have q : d.val.isValidChar := d.valid
  have q2 : d.toNat < 55296 ∨ (57343 < d.toNat ∧ d.toNat < 1114112) := q
  omega
def lg (n : Int) : Prop := n.natAbs.log2 < 120
theorem intS_len {n : Int} (h : lg n) : (intS n).length ≤ 121 := by
  rw [show (intS n).length = (Str.ofString (toString n)).length from rfl, PySem.ofString_length]
  exact int_text_length_le (by decide) h
theorem lg_of {n : Int} (h0 : -(10 ^ 34) ≤ n) (h1 : n ≤ 10 ^ 34) : lg n := by
  unfold lg
  have h : n.natAbs < 2 ^ 120 := by
    have : n.natAbs ≤ 10 ^ 34 := by omega
    exact Nat.lt_of_le_of_lt this (by decide +kernel)
  by_cases c : n.natAbs = 0
  · rw [c]; decide
  · exact (Nat.log2_lt c).mpr h
inductive Tz where
  | ord (ls : List (Str × List Int))
  | nums (w : Str) (ns : List Int)
def intsOf (ns : List Int) : List V := ns.map V.int
def Tz.ok : Tz → Prop
  | .ord ls => ls.length ≤ 20 ∧ ∀ p, p ∈ ls → p.1.length ≤ 12 ∧ okS p.1 ∧ p.2.length ≤ 3 ∧ ∀ n, n ∈ p.2 → lg n
  | .nums w ns => ¬ w = "order" ∧ w.length ≤ 10 ∧ okS w ∧ ns.length ≤ 3 ∧ ∀ n, n ∈ ns → lg n
def TzA (H : Hp) (v : V) : Tz → Prop
  | .ord ls => ∃ t l xs, v = .ref t ∧ H t = some (.tup [.str "order", .ref l]) ∧ H l = some (.lst xs) ∧ Paired (TupAt H) xs (ls.map fun p => .str p.1 :: intsOf p.2)
  | .nums w ns => ∃ t, v = .ref t ∧ H t = some (.tup (.str w :: intsOf ns))
theorem ints_len {ns : List Int} (h : ∀ n, n ∈ ns → lg n) : ∀ p, p ∈ ns.map intS → p.length ≤ 121 := fun p hp => by
  obtain ⟨n, hn, rfl⟩ := List.mem_map.mp hp
  exact intS_len (h n hn)
theorem ints_ok {ns : List Int} : ∀ p, p ∈ ns.map intS → okS p := fun p hp => by
  obtain ⟨n, hn, rfl⟩ := List.mem_map.mp hp
  exact intS_ok
theorem blank_ok : okS " " := okS.of (by decide +kernel)
theorem comma_ok : okS ", " := okS.of (by decide +kernel)
theorem lg_small {n : Int} (h : lg n) : n.natAbs.log2 < 1920 := Nat.lt_of_lt_of_le h (by decide)
def spLTextOf (_ : PySem.W.Frag) : Sp := fun vs H Q _ => ∃ (v : V) (d : Tz), vs = [v] ∧ TzA H v d ∧ d.ok ∧ ∀ (z : Str) H', Same H H' → z.length ≤ 20000 → okS z → Q (.str z) H'
theorem len_LTextOf {K : PySem.W.Frag} {vs : List V} {H : Hp} {Q : VK} {E : XK} (h : spLTextOf K vs H Q E) : vs.length = 1 := by
  obtain ⟨_, _, rfl, _⟩ := h; rfl
theorem ok_LTextOf {P : Program} {w : World} {K : PySem.W.Frag} {mg : Str → Option Value} {base : Heap} (T : Tx w K mg) : FnOk P w K mg base CX0 1 (He.fAd K dLTextOf.at_) (fdO K dLTextOf.at_) P_LTextOf (spLTextOf K) := by
  refine T.f_LTextOf.ok sc_LTextOf (fun vs H Q E h => len_LTextOf h) (fun cdv A outer s H vs Q E hr h => ⟨_, PSs.nox ((pss_cons (ps_if (pt_cmpR op_eq (pe_ix ix_tup (pv 0) pe_int (fun _ _ => rfl)) pe_str (nomark _)) (pss_cons (ps_set (i := 1) sc_LTextOf.nd rfl (Or.inl rfl) (pe_lst pa_nil))
      (pss_cons (ps_for PassesOwn.never rfl (pi_list (pe_ix ix_tup (pv 0) pe_int (fun _ _ => rfl))) (pg_name (i := 2) sc_LTextOf.nd rfl (Or.inl rfl)) (pss_cons (ps_setLc (i := 4) (own := [("_law_number", 3)]) (g := gName 3) (tt := tYes) rfl sc_LTextOf.nd rfl rfl (sw_true rfl rfl rfl (by decide +kernel)) (pi_tup (pe_slice sl_tup (pv 2) (po_some pe_int) po_none)) (blkOk_by (N := N_LTextOf) (sc := defScope sLTextOf) (by decide +kernel)) (fun _ _ _ _ _ => pg_name (i := 3) sc_LTextOf.nd rfl (Or.inl rfl)) (fun _ _ _ _ _ => pts_nil) (fun _ _ _ _ _ => (pe_callTy call_str_int (by rfl) T.b_str (by decide +kernel) (pa_cons (pv 3) pa_nil))))
      (pss_one (ps_expr (pe_bm PySem.F.plainAttrs_list PySem.F.slot_list_append PySem.F.type_list_append mt_append (pv 1) (pa_cons (pe_op op_add_str (pe_op op_add_str (pe_ix ix_tup (pv 2) pe_int (fun _ _ => rfl)) pe_str) (pe_bm PySem.F.plainAttrs_str PySem.F.slot_str_join PySem.F.type_str_join mt_join pe_str (pa_cons (pv 4) pa_nil))) pa_nil))))))
      (pss_one (ps_ret (pe_op op_add_str pe_str (pe_bm PySem.F.plainAttrs_str PySem.F.slot_str_join PySem.F.type_str_join mt_join pe_str (pa_cons (pv 1) pa_nil))))))) pss_nil)
      (pss_one (ps_ret (pe_op op_add_str (pe_op op_add_str (pe_ix ix_tup (pv 0) pe_int (fun _ _ => rfl)) pe_str) (pe_bm PySem.F.plainAttrs_str PySem.F.slot_str_join PySem.F.type_str_join mt_join pe_str (pa_cons (pe_lc (own := [("_law_number", 3)]) (g := gName 3) (tt := tYes) rfl sc_LTextOf.nd (pi_tup (pe_slice sl_tup (pv 0) (po_some pe_int) po_none)) (blkOk_by (N := N_LTextOf) (sc := defScope sLTextOf) (by decide +kernel)) (fun _ _ _ _ _ => pg_name (i := 3) sc_LTextOf.nd rfl (Or.inl rfl)) (fun _ _ _ _ _ => pts_nil) (fun _ _ _ _ _ => (pe_callTy call_str_int (by rfl) T.b_str (by decide +kernel) (pa_cons (pv 3) pa_nil)))) pa_nil))))))), ?_⟩)
  obtain ⟨v, d, rfl, hd, ok, k⟩ := h
  cases d with
  | ord ls =>
    obtain ⟨t, l, xs, rfl, ht, hl, pt⟩ := hd
    have e1 : (", " : Str).length = 2 := by decide +kernel
    have e2 : (" " : Str).length = 1 := by decide +kernel
    have ll := ok.1
    have pl : xs.length = ls.length := by rw [pt.length, List.length_map]
    walk_at "rd"
    refine r_ixT (SqT.of ht) (atI_get (j := 0) rfl rfl) ?_
    walk_at "rd"
    refine r_ity rfl ?_
    walk_at "rd"
    refine r_mk (by simp) fun q hq => ?_
    have s1 := same_upd (o := .lst []) hq
    have eq : upd H q (.lst []) q = some (.lst []) := upd_same
    revert s1 eq
    generalize upd H q (.lst []) = H1
    intro s1 eq
    walk_at "rd"
    refine r_ixT (SqT.of (s1 _ _ ht)) (atI_get (j := 1) rfl rfl) ?_
    walk_at "rd"
    have lq : l ≠ q := ne_of_none hl hq
    refine ⟨l, rfl, ⟨xs, SqL.of (s1 _ _ hl)⟩, for_list (K := K) (a := l) (xs := xs) (fun i σ H' => ∃ v2 v4, ∃ ps : List Str, σ = [some (.ref t), some (.ref q), v2, none, v4] ∧ H' q = some (.lst (ps.map V.str)) ∧ (ps.length = i ∧ ∀ p, p ∈ ps → p.length ≤ 400 ∧ okS p) ∧ But (· = q) H1 H')
      ⟨none, none, [], rfl, eq, ⟨rfl, fun p hp => by cases hp⟩, But.refl⟩ (fun i σ H' _ ⟨_, _, _, _, _, _, b⟩ => SqL.of (b.keep _ _ (s1 _ _ hl) lq)) ?_ ?_⟩
    · rintro i x σ H2 hi ⟨v2, v4, ps, rfl, eq2, pp, b2⟩
      obtain ⟨row, er, u, rfl, hu⟩ := pr_ex pt hi
      rw [List.getElem?_map] at er
      cases em : ls[i]? with
      | none => rw [em] at er; cases er
      | some m =>
        rw [em] at er
        cases er
        have hu2 := b2.tup _ _ (s1 _ _ hu)
        obtain ⟨zl, zo, nl, nlg⟩ := ok.2 m (List.mem_of_getElem? em)
        have il : i < 20 := by
          have := (List.getElem?_eq_some_iff.mp em).1
          omega
        walk_at "rd"
        refine ⟨u, _, rfl, SqT.of hu2, ?_, fun p hp => ?_⟩
        · rintro ⟨z, _⟩
          revert z
          have : HT.sIx ((V.str m.1 :: intsOf m.2).length) 0 (some (1 : Int)) = min 1 ((V.str m.1 :: intsOf m.2).length) := HT.sIx_nat _ _ 1
          rw [this, List.length_cons]
          omega
        have s3 := same_upd (o := .tup (intsOf m.2)) hp
        have cut : cutV (V.str m.1 :: intsOf m.2) (some 1) none = intsOf m.2 := cut_from (k := 1)
        rw [cut]
        refine lcp_tup (ys := (m.2.map intS).map V.str) upd_same (by unfold intsOf; simp) (by unfold intsOf; rw [List.length_map]; omega) ?_ ?_
        · intro i x y H' R ex ey s q
          unfold intsOf at ex
          rw [List.getElem?_map] at ex ey
          rw [List.getElem?_map] at ey
          cases en : m.2[i]? with
          | none => rw [en] at ex; cases ex
          | some n =>
            rw [en] at ex ey
            cases ex
            cases ey
            walk_at "rd"
            exact ⟨_, rfl, lg_small (nlg n (List.mem_of_getElem? en)), q _ (Same.refl _)⟩
        · intro D H3 hD s4 eD
          have s34 := s3.trans s4
          walk_at "rd"
          refine r_tyL (SqL.of (s34 _ _ eq2)) ?_
          walk_at "rd"
          refine r_ixT (SqT.of (s34 _ _ hu2)) (atI_get (j := 0) rfl rfl) ?_
          walk_at "rd"
          refine ⟨_, _, rfl, rfl, sz5 (by rw [e2]; omega), ?_⟩
          walk_at "rd"
          refine ⟨rfl, ?_⟩
          walk_at "rd"
          have jl := join_len (y := " ") (ints_len nlg)
          rw [e2, List.length_map] at jl
          have jl2 : (Txt.join " " (m.2.map intS)).length ≤ 366 := Nat.le_trans jl (Nat.mul_le_mul_right 122 nl)
          refine ⟨" ", D, m.2.map intS, rfl, rfl, .inl (SqL.of eD), ?_, ?_⟩
          · have := sum_len (ints_len nlg)
            have q3 := Nat.mul_le_mul_right 121 nl
            rw [e2]
            rw [List.length_map] at this ⊢
            omega
          walk_at "rd"
          refine ⟨_, _, rfl, rfl, sz5 (by rw [cat_len, e2]; omega), ?_⟩
          walk_at "rd"
          refine r_app (s34 _ _ eq2) (by rw [List.length_map]; exact sz5l (by omega)) ?_
          walk_at "rd"
          refine ⟨_, _, ps ++ [m.1 ++ (" " : Str) ++ Txt.join " " (m.2.map intS)], rfl, ?_, ⟨by rw [List.length_append, pp.1]; rfl, fun p hp => ?_⟩, (b2.trans (But.of s34)).trans (But.lst (s34 _ _ eq2) rfl)⟩
          · rw [upd_same, List.map_append]
            rfl
          · rcases List.mem_append.mp hp with z | z
            · exact pp.2 p z
            · rw [List.mem_singleton.mp z]
              exact ⟨by rw [cat_len, cat_len, e2]; omega, (zo.cat blank_ok).cat (okS.join blank_ok ints_ok)⟩
    · rintro σ H2 ⟨v2, v4, ps, rfl, eq2, pp, b2⟩
      have sH : Same H H2 := fun x o e => b2.keep _ _ (s1 _ _ e) (ne_of_none e hq)
      walk_at "rd"
      refine ⟨rfl, ?_⟩
      walk_at "rd"
      have jl := join_len (y := ", ") fun p hp => (pp.2 p hp).1
      have sl := sum_len fun p hp => (pp.2 p hp).1
      have l20 : ps.length ≤ 20 := by rw [pp.1, pl]; exact ll
      have j1 := Nat.mul_le_mul_right 402 l20
      have j2 := Nat.mul_le_mul_right 400 l20
      rw [e1] at jl
      refine ⟨", ", q, ps, rfl, rfl, .inl (SqL.of eq2), by rw [e1]; omega, ?_⟩
      have e6 : ("order " : Str).length = 6 := by decide +kernel
      walk_at "rd"
      refine ⟨_, _, rfl, rfl, sz5 (by rw [e6]; omega), k _ _ sH (by rw [cat_len, e6]; omega) ((okS.of (by decide +kernel)).cat (okS.join comma_ok fun p hp => (pp.2 p hp).2))⟩
  | nums w' ns =>
    obtain ⟨t, rfl, ht⟩ := hd
    obtain ⟨wn, wl, wo, nl, nlg⟩ := ok
    have e1 : (" " : Str).length = 1 := by decide +kernel
    walk_at "rd"
    refine r_ixT (SqT.of ht) (atI_get (j := 0) rfl rfl) ?_
    walk_at "rd"
    refine r_itz wn ?_
    walk_at "rd"
    refine r_ixT (SqT.of ht) (atI_get (j := 0) rfl rfl) ?_
    walk_at "rd"
    refine ⟨_, _, rfl, rfl, sz5 (by rw [e1]; omega), ?_⟩
    walk_at "rd"
    refine ⟨rfl, ?_⟩
    walk_at "rd"
    refine ⟨t, _, rfl, SqT.of ht, ?_, fun p hp => ?_⟩
    · rintro ⟨z, _⟩
      revert z
      have : HT.sIx ((V.str w' :: intsOf ns).length) 0 (some (1 : Int)) = min 1 ((V.str w' :: intsOf ns).length) := HT.sIx_nat _ _ 1
      rw [this, List.length_cons]
      omega
    have cut : cutV (V.str w' :: intsOf ns) (some 1) none = intsOf ns := cut_from (k := 1)
    rw [cut]
    have s1 := same_upd (o := .tup (intsOf ns)) hp
    refine lcp_tup (ys := (ns.map intS).map V.str) upd_same (by unfold intsOf; simp) (by unfold intsOf; rw [List.length_map]; omega) ?_ ?_
    · intro i x y H' R ex ey s q
      unfold intsOf at ex
      rw [List.getElem?_map] at ex ey
      rw [List.getElem?_map] at ey
      cases em : ns[i]? with
      | none => rw [em] at ex; cases ex
      | some n =>
        rw [em] at ex ey
        cases ex
        cases ey
        walk_at "rd"
        exact ⟨_, rfl, lg_small (nlg n (List.mem_of_getElem? em)), q _ (Same.refl _)⟩
    · intro D H' hD s e
      walk_at "rd"
      have jl := join_len (y := " ") (ints_len nlg)
      rw [e1, List.length_map] at jl
      have jl2 : (Txt.join " " (ns.map intS)).length ≤ 366 := Nat.le_trans jl (Nat.mul_le_mul_right 122 nl)
      refine ⟨" ", D, ns.map intS, rfl, rfl, .inl (SqL.of e), ?_, ?_⟩
      · have := sum_len (ints_len nlg)
        have q3 := Nat.mul_le_mul_right 121 nl
        rw [e1]
        rw [List.length_map] at this ⊢
        omega
      walk_at "rd"
      refine ⟨_, _, rfl, rfl, sz5 (by rw [cat_len, e1]; omega), k _ _ (s1.trans s) (by rw [cat_len, cat_len, e1]; omega) ((wo.cat blank_ok).cat (okS.join blank_ok ints_ok))⟩
/-! ### a text changed -/
theorem sign_at {z : Str} (n : Nat) (h : z.cps.toList.length = n) (hn : 0 < n) (i : Int) : ∃ c : Nat, c ∈ z.cps.toList ∧ atI z.cps.toList (i % (n : Int)) = some c := by
  have h0 : 0 ≤ i % (n : Int) := Int.emod_nonneg _ (by omega)
  have h1 : i % (n : Int) < (n : Int) := Int.emod_lt_of_pos _ (by omega)
  have hj : (i % (n : Int)).toNat < z.cps.toList.length := by omega
  refine ⟨z.cps.toList[(i % (n : Int)).toNat], List.getElem_mem hj, ?_⟩
  unfold atI ixN
  rw [if_pos h0, if_pos (by omega)]
  exact List.getElem?_eq_getElem hj
theorem r_sign {z : Str} (n : Nat) (h : z.cps.toList.length = n) (hn : 0 < n) {i : Int} {H : Hp} {Q : VK} (hz : z.length ≤ sizeLine := by exact sz5 (by decide +kernel)) (k : ∀ c : Nat, c ∈ z.cps.toList → Q (.str ⟨#[c]⟩) H) : rIxS (.str z) (.int (i % (n : Int))) H Q := by
  obtain ⟨c, m, e⟩ := sign_at n h hn i
  exact ⟨_, _, c, rfl, rfl, hz, e, k c m⟩
theorem okS.one {c : Nat} (h : c < 0x110000) : okS ⟨#[c]⟩ := fun d hd => by
  have hd' : d ∈ [c] := hd
  rw [List.mem_singleton.mp hd']
  exact h
def spLChangedBy (K : PySem.W.Frag) : Sp := fun vs H Q _ => ∃ (z : Str) (c : Int), vs = [.str z, .int c] ∧ z.length ≤ 40000 ∧ okS z ∧ ∀ y : Str, y.length ≤ 2 * z.length + 2 → okS y → Q (.str y) H
theorem len_LChangedBy {K : PySem.W.Frag} {vs : List V} {H : Hp} {Q : VK} {E : XK} (h : spLChangedBy K vs H Q E) : vs.length = 2 := by
  obtain ⟨_, _, rfl, _⟩ := h; rfl
theorem ok_LChangedBy {P : Program} {w : World} {K : PySem.W.Frag} {mg : Str → Option Value} {base : Heap} (T : Tx w K mg) : FnOk P w K mg base CX0 1 (He.fAd K dLChangedBy.at_) (fdO K dLChangedBy.at_) P_LChangedBy (spLChangedBy K) := by
  refine T.f_LChangedBy.ok sc_LChangedBy (fun vs H Q E h => len_LChangedBy h) (fun cdv A outer s H vs Q E hr h => ⟨_, PSs.nox ((pss_cons (ps_set (i := 2) sc_LChangedBy.nd rfl (Or.inl rfl) (pe_ix ix_str pe_str (pe_op op_mod (pe_op op_mod (pe_op op_mul (pv 1) pe_int) pe_int) pe_int) (fun _ _ => rfl)))
      (pss_cons (ps_set (i := 3) sc_LChangedBy.nd rfl (Or.inl rfl) (pe_op op_mod (pe_op op_mod (pe_op op_mul (pv 1) pe_int) pe_int) (pe_op op_add (pe_callB call_len_str (by rfl) T.b_len (by decide +kernel) (pa_cons (pv 0) pa_nil)) pe_int)))
      (pss_cons (ps_if (pt_cmpR op_eq (pe_op op_mod (pv 1) pe_int) pe_int (nomark _)) (pss_one (ps_ret (pe_op op_add_str (pe_op op_add_str (pe_slice sl_str (pv 0) po_none (po_some (pv 3))) (pv 2)) (pe_slice sl_str (pv 0) (po_some (pv 3)) po_none)))) pss_nil)
      (pss_cons (ps_if (pt_cmpR op_eq (pe_op op_mod (pv 1) pe_int) pe_int (nomark _)) (pss_one (ps_ret (pe_op op_add_str (pe_op op_add_str (pe_slice sl_str (pv 0) po_none (po_some (pv 3))) (pv 2)) (pe_slice sl_str (pv 0) (po_some (pe_op op_add (pv 3) pe_int)) po_none)))) pss_nil)
      (pss_one (ps_ret (pe_op op_add_str (pe_slice sl_str (pv 0) po_none (po_some (pv 3))) (pe_slice sl_str (pv 0) (po_some (pe_op op_add (pv 3) pe_int)) po_none))))))))), ?_⟩)
  obtain ⟨z, c, rfl, hz, oz, k⟩ := h
  walk_at "rd"
  walk_at "ml"
  walk_at "rd"
  walk_at "md"
  walk_at "rd"
  walk_at "md"
  refine r_sign 9 (by decide +kernel) (by decide) (hz := by exact sz5 (by decide +kernel)) (k := fun c1 m1 => ?_)
  have os : okS ⟨#[c1]⟩ := okS.one (okS.of (z := " ,0a-9ox1") (by decide +kernel) c1 m1)
  have l1 : (⟨#[c1]⟩ : Str).length = 1 := rfl
  walk_at "rd"
  walk_at "ml"
  walk_at "rd"
  walk_at "md"
  walk_at "rd"
  refine ⟨_, rfl, sz5 (by omega), ?_⟩
  walk_at "rd"
  refine r_I (by show (0 : Int) < (z.length : Int) + 1; omega) ?_
  generalize c * 48271 % 10037 % ((z.length : Int) + 1) = at_
  walk_at "rd"
  walk_at "md"
  have a1 := cutS_length z none (some at_)
  have a2 := cutS_length z (some at_) none
  have a3 := cutS_length z (some (at_ + 1)) none
  walk_at "rd"
  refine r_itd (fun _ => ?_) (fun _ => ?_)
  · walk_at "rd"
    refine ⟨_, rfl, sz5 (by omega), ?_⟩
    walk_at "rd"
    refine ⟨_, _, rfl, rfl, sz5 (by omega), ?_⟩
    walk_at "rd"
    refine ⟨_, rfl, sz5 (by omega), ?_⟩
    walk_at "rd"
    refine ⟨_, _, rfl, rfl, sz5 (by rw [cat_len]; omega), ?_⟩
    walk_at "rd"
    exact k _ (by rw [cat_len, cat_len]; omega) ((oz.cut.cat os).cat oz.cut)
  walk_at "rd"
  walk_at "md"
  walk_at "rd"
  refine r_itd (fun _ => ?_) (fun _ => ?_)
  · walk_at "rd"
    refine ⟨_, rfl, sz5 (by omega), ?_⟩
    walk_at "rd"
    refine ⟨_, _, rfl, rfl, sz5 (by omega), ?_⟩
    walk_at "rd"
    refine ⟨_, rfl, sz5 (by omega), ?_⟩
    walk_at "rd"
    refine ⟨_, _, rfl, rfl, sz5 (by rw [cat_len]; omega), ?_⟩
    walk_at "rd"
    exact k _ (by rw [cat_len, cat_len]; omega) ((oz.cut.cat os).cat oz.cut)
  walk_at "rd"
  refine ⟨_, rfl, sz5 (by omega), ?_⟩
  walk_at "rd"
  refine ⟨_, rfl, sz5 (by omega), ?_⟩
  walk_at "rd"
  refine ⟨_, _, rfl, rfl, sz5 (by omega), ?_⟩
  walk_at "rd"
  exact k _ (by rw [cat_len]; omega) (oz.cut.cat oz.cut)

/-! ### a deed that was read, as a deed of the book -/
def Tl.lt (t : Tl) : Lt := ⟨t.z, t.a, t.b, t.c⟩
def Td.wf : Td → Prop
  | .ord ls => 1 ≤ ls.length ∧ ls.length ≤ 90001 ∧ ∀ t, t ∈ ls → t.ok
  | .nums w ns => (ns.length = 2 ∧ (w = "pay" ∨ w = "refund")) ∨ (ns.length = 3 ∧ (w = "move" ∨ w = "deliver" ∨ w = "back" ∨ w = "swap" ∨ w = "credit"))
def Td.dd : Td → Dd
  | .ord ls => .ord (ls.map Tl.lt)
  | .nums w ns => match ns with
    | [a, b] => .mo w a b
    | [a, b, c] => if w = "move" then .mv a b c else .ln w a b c
    | _ => .mv 0 0 0
def Td.low : Td → Prop
  | .ord _ => True
  | .nums _ ns => ∀ n, n ∈ ns → n < 10 ^ 30
theorem rd_wf {z : Str} {d : Td} (h : rdOf z = some d) (hz : z.length ≤ 90000) : d.wf ∧ d.low := by
  unfold rdOf at h
  split at h
  · cases e : mapO ltOf (Txt.split (cutS z (some 6) none) ", ") with
    | none => rw [e] at h; cases h
    | some ls =>
      rw [e] at h
      cases h
      have l := mapO_len e
      refine ⟨⟨?_, ?_, fun t ht => ?_⟩, trivial⟩
      · obtain ⟨a, r, q⟩ := split_ne (z := cutS z (some 6) none) (y := ", ")
        rw [q, List.length_cons] at l
        omega
      · have := split_many (z := cutS z (some 6) none) (y := ", ") (by decide +kernel)
        have := cutS_length z (some 6) none
        omega
      · obtain ⟨a, _, ea⟩ := mapO_mem e ht
        exact ltOf_ok ea
  · split at h
    · split at h
      · rename_i w ws _ c
        cases e : mapO numOf ws with
        | none => rw [e] at h; cases h
        | some ns =>
          rw [e] at h
          cases h
          have l := mapO_len e
          refine ⟨?_, fun n hn => ?_⟩
          · have hm := lookup_mem c.2
            unfold parts at hm
            simp only [List.mem_cons, Prod.mk.injEq, List.not_mem_nil, or_false] at hm
            show (ns.length = 2 ∧ _) ∨ (ns.length = 3 ∧ _)
            rcases hm with h | h | h | h | h | h | h | h
            · exact absurd h.1 c.1
            all_goals first | exact .inl ⟨by omega, by simp [h.1]⟩ | exact .inr ⟨by omega, by simp [h.1]⟩
          · obtain ⟨a, _, ea⟩ := mapO_mem e hn
            exact numOf_lt ea
      · cases h
    · cases h
theorem dd_good {d : Td} (h : d.wf) : d.dd.good := by
  cases d with
  | ord ls => trivial
  | nums w ns =>
    rcases h with ⟨l, h⟩ | ⟨l, h⟩
    · match ns, l with
      | [a, b], _ => exact h
    · match ns, l with
      | [a, b, c], _ =>
        show Dd.good (if w = "move" then .mv a b c else .ln w a b c)
        split
        · trivial
        · rename_i n
          exact h.resolve_left n
theorem tl_lts {H : Hp} : ∀ {xs : List V} {ls : List Tl}, Paired (TupAt H) xs (ls.map Tl.row) → LtsAt H xs (ls.map Tl.lt)
  | _, [], h => by cases h; exact .nil
  | _, t :: r, h => by
    cases h with
    | cons a b =>
      obtain ⟨q, e, hq⟩ := a
      exact .cons ⟨q, e, hq⟩ (tl_lts b)
theorem td_dd {F : Addr → Prop} {H : Hp} {v : V} {d : Td} (h : TdA H v d) (wf : d.wf) (f : ∀ t l, v = .ref t → H t = some (.tup [.str "order", .ref l]) → F l) : DdAt F H v d.dd := by
  cases d with
  | ord ls =>
    obtain ⟨t, l, xs, e, ht, hl, p⟩ := h
    exact ⟨t, l, xs, e, ht, hl, f t l e ht, tl_lts p⟩
  | nums w ns =>
    obtain ⟨t, e, ht⟩ := h
    rcases wf with ⟨l, g⟩ | ⟨l, g⟩
    · match ns, l with
      | [a, b], _ => exact ⟨t, e, ht⟩
    · match ns, l with
      | [a, b, c], _ =>
        show DdAt F H v (if w = "move" then .mv a b c else .ln w a b c)
        split
        · rename_i q
          subst q
          exact ⟨t, e, ht⟩
        · exact ⟨t, e, ht⟩
theorem dd_few {d : Td} (wf : d.wf) : d.dd.few := by
  cases d with
  | ord ls =>
    refine ⟨by rw [List.length_map]; have := wf.2.1; omega, fun t ht => ?_⟩
    obtain ⟨s, hs, rfl⟩ := List.mem_map.mp ht
    have := item_len (wf.2.2 s hs).z
    show s.z.length ≤ 100000
    omega
  | nums w ns =>
    rcases wf with ⟨l, g⟩ | ⟨l, g⟩
    · match ns, l with
      | [a, b], _ => trivial
    · match ns, l with
      | [a, b, c], _ =>
        show Dd.few (if w = "move" then .mv a b c else .ln w a b c)
        split <;> trivial
/-! ### what the law refuses -/
def isErr : Res → Bool
  | .error _ => true
  | .ok _ => false
theorem none_ok {n : Nat} {ls : List Lt} (h : ordErr n ls = none) : (1 ≤ ls.length ∧ ls.length ≤ 20) ∧ ∀ t, t ∈ ls → isItem t.item = true ∧ numOk t := by
  unfold ordErr at h
  split at h
  · cases h
  rename_i hl
  refine ⟨Decidable.byContradiction hl, ?_⟩
  cases f : firstErr ls with
  | some e => rw [f] at h; cases h
  | none =>
    intro t ht
    unfold firstErr at f
    rw [List.findSome?_eq_none_iff] at f
    have q := f t ht
    unfold ltCheck at q
    split at q
    · rename_i c
      split at q
      · exact ⟨c, by assumption⟩
      · cases q
    · cases q
theorem ord_bad {os : List Od} {ls : List Tl} {t : Tl} (ht : t ∈ ls) (n : ¬ numOk t.lt) : isErr (step os (.ord (ls.map Tl.lt))) = true := by
  show isErr (stepOrd os _) = true
  unfold stepOrd
  cases e : ordErr os.length (ls.map Tl.lt) with
  | some x => rfl
  | none => exact absurd ((none_ok e).2 t.lt (List.mem_map_of_mem ht)).2 n
theorem ord_end {os : List Od} {ls : List Tl} (h : ∀ t, t ∈ ls → t.ok ∧ numOk t.lt) (l1 : 1 ≤ ls.length) (l40 : os.length ≤ 40) : isErr (step os (.ord (ls.map Tl.lt))) = (decide (ls.length > 20) || decide (os.length > 39)) := by
  show isErr (stepOrd os _) = _
  unfold stepOrd
  by_cases c : ls.length > 20
  · have e : ordErr os.length (ls.map Tl.lt) = some .noLines := by
      unfold ordErr
      rw [if_pos (by rw [List.length_map]; omega)]
    rw [e, decide_eq_true c]
    rfl
  · have g : Good (ls.map Tl.lt) := ⟨by rw [List.length_map]; omega, fun t ht => by
      obtain ⟨s, hs, rfl⟩ := List.mem_map.mp ht
      exact ⟨(h s hs).1.z, (h s hs).2⟩⟩
    rw [decide_eq_false c]
    by_cases c2 : os.length > 39
    · have e : ordErr os.length (ls.map Tl.lt) = some .fullBook := by
        have z := g.err (n := 0) (by decide)
        unfold ordErr at z ⊢
        rw [if_neg (by have := g.1; omega)] at z ⊢
        cases f : firstErr (ls.map Tl.lt) with
        | some x => rw [f] at z; cases z
        | none => dsimp only; rw [if_pos (by omega)]
      rw [e, decide_eq_true c2]
      rfl
    · rw [g.err (by omega), decide_eq_false c2]
      rfl
theorem ref_err {os : List Od} {d : Dd} (no : ∀ ls, d ≠ .ord ls) : (!decide (refOf os d = "")) = isErr (step os d) := by
  have r : ∀ x : Res, step os d = x → refOf os d = match (motive := Res → Str) x with
    | .error e => e.name
    | .ok _ => "" := fun x st => by
    cases d with
    | ord ls => exact absurd rfl (no ls)
    | ln w o l n => first | (simp only [refOf]; rw [st]; done) | (simp only [refOf]; rw [st]; cases x <;> rfl)
    | mo w o n => first | (simp only [refOf]; rw [st]; done) | (simp only [refOf]; rw [st]; cases x <;> rfl)
    | mv o p n => first | (simp only [refOf]; rw [st]; done) | (simp only [refOf]; rw [st]; cases x <;> rfl)
  cases st : step os d with
  | error e =>
    rw [r _ st]
    show (!decide (e.name = "")) = true
    cases e <;> decide +kernel
  | ok c =>
    rw [r _ st]
    show (!decide (("" : Str) = "")) = false
    decide +kernel
def spLRefused (_ : PySem.W.Frag) : Sp := fun vs H Q _ => ∃ (v : V) (a : Addr) (os : List Od) (A : AL), vs = [v, .ref a] ∧ AccAt H a os A ∧ OsOk os ∧ os.length ≤ 40 ∧ ((v = .non ∧ Q (.bl true) H) ∨ ∃ d : Td, TdA H v d ∧ d.wf ∧ ∀ H', Same H H' → Q (.bl (isErr (step os d.dd))) H')
theorem len_LRefused {K : PySem.W.Frag} {vs : List V} {H : Hp} {Q : VK} {E : XK} (h : spLRefused K vs H Q E) : vs.length = 2 := by
  obtain ⟨_, _, _, _, rfl, _⟩ := h; rfl
theorem TdA.ref {H : Hp} {v : V} {d : Td} (h : TdA H v d) : ∃ t, v = .ref t := by
  cases d with
  | ord ls => obtain ⟨t, _, _, e, _⟩ := h; exact ⟨t, e⟩
  | nums w ns => obtain ⟨t, e, _⟩ := h; exact ⟨t, e⟩
theorem ok_LRefused {P : Program} {w : World} {K : PySem.W.Frag} {mg : Str → Option Value} {base : Heap} (T : Tx w K mg) : FnOk P w K mg base CX0 5 (He.fAd K dLRefused.at_) (fdO K dLRefused.at_) P_LRefused (spLRefused K) := by
  refine T.f_LRefused.ok sc_LRefused (fun vs H Q E h => len_LRefused h) (fun cdv A outer s H vs Q E hr h => ⟨_, PSs.nox ((pss_cons (ps_if (pt_cmpR op_isN (pv 0) pe_non (nomark _)) (pss_one (ps_ret pe_bl)) pss_nil)
      (pss_cons (ps_if (pt_cmpR op_ne (pe_ix ix_seq (pv 0) pe_int (fun _ _ => rfl)) pe_str (nomark _)) (pss_one (ps_ret (pe_cmpR op_ne (pe_call (ok_LRefusal T) (hr.mono (by decide)) rfl T.g_LRefusal T.f_LRefusal.kp T.b_LRefusal .nil pass0 (pa_cons (pv 0) (pa_cons (pv 1) pa_nil))) pe_str (nomark _)))) pss_nil)
      (pss_cons (ps_for PassesOwn.never rfl (pi_list (pe_ix ix_seq (pv 0) pe_int (fun _ _ => rfl))) (pg_name (i := 2) sc_LRefused.nd rfl (Or.inl rfl)) (pss_one (ps_if (PW.pt (pw_or (pt_not (pt_chain op_lt op_lt pe_int (pe_ix ix_tup (pv 2) pe_int (fun _ _ => rfl)) pe_int)) (pw_or (pt_cmpR op_gt (pe_ix ix_tup (pv 2) pe_int (fun _ _ => rfl)) pe_int (nomark _)) (pw_or1 (pt_not (pt_chain op_lt op_lt pe_int (pe_ix ix_tup (pv 2) pe_int (fun _ _ => rfl)) pe_int)))))) (pss_one (ps_ret pe_bl)) pss_nil)))
      (pss_one (ps_ret (pe_or (pe_cmpR op_gt (pe_callB call_len_seq (by rfl) T.b_len (by decide +kernel) (pa_cons (pe_ix ix_seq (pv 0) pe_int (fun _ _ => rfl)) pa_nil)) pe_int (nomark _)) (pe_one (pe_cmpR op_gt (pe_callB call_len_seq (by rfl) T.b_len (by decide +kernel) (pa_cons (pv 1) pa_nil)) pe_int (nomark _)))))))))), ?_⟩)
  obtain ⟨v, a, os, A, rfl, h, ok, l40, hd⟩ := h
  walk_at "rd"
  rcases hd with ⟨rfl, k⟩ | ⟨d, hd, wf, k⟩
  · refine ⟨rfl, ?_⟩
    walk_at "rd"
    refine r_ity rfl ?_
    walk_at "rd"
    exact k
  obtain ⟨t0, rfl⟩ := hd.ref
  refine ⟨rfl, ?_⟩
  walk_at "rd"
  refine r_itz (fun q => by cases q) ?_
  walk_at "rd"
  cases d with
  | ord ls =>
    obtain ⟨t, l, xs, e, ht, hl, pt⟩ := id hd
    cases e
    obtain ⟨n1, n9, okl⟩ := wf
    have pl : xs.length = ls.length := by rw [pt.length, List.length_map]
    refine .inr (.inl (r_ixT (SqT.of ht) (atI_get (j := 0) rfl rfl) ?_))
    walk_at "rd"
    refine r_itn (fun c => absurd rfl c) (fun _ => ?_)
    walk_at "rd"
    refine .inr (.inl (r_ixT (SqT.of ht) (atI_get (j := 1) rfl rfl) ?_))
    walk_at "rd"
    refine ⟨l, rfl, ⟨xs, SqL.of hl⟩, for_list (K := K) (a := l) (xs := xs) (fun i σ H' => ∃ v, σ = [some (.ref t0), some (.ref a), v] ∧ H' = H ∧ ∀ (j : Nat) s, j < i → ls[j]? = some s → numOk s.lt) ⟨none, rfl, rfl, fun j s hj => absurd hj (Nat.not_lt_zero _)⟩ (fun i σ H' _ ⟨_, _, e, _⟩ => by rw [e]; exact SqL.of hl) ?_ ?_⟩
    · rintro i x σ H' hi ⟨v, rfl, rfl, hp⟩
      obtain ⟨row, er, u, rfl, hu⟩ := pr_ex pt hi
      rw [List.getElem?_map] at er
      cases em : ls[i]? with
      | none => rw [em] at er; cases er
      | some m =>
        rw [em] at er
        cases er
        have bad : ¬ numOk m.lt → Q (.bl true) H' := fun n => by
          have := k _ (Same.refl _)
          rw [show Td.dd (.ord ls) = .ord (ls.map Tl.lt) from rfl, ord_bad (List.mem_of_getElem? em) n] at this
          exact this
        walk_at "rd"
        refine r_ixT (SqT.of hu) (atI_get (j := 1) rfl rfl) ?_
        walk_at "rd"
        have no : ¬ ((0 < (m.a : Int) ∧ (m.a : Int) < 1000001) ∧ ¬ (m.b : Int) > 1000000000 ∧ 0 < (m.c : Int) ∧ (m.c : Int) < 1001) → ¬ numOk m.lt := fun z q => z (by
          have q' : (1 ≤ (m.a : Int) ∧ (m.a : Int) ≤ 1000000) ∧ (0 ≤ (m.b : Int) ∧ (m.b : Int) ≤ 1000000000) ∧ (1 ≤ (m.c : Int) ∧ (m.c : Int) ≤ 1000) := q
          omega)
        have ret : ¬ ((0 < (m.a : Int) ∧ (m.a : Int) < 1000001) ∧ ¬ (m.b : Int) > 1000000000 ∧ 0 < (m.c : Int) ∧ (m.c : Int) < 1001) → Q (.bl true) H' := fun z => bad (no z)
        refine r_itd (fun c1 => ?_) (fun c1 => ?_)
        rotate_left
        · walk_at "rd"
          have z := ret (by omega)
          exact z
        walk_at "rd"
        have c2 := Int.lt_or_le (m.a : Int) 1000001
        cases c2
        rotate_left
        · rename_i c2
          rw [decide_eq_false (Int.not_lt.mpr c2)]
          walk_at "rd"
          have z := ret (by omega)
          exact z
        rename_i c2
        rw [decide_eq_true c2]
        refine r_itnT ?_
        walk_at "rd"
        refine r_ixT (SqT.of hu) (atI_get (j := 2) rfl rfl) ?_
        walk_at "rd"
        refine r_itd (fun c3 => ?_) (fun c3 => ?_)
        · walk_at "rd"
          have z := ret (by omega)
          exact z
        walk_at "rd"
        refine r_ixT (SqT.of hu) (atI_get (j := 3) rfl rfl) ?_
        walk_at "rd"
        refine r_itd (fun c4 => ?_) (fun c4 => ?_)
        rotate_left
        · walk_at "rd"
          have z := ret (by omega)
          exact z
        walk_at "rd"
        have c5 := Int.lt_or_le (m.c : Int) 1001
        cases c5
        rotate_left
        · rename_i c5
          rw [decide_eq_false (Int.not_lt.mpr c5)]
          walk_at "rd"
          have z := ret (by omega)
          exact z
        rename_i c5
        rw [decide_eq_true c5]
        refine r_itnT ?_
        walk_at "rd"
        refine ⟨_, rfl, rfl, fun j s hj ej => ?_⟩
        by_cases q : j = i
        · subst q
          rw [em] at ej
          cases ej
          show (1 ≤ (m.a : Int) ∧ (m.a : Int) ≤ 1000000) ∧ (0 ≤ (m.b : Int) ∧ (m.b : Int) ≤ 1000000000) ∧ (1 ≤ (m.c : Int) ∧ (m.c : Int) ≤ 1000)
          omega
        · exact hp j s (by omega) ej
    · rintro σ H' ⟨v, rfl, rfl, hp⟩
      walk_at "rd"
      have e := ord_end (os := os) (fun s hs => by
        obtain ⟨j, hj⟩ := List.getElem?_of_mem hs
        have := (List.getElem?_eq_some_iff.mp hj).1
        exact ⟨okl s hs, hp j s (by omega) hj⟩) n1 l40
      have kk := k _ (Same.refl _)
      rw [show Td.dd (.ord ls) = .ord (ls.map Tl.lt) from rfl, e] at kk
      refine .inr (.inl (r_ixT (SqT.of ht) (atI_get (j := 1) rfl rfl) ?_))
      walk_at "rd"
      refine ⟨l, _, rfl, .inl (SqL.of hl), ?_⟩
      rw [pl]
      walk_at "rd"
      refine r_itd (fun c => ?_) (fun c => ?_)
      · rw [decide_eq_true (by omega)] at kk
        exact kk
      rw [decide_eq_false (by omega)] at kk
      walk_at "rd"
      refine ⟨a, _, rfl, .inl (SqL.of h.top), ?_⟩
      walk_at "rd"
      rw [List.length_map, h.len]
      have e2 : (decide (39 < (os.length : Int))) = decide (os.length > 39) := decide_eq_decide.mpr (by omega)
      rw [e2]
      rw [Bool.false_or] at kk
      exact kk
  | nums w' ns =>
    have dl := td_dd (F := fun _ => True) hd wf fun _ _ _ _ => trivial
    have dg := dd_good wf
    have re := ref_err (os := os) (d := Td.dd (.nums w' ns)) fun ls q => (by
      rcases wf with ⟨l, g⟩ | ⟨l, g⟩
      · match ns, l with
        | [a, b], _ => cases q
      · match ns, l with
        | [a, b, c], _ =>
          have q' : (if w' = "move" then Dd.mv a b c else .ln w' a b c) = .ord ls := q
          split at q' <;> cases q')
    have wo : ¬ w' = "order" := by
      rcases wf with ⟨l, rfl | rfl⟩ | ⟨l, rfl | rfl | rfl | rfl | rfl⟩ <;> decide +kernel
    obtain ⟨t, e, ht⟩ := id hd
    cases e
    refine .inr (.inl (r_ixT (SqT.of ht) (atI_get (j := 0) rfl rfl) ?_))
    walk_at "rd"
    refine r_itn (fun _ => ?_) (fun c => absurd c wo)
    walk_at "rd"
    refine ⟨_, _, _, a, os, A, rfl, dl, dg, h, ok, fun H' s' => ?_⟩
    walk_at "rd"
    have kk := k _ s'
    rw [← re] at kk
    exact kk


/-! ### texts played, as it should be -/
def outB (B : Bk) (z : Str) : Bk × Option (List (Int × Int)) := match rdOf z with
  | none => (B, none)
  | some d => match step B.each d.dd with
    | .error _ => (B, none)
    | .ok (es, cs) => (⟨es, B.trail ++ [d.dd]⟩, some cs)
theorem out_none {B : Bk} {z : Str} (h : rdOf z = none) : outB B z = (B, none) := by
  unfold outB; rw [h]
theorem out_err {B : Bk} {z : Str} {d : Td} {e : Er} (h : rdOf z = some d) (st : step B.each d.dd = .error e) : outB B z = (B, none) := by
  unfold outB; rw [h]; dsimp only; rw [st]
theorem out_ok {B : Bk} {z : Str} {d : Td} {es : List Od} {cs : List (Int × Int)} (h : rdOf z = some d) (st : step B.each d.dd = .ok (es, cs)) : outB B z = (⟨es, B.trail ++ [d.dd]⟩, some cs) := by
  unfold outB; rw [h]; dsimp only; rw [st]
def runB (zs : List Str) : Bk × List (Option (List (Int × Int))) := zs.foldl (fun r z => ((outB r.1 z).1, r.2 ++ [(outB r.1 z).2])) (⟨[], []⟩, [])
theorem run_snoc {zs : List Str} {z : Str} : runB (zs ++ [z]) = ((outB (runB zs).1 z).1, (runB zs).2 ++ [(outB (runB zs).1 z).2]) := by
  unfold runB
  rw [List.foldl_append]
  rfl
theorem run_nil : runB [] = (⟨[], []⟩, []) := rfl
def big (i : Nat) : Int := (i : Int) * 1000000000000000000000000000000
def Dd.num : Dd → Int
  | .ord _ => 0
  | .ln _ _ _ n => n
  | .mo _ _ n => n
  | .mv _ _ n => n
structure OdB (X : Int) (o : Od) : Prop where
  inv : o.inv
  mo : o.money ≤ X
  ord : ∀ l, l ∈ o.lines → l.ordered ≤ 1000000
theorem step_money {os es : List Od} {d : Dd} {cs : List (Int × Int)} {X N : Int} (st : step os d = .ok (es, cs)) (h : ∀ o, o ∈ os → 0 ≤ o.money ∧ o.money ≤ X) (x0 : 0 ≤ X) (n0 : 0 ≤ N) (hn : d.num ≤ N) : ∀ o, o ∈ es → o.money ≤ X + N := by
  intro o ho
  have old : ∀ {u : Od}, u ∈ os → u.money ≤ X + N := fun {u} hu => by have := (h u hu).2; omega
  cases d with
  | ord ls =>
    have e : stepOrd os ls = .ok (es, cs) := st
    unfold stepOrd at e
    split at e
    · cases e
    cases e
    rcases List.mem_append.mp ho with q | q
    · exact old q
    · rw [List.mem_singleton.mp q]
      show (0 : Int) ≤ X + N
      omega
  | ln w p l n =>
    have e : stepLn os w p l n = .ok (es, cs) := st
    unfold stepLn at e
    rcases at_or os p with ⟨q, _⟩ | ⟨j, od, rfl, eo, q⟩
    · rw [q] at e; cases e
    rw [q] at e
    dsimp only at e
    have mo := List.mem_of_getElem? eo
    rcases at_or od.lines l with ⟨q2, _⟩ | ⟨i, x, rfl, el, q2⟩
    · rw [q2] at e; cases e
    rw [q2] at e
    dsimp only at e
    split at e
    · cases e
    split at e
    · cases e
    cases e
    rcases set_mem ho with q | q
    · exact old q
    · rw [q]
      have m1 : od.money ≤ X + N := old mo
      exact m1
  | mo w p n =>
    have e : stepMo os w p n = .ok (es, cs) := st
    unfold stepMo at e
    rcases at_or os p with ⟨q, _⟩ | ⟨j, od, rfl, eo, q⟩
    · rw [q] at e; cases e
    rw [q] at e
    dsimp only at e
    have mo := h _ (List.mem_of_getElem? eo)
    have hn' : n ≤ N := hn
    split at e
    · cases e
    split at e
    · cases e
      rcases set_mem ho with q | q
      · exact old q
      · rw [q]
        show od.money + n ≤ X + N
        omega
    split at e
    · cases e
    cases e
    rcases set_mem ho with q | q
    · exact old q
    · rw [q]
      show od.money + -n ≤ X + N
      omega
  | mv p p2 n =>
    have e : stepMv os p p2 n = .ok (es, cs) := st
    unfold stepMv at e
    rcases at_or os p with ⟨q, _⟩ | ⟨i, a, rfl, eo, q⟩
    · rw [q] at e; cases e
    rw [q] at e
    dsimp only at e
    rcases at_or os p2 with ⟨q2, _⟩ | ⟨j, b, rfl, eo2, q2⟩
    · rw [q2] at e; cases e
    rw [q2] at e
    dsimp only at e
    have ma := h _ (List.mem_of_getElem? eo)
    have mb := h _ (List.mem_of_getElem? eo2)
    have hn' : n ≤ N := hn
    split at e
    · cases e
    split at e
    · cases e
    split at e
    · cases e
    cases e
    rcases set_mem ho with q | q
    · rcases set_mem q with q | q
      · exact old q
      · rw [q]
        show a.money + -n ≤ X + N
        omega
    · rw [q]
      show b.money + n ≤ X + N
      omega
theorem base_ord {a b : List Ln} (h : b.map Ln.base = a.map Ln.base) (g : ∀ l, l ∈ a → l.ordered ≤ 1000000) : ∀ l, l ∈ b → l.ordered ≤ 1000000 := fun l hl => by
  have m : l.base ∈ a.map Ln.base := by rw [← h]; exact List.mem_map_of_mem hl
  obtain ⟨x, hx, e⟩ := List.mem_map.mp m
  have q : l.ordered = x.ordered := congrArg Lt.pieces e.symm
  rw [q]
  exact g x hx
theorem step_odb {os es : List Od} {d : Dd} {cs : List (Int × Int)} {X N : Int} (g : d.good) (gd : ∀ ls, d = .ord ls → Good ls) (st : step os d = .ok (es, cs)) (h : ∀ o, o ∈ os → OdB X o) (x0 : 0 ≤ X) (n0 : 0 ≤ N) (hn : d.num ≤ N) : ∀ o, o ∈ es → OdB (X + N) o := by
  have C := step_chg g gd st
  have M := step_money st (fun o ho => ⟨(h o ho).inv.mo, (h o ho).mo⟩) x0 n0 hn
  intro o ho
  refine ⟨C.inv (fun x hx => (h x hx).inv) o ho, M o ho, ?_⟩
  obtain ⟨j, hj⟩ := List.getElem?_of_mem ho
  have hl := (List.getElem?_eq_some_iff.mp hj).1
  by_cases c : j < os.length
  · have ej : os[j]? = some os[j] := List.getElem?_eq_getElem c
    exact base_ord (C.at_ j _ _ ej hj).2.2.2.2.2 (h _ (List.getElem_mem c)).ord
  · obtain ⟨_, l2, _⟩ := step_len st
    by_cases no : ∃ ls, d = .ord ls
    · obtain ⟨ls, rfl⟩ := no
      have e : stepOrd os ls = .ok (es, cs) := st
      unfold stepOrd at e
      split at e
      · cases e
      cases e
      rw [List.getElem?_append_right (by omega)] at hj
      have q : o = ⟨ls.map Lt.ln, 0, []⟩ := by
        have := List.mem_of_getElem? hj
        exact List.mem_singleton.mp this
      rw [q]
      intro l hl
      obtain ⟨t, ht, rfl⟩ := List.mem_map.mp hl
      exact ((gd ls rfl).2 t ht).2.1.2
    · have := l2 fun ls q => no ⟨ls, q⟩
      omega
/-- what stands behind n texts -/
structure RunOk (n : Nat) (B : Bk) : Prop where
  ok : B.ok
  tr : B.trail.length ≤ n
  os : OsOk B.each
  ob : ∀ o, o ∈ B.each → OdB (big n) o
theorem RunOk.zero : RunOk 0 ⟨[], []⟩ := ⟨ok0, Nat.le_refl _, ⟨Nat.zero_le _, fun o ho => by cases ho⟩, fun o ho => by cases ho⟩
theorem dd_num {d : Td} (wf : d.wf) (lo : d.low) : d.dd.num ≤ 1000000000000000000000000000000 := by
  cases d with
  | ord ls => show (0 : Int) ≤ _; decide
  | nums w ns =>
    have lo' : ∀ n, n ∈ ns → n < 10 ^ 30 := lo
    rcases wf with ⟨l, g⟩ | ⟨l, g⟩
    · match ns, l with
      | [a, b], _ =>
        have := lo' b (by simp)
        show (b : Int) ≤ _
        omega
    · match ns, l with
      | [a, b, c], _ =>
        have := lo' c (by simp)
        have q : (c : Int) ≤ 1000000000000000000000000000000 := by omega
        show Dd.num (if w = "move" then .mv a b c else .ln w a b c) ≤ _
        split <;> exact q
theorem dd_ord {d : Td} {os es : List Od} {cs : List (Int × Int)} (st : step os d.dd = .ok (es, cs)) : ∀ ls, d.dd = .ord ls → Good ls := fun ls e => by
  rw [e] at st
  have e' : stepOrd os ls = .ok (es, cs) := st
  unfold stepOrd at e'
  split at e'
  · cases e'
  · rename_i q
    exact none_ok q
theorem big_nn (n : Nat) : 0 ≤ big n := Int.mul_nonneg (by omega) (by decide)
theorem big_succ (n : Nat) : big n + 1000000000000000000000000000000 = big (n + 1) := by
  unfold big
  omega
theorem RunOk.out {n : Nat} {B : Bk} {z : Str} (h : RunOk n B) (hz : z.length ≤ 90000) : RunOk (n + 1) (outB B z).1 := by
  have stay : RunOk (n + 1) B := ⟨h.ok, by have := h.tr; omega, h.os, fun o ho => by
    have q := h.ob o ho
    refine ⟨q.inv, ?_, q.ord⟩
    have := q.mo
    have := big_succ n
    omega⟩
  cases rd : rdOf z with
  | none => rw [out_none rd]; exact stay
  | some d =>
    obtain ⟨wf, lo⟩ := rd_wf rd hz
    cases st : step B.each d.dd with
    | error e => rw [out_err rd st]; exact stay
    | ok r =>
      obtain ⟨es, cs⟩ := r
      rw [out_ok rd st]
      have g := dd_good wf
      have gd := dd_ord st
      have few := h.ok.few
      refine ⟨step_ok h.ok g st, ?_, step_okk h.os g gd (by omega) st, fun o ho => ?_⟩
      · have := h.tr
        simp
        omega
      · have q := step_odb g gd st h.ob (big_nn n) (by decide) (dd_num wf lo) o ho
        rw [big_succ] at q
        exact q
theorem run_ok : ∀ {zs : List Str}, (∀ z, z ∈ zs → z.length ≤ 90000) → RunOk zs.length (runB zs).1 ∧ (runB zs).2.length = zs.length := by
  have all : ∀ (n : Nat) (zs : List Str), zs.length = n → (∀ z, z ∈ zs → z.length ≤ 90000) → RunOk n (runB zs).1 ∧ (runB zs).2.length = n := by
    intro n
    induction n with
    | zero =>
      intro zs hl _
      have : zs = [] := List.length_eq_zero_iff.mp hl
      subst this
      exact ⟨RunOk.zero, rfl⟩
    | succ n ih =>
      intro zs hl h
      obtain ⟨ds, d, rfl⟩ : ∃ ds d, zs = ds ++ [d] := by
        rcases List.eq_nil_or_concat zs with z | ⟨L, b, z⟩
        · rw [z] at hl; simp at hl
        · exact ⟨L, b, by rw [z, List.concat_eq_append]⟩
      obtain ⟨a, b⟩ := ih ds (by simpa using hl) fun z hz => h z (List.mem_append_left _ hz)
      rw [run_snoc]
      exact ⟨a.out (h d (by simp)), by rw [List.length_append, b]; rfl⟩
  exact fun {zs} h => all _ zs rfl h
/-- what goes at most is not far -/
theorem Ln.inv.worth_le {l : Ln} (h : l.inv) (o : l.ordered ≤ 1000000) : 0 ≤ l.worth ∧ l.worth ≤ 1000000000000000 ∧ 0 ≤ l.kept ∧ l.kept ≤ 1000000 := by
  have ha := h.a
  have hb := h.b
  have hc := h.c
  have hd := h.d
  have k0 : 0 ≤ l.sent - l.home := by omega
  have k1 : l.sent - l.home ≤ 1000000 := by omega
  have c0 := h.ok.1.1
  have c1 := h.ok.1.2
  have p1 := h.ok.2.1
  have m : (l.sent - l.home) * l.cents ≤ 1000000 * 1000000000 := Int.mul_le_mul k1 c1 c0 (by decide)
  have m0 : 0 ≤ (l.sent - l.home) * l.cents := Int.mul_nonneg k0 c0
  have q := Int.ediv_le_self l.pack m0
  have e : l.worth = (l.sent - l.home) * l.cents / l.pack := rfl
  have e2 : l.kept = l.sent - l.home := rfl
  rw [e, e2]
  exact ⟨Int.ediv_nonneg m0 (by omega), by omega, k0, k1⟩
theorem charges_le : ∀ {ls : List Ln}, (∀ l, l ∈ ls → l.inv ∧ l.ordered ≤ 1000000) → 0 ≤ (ls.map Ln.charge).sum ∧ (ls.map Ln.charge).sum ≤ (ls.length : Int) * 1000000000000000
  | [], _ => ⟨Int.le_refl _, Int.le_refl _⟩
  | l :: ls, h => by
    obtain ⟨i, o⟩ := h l List.mem_cons_self
    have w := i.worth_le o
    have h1 := i.f
    have h0 := i.e
    have h2 := charges_le (ls := ls) fun x hx => h x (List.mem_cons_of_mem _ hx)
    have h3 : l.charge = l.worth - l.credited := rfl
    have e : ((l :: ls).map Ln.charge).sum = l.charge + (ls.map Ln.charge).sum := rfl
    rw [e, List.length_cons]
    omega
theorem most_in {X : Int} {os : List Od} (h : ∀ o, o ∈ os → OdB X o) (x0 : 0 ≤ X) (w : Str) (a p : Int) : -(X + 100000000000000000) ≤ mostOf os w a p ∧ mostOf os w a p ≤ X + 100000000000000000 := by
  unfold mostOf
  rcases at_or os a with ⟨e, _⟩ | ⟨j, o, rfl, eo, e⟩
  · rw [e]
    dsimp only
    omega
  rw [e]
  dsimp only
  have O := h o (List.mem_of_getElem? eo)
  have ch := charges_le fun l hl => ⟨O.inv.ln l hl, O.ord l hl⟩
  have few := O.inv.few
  have mo := O.inv.mo
  have mx := O.mo
  have eo : o.owing = (o.lines.map Ln.charge).sum - o.money := rfl
  split
  · omega
  split
  · omega
  rcases at_or o.lines p with ⟨e, _⟩ | ⟨i, l, rfl, el, e⟩
  · rw [e]
    dsimp only
    omega
  rw [e]
  dsimp only
  have li := O.inv.ln l (List.mem_of_getElem? el)
  have lo := O.ord l (List.mem_of_getElem? el)
  have w := li.worth_le lo
  have := li.a
  have := li.b
  have := li.c
  have := li.d
  have := li.e
  have := li.f
  split
  · have e : l.toCome = l.ordered - l.sent + l.again := rfl
    omega
  split
  · have e : l.charge = l.worth - l.credited := rfl
    omega
  · omega

/-! ### the program plays texts -/
def AnsAt (H : Hp) (v : V) : Option (List (Int × Int)) → Prop
  | none => v = .non
  | some cs => ∃ r, v = .ref r ∧ ChAt H r cs
/-- an answer that nobody writes at -/
def AnsIn (H : Hp) (L : Lay) (an : Addr) (v : V) : Option (List (Int × Int)) → Prop
  | none => v = .non
  | some cs => ∃ r, v = .ref r ∧ ChAt H r cs ∧ L.own r = .no ∧ r ≠ an
def spChangesOf (K : PySem.W.Frag) : Sp := fun vs H Q _ => ∃ (b : Addr) (B : Bk) (L : Lay) (z : Str), vs = [.ref b, .str z] ∧ BookAt K H b B L ∧ B.ok ∧ B.trail.length < 100000 ∧ z.length ≤ 90000 ∧
  ∀ v L' H', BookAt K H' b (outB B z).1 L' → Mod L L' H H' → Stay H H' → AnsAt H' v (outB B z).2 → (∀ r, v = .ref r → H r = none ∧ L'.own r = .no) → Q v H'
theorem len_ChangesOf {K : PySem.W.Frag} {vs : List V} {H : Hp} {Q : VK} {E : XK} (h : spChangesOf K vs H Q E) : vs.length = 2 := by
  obtain ⟨_, _, _, _, rfl, _⟩ := h; rfl
theorem ok_ChangesOf {P : Program} {w : World} {K : PySem.W.Frag} {mg : Str → Option Value} {base : Heap} (T : Tx w K mg) : FnOk P w K mg base CX0 8 (He.fAd K dChangesOf.at_) (fdO K dChangesOf.at_) P_ChangesOf (spChangesOf K) := by
  refine T.f_ChangesOf.ok sc_ChangesOf (fun vs H Q E h => len_ChangesOf h) (fun cdv A outer s H vs Q E hr h => ⟨_, PSs.nox ((pss_one (ps_try_only rfl rfl ⟨rfl, by decide, .inl T.g_FlowError⟩ takes0 (fun W pn xe tk po => (pss_one (ps_ret (pe_mX (pv 0) T.cl_Book T.m_Book_do (ok_BookDo T) (hr.mono (by decide)) T.b_BookDo (fun σ => passAt tk σ) (pa_cons (pe_callS (ok_Read T) (hr.mono (by decide)) rfl T.g_Read T.f_Read.kp T.b_Read (fun σ => passAt tk σ) (pa_cons (pv 1) pa_nil)) pa_nil))))) (fun a oe cls d pn hz hf => (pss_one (ps_ret pe_non)))))), ?_⟩)
  obtain ⟨b, B, L, z, rfl, h, ok, hz, lz, k⟩ := h
  obtain ⟨dx, hb⟩ := h.ob
  walk_at "rd"
  refine r_m hb (no_Book_do _ _) ?_
  walk_at "rd"
  refine ⟨z, rfl, lz, fun d rd v H1 s1 hd fr => ?_, fun rd H1 s1 => ?_⟩
  rotate_left
  · refine ⟨true, T.e_NoDeed_FlowError, fun _ a na => ?_, fun z => by cases z⟩
    walk_at "rd"
    exact k _ L H1 (by rw [out_none rd]; exact h.same s1) (Mod.same s1) (Stay.of s1) (by rw [out_none rd]; exact rfl) (fun r q => by cases q)
  obtain ⟨wf, lo⟩ := rd_wf rd lz
  walk_at "rd"
  refine ⟨b, B, L, v, rfl, h.same s1, ok, hz, .inl ⟨d.dd, td_dd hd wf (fun t l e1 e2 => h.fresh (fr t l e1 e2)), dd_good wf, dd_few wf, fun e st H2 s2 => ?_, fun es cs st r L' H2 h2 m2 st2 nr own_r ch => ?_⟩⟩
  · have fin : PySem.W.exmOne K (.ref (He.ga K e.name)) (.ref (He.ga K "FlowError")) = some true := by
      have n9 := step_err9 st
      cases e with
      | tooMuch => exact T.e_TooMuch_FlowError
      | noLine => exact T.e_NoLine_FlowError
      | sameOrder => exact T.e_SameOrder_FlowError
      | noOrder => exact T.e_NoOrder_FlowError
      | fullBook => exact T.e_FullBook_FlowError
      | noNumber => exact T.e_NoNumber_FlowError
      | noItem => exact T.e_NoItem_FlowError
      | noLines => exact T.e_NoLines_FlowError
      | noDeed => exact T.e_NoDeed_FlowError
      | nothingDone => exact absurd rfl n9
    refine ⟨true, fin, fun _ a na => ?_, fun z => by cases z⟩
    walk_at "rd"
    have s12 := s1.trans s2
    exact k _ L H2 (by rw [out_err rd st]; exact h.same s12) (Mod.same s12) (Stay.of s12) (by rw [out_err rd st]; exact rfl) (fun r q => by cases q)
  · walk_at "rd"
    refine k _ L' H2 (by rw [out_ok rd st]; exact h2) ((Mod.same s1).trans m2 (Stay.of s1)) ((Stay.of s1).trans st2) (by rw [out_ok rd st]; exact ⟨r, rfl, ch⟩) (fun r' q => ?_)
    cases q
    exact ⟨Same.free s1 nr, own_r⟩
theorem AnsIn.mod {H H' : Hp} {L L' : Lay} {an : Addr} {v : V} {o : Option (List (Int × Int))} (h : AnsIn H L an v o) (m : Mod L L' H H') : AnsIn H' L' an v o := by
  cases o with
  | none => exact h
  | some cs =>
    obtain ⟨r, e, ⟨xs, ex, px⟩, nr, ne⟩ := h
    obtain ⟨a, b⟩ := m.no ex nr
    exact ⟨r, e, ⟨xs, a, m.but.prs px⟩, b, ne⟩
theorem AnsIn.app {H : Hp} {L : Lay} {an : Addr} {v : V} {o : Option (List (Int × Int))} {xs ys : List V} (h : AnsIn H L an v o) (e : H an = some (.lst xs)) : AnsIn (upd H an (.lst ys)) L an v o := by
  cases o with
  | none => exact h
  | some cs =>
    obtain ⟨r, e1, ⟨zs, ex, px⟩, nr, ne⟩ := h
    exact ⟨r, e1, ⟨zs, by rw [upd_ne ne]; exact ex, (But.lst e rfl).prs px⟩, nr, ne⟩
theorem AnsIn.at {H : Hp} {L : Lay} {an : Addr} {v : V} {o : Option (List (Int × Int))} (h : AnsIn H L an v o) : AnsAt H v o := by
  cases o with
  | none => exact h
  | some cs =>
    obtain ⟨r, e, ch, _⟩ := h
    exact ⟨r, e, ch⟩
theorem AnsAt.in {H : Hp} {L : Lay} {an : Addr} {v : V} {o : Option (List (Int × Int))} (h : AnsAt H v o) (f : ∀ r, v = .ref r → L.own r = .no ∧ r ≠ an) : AnsIn H L an v o := by
  cases o with
  | none => exact h
  | some cs =>
    obtain ⟨r, e, ch⟩ := h
    exact ⟨r, e, ch, (f r e).1, (f r e).2⟩
theorem AnsAt.same {H H' : Hp} {v : V} {o : Option (List (Int × Int))} (h : AnsAt H v o) (s : Same H H') : AnsAt H' v o := by
  cases o with
  | none => exact h
  | some cs =>
    obtain ⟨r, e, xs, ex, px⟩ := h
    exact ⟨r, e, xs, s _ _ ex, (But.of (S := fun _ => False) s).prs px⟩
def spPlayed (K : PySem.W.Frag) : Sp := fun vs H Q _ => ∃ (a : Addr) (zs : List Str), vs = [.ref a] ∧ H a = some (.lst (zs.map V.str)) ∧ zs.length ≤ 1000 ∧ (∀ z, z ∈ zs → z.length ≤ 90000) ∧
  ∀ (r an ow : Addr) (xs : List V) H', Same H H' → H' r = some (.tup [.ref an, .ref ow]) → H' an = some (.lst xs) → Paired (AnsAt H') xs (runB zs).2 → H' ow = some (.lst (((runB zs).1.each.map Od.owing).map V.int)) → Q (.ref r) H'
theorem len_Played {K : PySem.W.Frag} {vs : List V} {H : Hp} {Q : VK} {E : XK} (h : spPlayed K vs H Q E) : vs.length = 1 := by
  obtain ⟨_, _, rfl, _⟩ := h; rfl
theorem ok_Played {P : Program} {w : World} {K : PySem.W.Frag} {mg : Str → Option Value} {base : Heap} (T : Tx w K mg) : FnOk P w K mg base CX0 9 (He.fAd K dPlayed.at_) (fdO K dPlayed.at_) P_Played (spPlayed K) := by
  refine T.f_Played.ok sc_Played (fun vs H Q E h => len_Played h) (fun cdv A outer s H vs Q E hr h => ⟨_, PSs.nox ((pss_cons (ps_set (i := 1) sc_Played.nd rfl (Or.inr rfl) (pe_make0 T.mk_Book (ok_BookInit T) (hr.mono (by decide)) rfl T.g_Book T.b_BookInit .nil pass0))
      (pss_cons (ps_set (i := 2) sc_Played.nd rfl (Or.inl rfl) (pe_lst pa_nil))
      (pss_cons (ps_for PassesOwn.never rfl (pi_list (pv 0)) (pg_name (i := 3) sc_Played.nd rfl (Or.inl rfl)) (pss_one (ps_expr (pe_bm PySem.F.plainAttrs_list PySem.F.slot_list_append PySem.F.type_list_append mt_append (pv 2) (pa_cons (pe_call (ok_ChangesOf T) (hr.mono (by decide)) rfl T.g_ChangesOf T.f_ChangesOf.kp T.b_ChangesOf .nil pass0 (pa_cons (pv 1) (pa_cons (pv 3) pa_nil))) pa_nil)))))
      (pss_one (ps_ret (pe_tup (pa_cons (pv 2) (pa_cons (pe_lc (own := [("order", 4)]) (g := gName 4) (tt := tYes) rfl sc_Played.nd (pi_range1 (by rfl) T.b_range (pa_cons (pe_meth0 (pv 1) T.cl_Book T.m_Book_orders (ok_BookOrders T) (hr.mono (by decide)) T.b_BookOrders .nil pass0) pa_nil)) (blkOk_by (N := N_Played) (sc := defScope sPlayed) (by decide +kernel)) (fun _ _ _ _ _ => pg_name (i := 4) sc_Played.nd rfl (Or.inl rfl)) (fun _ _ _ _ _ => pts_nil) (fun _ _ _ _ _ => (pe_meth (pv 1) T.cl_Book T.m_Book_owed (ok_BookOwed T) (hr.mono (by decide)) T.b_BookOwed .nil passL (pa_cons (pv 4) pa_nil)))) pa_nil))))))))), ?_⟩)
  obtain ⟨a, zs, rfl, ha, lz, sz, k⟩ := h
  walk_at "rd"
  intro b dx nb ndx ne
  refine ⟨b, dx, rfl, upd_same, fun L1 H1 h1 bt1 own1 _ => ⟨rfl, ?_⟩⟩
  have N1 : New L1 H H1 := ⟨bt1.made (made_same nb ndx) nb, made_own own1 nb⟩
  walk_at "rd"
  refine r_mk (by simp) fun an han => ?_
  have s2 := same_upd (o := .lst []) han
  have ean : upd H1 an (.lst []) an = some (.lst []) := upd_same
  have h2 := h1.same s2
  have N2 := N1.ext s2
  have fan : H an = none := Same.free N1.same han
  have nan : L1.own an = .no := h1.fresh han
  revert ean h2 N2
  generalize upd H1 an (.lst []) = H2
  intro ean h2 N2
  walk_at "rd"
  have ha2 := N2.same _ _ ha
  refine ⟨a, rfl, ⟨_, SqL.of ha2⟩, for_list (K := K) (a := a) (xs := zs.map V.str) (fun i σ H' => ∃ L v3 acc, σ = [some (.ref a), some (.ref b), some (.ref an), v3, none] ∧ BookAt K H' b (runB (zs.take i)).1 L ∧ New L H H' ∧ H' an = some (.lst acc) ∧ L.own an = .no ∧ Paired (AnsIn H' L an) acc (runB (zs.take i)).2 ∧ acc.length = i)
    ⟨L1, none, [], rfl, h2, N2, ean, nan, .nil, rfl⟩ (fun i σ H' _ ⟨L, _, _, _, _, N, _⟩ => SqL.of (N.same _ _ ha)) ?_ ?_⟩
  · rintro i x σ H3 hi ⟨L, v3, acc, rfl, h3, N3, e3, n3, p3, l3⟩
    rw [List.getElem?_map] at hi
    cases ez : zs[i]? with
    | none => rw [ez] at hi; cases hi
    | some z =>
      rw [ez] at hi
      cases hi
      have il := (List.getElem?_eq_some_iff.mp ez).1
      have R := (run_ok (zs := zs.take i) fun z hz => sz z (List.mem_of_mem_take hz)).1
      walk_at "rd"
      refine r_tyL (SqL.of e3) ?_
      walk_at "rd"
      have tr := R.tr
      rw [List.length_take] at tr
      refine ⟨b, _, L, z, rfl, h3, R.ok, by omega, sz z (List.mem_of_getElem? ez), fun v L' H4 h4 m4 st4 av fr => ?_⟩
      have e4 := (m4.no e3 n3).1
      have n4 := (m4.no e3 n3).2
      have N4 := N3.mod m4
      walk_at "rd"
      refine r_app e4 (by exact sz5l (by omega)) ?_
      walk_at "rd"
      refine ⟨L', _, acc ++ [v], rfl, ?_, ?_, upd_same, n4, ?_, by simp [l3]⟩
      · rw [take_snoc ez, run_snoc]
        exact h4.keep (But.lst (S := (· = an)) e4 rfl) fun x y q => y (by rw [q]; exact n4)
      · exact ⟨fun x o e => by rw [upd_ne (ne_of_none e fan)]; exact N4.same _ _ e, N4.own⟩
      · rw [take_snoc ez, run_snoc]
        refine Paired.snoc (Paired.mapP p3 fun _ _ q => (q.mod m4).app e4) (AnsIn.app (av.in fun r q => ⟨(fr r q).2, fun y => ?_⟩) e4)
        have := (fr r q).1
        rw [y, e3] at this
        cases this
  · rintro σ H3 ⟨L, v3, acc, rfl, h3, N3, e3, n3, p3, l3⟩
    rw [List.length_map, List.take_length] at h3 p3
    have R := (run_ok (zs := zs) sz).1
    obtain ⟨dy, hb⟩ := h3.ob
    walk_at "rd"
    refine r_m hb (no_Book_orders _ _) ?_
    walk_at "rd"
    refine ⟨b, _, L, rfl, h3, ?_⟩
    walk_at "rd"
    have few := R.ok.few
    refine lcp_range (ys := (((runB zs).1.each.map Od.owing).map V.int)) (by rw [List.length_map, List.length_map]; omega) (by omega) (by omega) ?_ ?_
    · intro i y H' W ey s q
      rw [List.getElem?_map, List.getElem?_map] at ey
      cases eo : (runB zs).1.each[i]? with
      | none => rw [eo] at ey; cases ey
      | some o =>
        rw [eo] at ey
        cases ey
        have il := (List.getElem?_eq_some_iff.mp eo).1
        walk_at "rd"
        refine r_m (s _ _ hb) (no_Book_owed _ _) ?_
        walk_at "rd"
        refine ⟨b, _, L, _, rfl, h3.same s, R.ok, fun c => absurd ⟨by omega, by omega⟩ c, fun j o' ej eo' H5 s5 => ?_⟩
        have : j = i := by omega
        subst this
        rw [eo] at eo'
        cases eo'
        exact q _ s5
    · intro D H' hD s e
      walk_at "rd"
      refine r_mk (by simp) fun r hr => ?_
      have s6 := same_upd (o := .tup [.ref an, .ref D]) hr
      refine k r an D acc _ ((N3.same.trans s).trans s6) upd_same (s6 _ _ (s _ _ e3)) (Paired.mapP p3 fun _ _ q => (q.at.same s).same s6) (s6 _ _ e)

/-! ### texts, what is due, an account -/
def DuIn (H : Hp) (A : AL) (tx du : Addr) (v : V) : Option (List (Int × Int)) → Prop
  | none => v = .non
  | some cs => ∃ r, v = .ref r ∧ ChAt H r cs ∧ A.own r = .no ∧ r ≠ tx ∧ r ≠ du
theorem DuIn.keep {S : Addr → Prop} {H H' : Hp} {A A' : AL} {tx du : Addr} {v : V} {o : Option (List (Int × Int))} (h : DuIn H A tx du v o) (b : But S H H') (n : ∀ x u, H x = some u → A.own x = .no → x ≠ tx → x ≠ du → ¬ S x ∧ A'.own x = .no) : DuIn H' A' tx du v o := by
  cases o with
  | none => exact h
  | some cs =>
    obtain ⟨r, e, ⟨xs, ex, px⟩, nr, n1, n2⟩ := h
    obtain ⟨a, c⟩ := n r _ ex nr n1 n2
    exact ⟨r, e, ⟨xs, b.keep _ _ ex a, b.prs px⟩, c, n1, n2⟩
structure Mid (H0 H : Hp) (tx du oa : Addr) (zt zs : List Str) (A : AL) (dv ex : List V) : Prop where
  same : Same H0 H
  hx : H tx = some (.lst (zt.map V.str))
  hu : H du = some (.lst (dv ++ ex))
  pr : Paired (DuIn H A tx du) dv (runB zs).2
  acc : AccAt H oa (runB zs).1.each A
  ntx : A.own tx = .no
  ndu : A.own du = .no
  dif : tx ≠ du
  ftx : H0 tx = none
  fdu : H0 du = none
  facc : ∀ x, A.own x ≠ .no → H0 x = none
theorem Mid.keep {H0 H H' : Hp} {tx du oa : Addr} {zt zs : List Str} {A : AL} {dv ex : List V} (h : Mid H0 H tx du oa zt zs A dv ex) (s : Same H H') : Mid H0 H' tx du oa zt zs A dv ex :=
  ⟨h.same.trans s, s _ _ h.hx, s _ _ h.hu, Paired.mapP h.pr fun _ _ q => q.keep (But.of (S := fun _ => False) s) fun _ _ _ n _ _ => ⟨id, n⟩, h.acc.same s, h.ntx, h.ndu, h.dif, h.ftx, h.fdu, h.facc⟩
theorem Mid.text {H0 H : Hp} {tx du oa : Addr} {zt zs : List Str} {A : AL} {dv ex : List V} (h : Mid H0 H tx du oa zt zs A dv ex) (z : Str) : Mid H0 (upd H tx (.lst (zt.map V.str ++ [.str z]))) tx du oa (zt ++ [z]) zs A dv ex := by
  have b : But (· = tx) H (upd H tx (.lst (zt.map V.str ++ [.str z]))) := But.lst h.hx rfl
  refine ⟨fun x o e => by rw [upd_ne (ne_of_none e h.ftx)]; exact h.same _ _ e, ?_, b.keep _ _ h.hu (Ne.symm h.dif), Paired.mapP h.pr fun _ _ q => q.keep b fun x _ _ n n1 _ => ⟨n1, n⟩, h.acc.keep b fun x f y => f (by rw [y]; exact h.ntx), h.ntx, h.ndu, h.dif, h.ftx, h.fdu, h.facc⟩
  rw [upd_same, List.map_append]
  rfl
theorem Mid.push {H0 H : Hp} {tx du oa : Addr} {zt zs : List Str} {A : AL} {dv ex : List V} (h : Mid H0 H tx du oa zt zs A dv ex) (v : V) : Mid H0 (upd H du (.lst (dv ++ ex ++ [v]))) tx du oa zt zs A dv (ex ++ [v]) := by
  have b : But (· = du) H (upd H du (.lst (dv ++ ex ++ [v]))) := But.lst h.hu rfl
  refine ⟨fun x o e => by rw [upd_ne (ne_of_none e h.fdu)]; exact h.same _ _ e, b.keep _ _ h.hx h.dif, ?_, Paired.mapP h.pr fun _ _ q => q.keep b fun x _ _ n _ n2 => ⟨n2, n⟩, h.acc.keep b fun x f y => f (by rw [y]; exact h.ndu), h.ntx, h.ndu, h.dif, h.ftx, h.fdu, h.facc⟩
  rw [upd_same, List.append_assoc]
theorem Mid.nope {H0 H : Hp} {tx du oa : Addr} {zt zs : List Str} {A : AL} {dv : List V} {z : Str} (h : Mid H0 H tx du oa zt zs A dv [.non]) (o : outB (runB zs).1 z = ((runB zs).1, none)) : Mid H0 H tx du oa zt (zs ++ [z]) A (dv ++ [.non]) [] := by
  refine ⟨h.same, h.hx, by rw [List.append_nil]; exact h.hu, ?_, ?_, h.ntx, h.ndu, h.dif, h.ftx, h.fdu, h.facc⟩
  · rw [run_snoc, o]
    exact Paired.snoc h.pr rfl
  · rw [run_snoc, o]
    exact h.acc
/-- a step of the account, told -/
theorem Mid.step {H0 H H' : Hp} {tx du oa r : Addr} {zt zs : List Str} {A A' : AL} {dv ex : List V} {z : Str} {B : Bk} {cs : List (Int × Int)} (h : Mid H0 H tx du oa zt zs A dv ex) (o : outB (runB zs).1 z = (B, some cs))
    (acc : AccAt H' oa B.each A') (m : Md A.foot A'.foot H H') (st : Stay H H') (nr : H r = none) (own : A'.own r = .no) (ch : ChAt H' r cs) :
    (H' tx = some (.lst (zt.map V.str)) ∧ H' du = some (.lst (dv ++ ex))) ∧ Mid H0 (upd H' du (.lst (dv ++ [.ref r]))) tx du oa zt (zs ++ [z]) A' (dv ++ [.ref r]) [] := by
  have out : ∀ {x : Addr}, A.own x = .no → ¬ A.foot x := fun {x} e f => f e
  have t1 := m.no h.hx (out h.ntx)
  have t2 := m.no h.hu (out h.ndu)
  have un : ∀ {x : Addr}, ¬ A'.foot x → A'.own x = .no := fun {x} e => Classical.byContradiction e
  have b : But (· = du) H' (upd H' du (.lst (dv ++ [.ref r]))) := But.lst t2.1 rfl
  have rd : r ≠ du := Ne.symm (ne_of_none h.hu nr)
  have rt : r ≠ tx := Ne.symm (ne_of_none h.hx nr)
  refine ⟨⟨t1.1, t2.1⟩, fun x u e => ?_, b.keep _ _ t1.1 h.dif, by rw [upd_same, List.append_nil], ?_, ?_, un t1.2, un t2.2, h.dif, h.ftx, h.fdu, fun x f => ?_⟩
  · rw [upd_ne (ne_of_none e h.fdu)]
    exact m.but.keep _ _ (h.same _ _ e) fun f => by rw [h.facc x f] at e; cases e
  · rw [run_snoc, o]
    refine Paired.snoc (Paired.mapP h.pr fun _ _ q => (q.keep (A' := A') m.but fun x u e n _ _ => ⟨fun f => f n, un (m.no e (out n)).2⟩).keep b fun x _ _ n _ n2 => ⟨n2, n⟩) ?_
    obtain ⟨xs, ex, px⟩ := ch
    exact ⟨r, rfl, ⟨xs, by rw [upd_ne rd]; exact ex, b.prs px⟩, own, rt, rd⟩
  · rw [run_snoc, o]
    exact acc.keep b fun x f y => f (by rw [y]; exact un t2.2)
  · rcases m.grow x f with q | q
    · exact h.facc x q
    · exact Same.free h.same q
/-- a deed, as a text may be made of it -/
def Dd.tz : Dd → Tz
  | .ord ls => .ord (ls.map fun t => (t.item, [t.pieces, t.cents, t.pack]))
  | .ln w o l n => .nums w [o, l, n]
  | .mo w o n => .nums w [o, n]
  | .mv o p n => .nums "move" [o, p, n]
theorem lts_tz {H : Hp} : ∀ {xs : List V} {ls : List Lt}, LtsAt H xs ls → Paired (TupAt H) xs ((ls.map fun t => (t.item, [t.pieces, t.cents, t.pack])).map fun p : Str × List Int => V.str p.1 :: intsOf p.2)
  | _, _, .nil => .nil
  | _, _, .cons ⟨t, e, h⟩ r => .cons ⟨t, e, h⟩ (lts_tz r)
theorem dd_tz {F : Addr → Prop} {H : Hp} {v : V} {d : Dd} (h : DdAt F H v d) (g : d.good) (gd : ∀ ls, d = .ord ls → Good ls) (b : d.bnd 10000000000000000000000000000000000) : TzA H v d.tz ∧ d.tz.ok := by
  have tri : ∀ {a b c : Int}, lg a → lg b → lg c → ∀ n, n ∈ [a, b, c] → lg n := fun {a b c} ha hb hc n hn => by
    simp only [List.mem_cons, List.not_mem_nil, or_false] at hn
    rcases hn with rfl | rfl | rfl <;> assumption
  have low : ∀ {n : Int}, -10000000000000000000000000000000000 ≤ n ∧ n ≤ 10000000000000000000000000000000000 → lg n := fun {n} q => lg_of q.1 q.2
  cases d with
  | ord ls =>
    obtain ⟨t, l, xs, e, ht, hl, _, p⟩ := h
    have G := gd ls rfl
    refine ⟨⟨t, l, xs, e, ht, hl, lts_tz p⟩, by rw [List.length_map]; exact G.1.2, fun q hq => ?_⟩
    obtain ⟨s, hs, rfl⟩ := List.mem_map.mp hq
    obtain ⟨it, nu⟩ := G.2 s hs
    obtain ⟨⟨a1, a2⟩, ⟨b1, b2⟩, ⟨c1, c2⟩⟩ := nu
    exact ⟨item_len it, okS.of (item_str it), Nat.le_refl _, tri (low ⟨by omega, by omega⟩) (low ⟨by omega, by omega⟩) (low ⟨by omega, by omega⟩)⟩
  | ln w o l n =>
    obtain ⟨t, e, ht⟩ := h
    refine ⟨⟨t, e, ht⟩, ?_, ?_, ?_, Nat.le_refl _, tri (low b.1) (low b.2.1) (low b.2.2)⟩
    · exact (gln g).1
    · rcases g with rfl | rfl | rfl | rfl <;> decide +kernel
    · exact okS.of (word_str (d := .ln w o l n) g)
  | mo w o n =>
    obtain ⟨t, e, ht⟩ := h
    refine ⟨⟨t, e, ht⟩, ?_, ?_, ?_, by show 2 ≤ 3; decide, fun m hm => ?_⟩
    · exact (gmo g).1
    · rcases g with rfl | rfl <;> decide +kernel
    · exact okS.of (word_str (d := .mo w o n) g)
    · simp only [List.mem_cons, List.not_mem_nil, or_false] at hm
      rcases hm with rfl | rfl
      · exact low b.1
      · exact low b.2
  | mv o p n =>
    obtain ⟨t, e, ht⟩ := h
    exact ⟨⟨t, e, ht⟩, by decide +kernel, by decide +kernel, okS.of (by decide +kernel), Nat.le_refl _, tri (low b.1) (low b.2.1) (low b.2.2)⟩
theorem run_few : ∀ (n : Nat) (zs : List Str), zs.length = n → ∀ cs, some cs ∈ (runB zs).2 → cs.length ≤ 2 := by
  intro n
  induction n with
  | zero =>
    intro zs hl cs h
    have : zs = [] := List.length_eq_zero_iff.mp hl
    subst this
    cases h
  | succ n ih =>
    intro zs hl cs h
    obtain ⟨ds, d, rfl⟩ : ∃ ds d, zs = ds ++ [d] := by
      rcases List.eq_nil_or_concat zs with z | ⟨L, b, z⟩
      · rw [z] at hl; simp at hl
      · exact ⟨L, b, by rw [z, List.concat_eq_append]⟩
    rw [run_snoc] at h
    rcases List.mem_append.mp h with q | q
    · exact ih ds (by simpa using hl) cs q
    · have e := (List.mem_singleton.mp q).symm
      cases rd : rdOf d with
      | none => rw [out_none rd] at e; cases e
      | some t =>
        cases st : step (runB ds).1.each t.dd with
        | error x => rw [out_err rd st] at e; cases e
        | ok r =>
          obtain ⟨es, cs'⟩ := r
          rw [out_ok rd st] at e
          cases e
          exact cs_len st
/-! ### the first texts -/
abbrev one1 : Str := "order a 1 1 1"
def isOne : Option Td → Bool
  | some (.ord [t]) => decide (t.z = "a") && (decide (t.a = 1) && (decide (t.b = 1) && decide (t.c = 1)))
  | _ => false
theorem isOne_of {o : Option Td} (h : isOne o = true) : o = some (.ord [⟨"a", 1, 1, 1⟩]) := by
  unfold isOne at h
  split at h
  · rename_i t
    obtain ⟨z, a, b, c⟩ := t
    obtain ⟨h1, h2⟩ := Bool.and_eq_true_iff.mp h
    obtain ⟨h2, h3⟩ := Bool.and_eq_true_iff.mp h2
    obtain ⟨h3, h4⟩ := Bool.and_eq_true_iff.mp h3
    have e1 : z = "a" := of_decide_eq_true h1
    have e2 : a = 1 := of_decide_eq_true h2
    have e3 : b = 1 := of_decide_eq_true h3
    have e4 : c = 1 := of_decide_eq_true h4
    rw [e1, e2, e3, e4]
  · cases h
theorem rd_one : rdOf one1 = some (.ord [⟨"a", 1, 1, 1⟩]) := isOne_of (by decide +kernel)
theorem one_ok : one1.length ≤ 90000 ∧ okS one1 := ⟨by decide +kernel, okS.of (by decide +kernel)⟩
theorem good1 : Good [⟨"a", 1, 1, 1⟩] := ⟨⟨by decide, by decide⟩, fun t ht => by
  rw [List.mem_singleton.mp ht]
  exact ⟨by decide +kernel, by decide⟩⟩
theorem out_one {B : Bk} (h : B.each.length < 40) : step B.each (.ord [⟨"a", 1, 1, 1⟩]) = .ok (B.each ++ [⟨[Lt.ln ⟨"a", 1, 1, 1⟩], 0, []⟩], []) := good1.step h
theorem out_full {B : Bk} (h : B.each.length = 40) : outB B one1 = (B, none) := by
  have e : step B.each (Td.dd (.ord [⟨"a", 1, 1, 1⟩])) = .error .fullBook := by
    show stepOrd B.each _ = _
    unfold stepOrd
    have q : ordErr B.each.length [Tl.lt ⟨"a", 1, 1, 1⟩] = some .fullBook := by
      rw [h]
      decide +kernel
    have q2 : ordErr B.each.length (List.map Tl.lt [⟨"a", 1, 1, 1⟩]) = some .fullBook := q
    rw [q2]
  exact out_err rd_one e

/-- a list of scalars -/
def dLst (r : List V) : PyData := .list (r.map dOf)
theorem dLst_dp {K : PySem.W.Frag} {H : Hp} {a : Addr} {r : List V} (h : SqL K H a r) (s : Scs r) : Dp K H (.ref a) (dLst r) := .lst h s.dp
theorem dLst_shaped {r : List V} (s : Scs r) : SeqAt.shaped (dLst r) = true := by
  obtain ⟨a, b⟩ := s.lay
  have a1 : PyData.canLay0 (dLst r) = true := by simp only [dLst, PyData.canLay0]; exact a
  have b1 : PyData.depth (dLst r) = 1 := by simp only [dLst, PyData.depth, b]
  unfold SeqAt.shaped
  rw [a1, b1]
  rfl
theorem dLst_eqv {r q : List V} (s : Scs r) (t : Scs q) : PyData.eqv (dLst r) (dLst q) = decide (r = q) := by
  show PyData.eqv (.list _) (.list _) = _
  simp only [PyData.eqv]
  exact s.eqv t
theorem r_eqLL {H : Hp} {Q : VK} {K : PySem.W.Frag} {a b : Addr} {r q : List V} (h : SqL K H a r) (g : SqL K H b q) (s : Scs r) (t : Scs q) (k : Q (.bl (decide (r = q))) H) : rEqD K (.ref a) (.ref b) H Q :=
  ⟨_, _, dLst_dp h s, dLst_dp g t, dLst_shaped s, dLst_shaped t, by rw [dLst_eqv s t]; exact k⟩
theorem r_neLL {H : Hp} {Q : VK} {K : PySem.W.Frag} {a b : Addr} {r q : List V} (h : SqL K H a r) (g : SqL K H b q) (s : Scs r) (t : Scs q) (k : Q (.bl (!decide (r = q))) H) : rNeD K (.ref a) (.ref b) H Q :=
  ⟨_, _, dLst_dp h s, dLst_dp g t, dLst_shaped s, dLst_shaped t, by rw [dLst_eqv s t]; exact k⟩

def A0 (a : Addr) : AL := ⟨[], fun x => if x = a then .top else .no⟩
theorem acc0 {H : Hp} {a : Addr} (h : H a = some (.lst [])) : AccAt H a [] (A0 a) := ⟨h, by simp [A0], rfl, fun j p o e => by simp [A0] at e, fun j p e => by simp [A0] at e, fun x z => by
  by_cases c : x = a
  · exact ⟨_, by rw [c]; exact h⟩
  · exact absurd (by simp [A0, c]) z⟩
theorem A0_foot {a x : Addr} (h : (A0 a).own x ≠ .no) : x = a := by
  by_cases c : x = a
  · exact c
  · exact absurd (by simp [A0, c]) h
theorem A0_no {a x : Addr} (h : x ≠ a) : (A0 a).own x = .no := by simp [A0, h]
/-! ### the law -/
def spLaw (K : PySem.W.Frag) : Sp := fun vs H Q _ => ∃ a, vs = [.ref a] ∧ Script K H a ∧ ∀ H', Q (.bl true) H'
theorem len_Law {K : PySem.W.Frag} {vs : List V} {H : Hp} {Q : VK} {E : XK} (h : spLaw K vs H Q E) : vs.length = 1 := by
  obtain ⟨_, rfl, _⟩ := h; rfl
theorem ok_Law {P : Program} {w : World} {K : PySem.W.Frag} {mg : Str → Option Value} {base : Heap} (T : Tx w K mg) : FnOk P w K mg base CX0 10 (He.fAd K dLaw.at_) (fdO K dLaw.at_) P_Law (spLaw K) := by
  refine T.f_Law.ok sc_Law (fun vs H Q E h => len_Law h) (fun cdv A outer s H vs Q E hr h => ⟨_, PSs.nox ((pss_cons (ps_set (i := 1) sc_Law.nd rfl (Or.inl rfl) (pe_lst pa_nil))
      (pss_cons (ps_set (i := 2) sc_Law.nd rfl (Or.inl rfl) (pe_lst pa_nil))
      (pss_cons (ps_set (i := 3) sc_Law.nd rfl (Or.inl rfl) (pe_lst pa_nil))
      (pss_cons (ps_set (i := 4) sc_Law.nd rfl (Or.inl rfl) (pe_call (ok_LCellAt T) (hr.mono (by decide)) rfl T.g_LCellAt T.f_LCellAt.kp T.b_LCellAt .nil pass0 (pa_cons (pv 0) (pa_cons pe_int pa_nil))))
      (pss_cons (ps_for PassesOwn.never rfl (pi_range1 (by rfl) T.b_range (pa_cons (pe_op op_mul (pe_op op_add pe_int (pe_op op_mod (pv 4) pe_int)) (pe_callTy call_int1 (by rfl) T.b_int (by decide +kernel) (pa_cons (pe_cmpR op_eq (pe_op op_mod (pe_op op_mod (pe_op op_mul (pv 4) pe_int) pe_int) pe_int) pe_int (nomark _)) pa_nil))) pa_nil)) (pg_name (i := 5) sc_Law.nd rfl (Or.inl rfl)) (pss_cons (ps_expr (pe_bm PySem.F.plainAttrs_list PySem.F.slot_list_append PySem.F.type_list_append mt_append (pv 1) (pa_cons pe_str pa_nil)))
      (pss_cons (ps_expr (pe_bm PySem.F.plainAttrs_list PySem.F.slot_list_append PySem.F.type_list_append mt_append (pv 2) (pa_cons pe_non pa_nil)))
      (pss_one (ps_if (pt_cmpR op_lt (pv 5) pe_int (nomark _)) (pss_one (ps_asg (pe_call (ok_LStep T) (hr.mono (by decide)) rfl T.g_LStep T.f_LStep.kp T.b_LStep .nil pass0 (pa_cons (pe_tup (pa_cons pe_str (pa_cons (pe_lst (pa_cons (pe_tup (pa_cons pe_str (pa_cons pe_int (pa_cons pe_int (pa_cons pe_int pa_nil))))) pa_nil)) pa_nil))) (pa_cons (pv 3) pa_nil))) (pg_sub (pv 2) (pv 5) set_list))) pss_nil)))))
      (pss_cons (ps_for PassesOwn.never rfl (pi_range1 (by rfl) T.b_range (pa_cons (pe_op op_fdiv (pe_callB call_len_seq (by rfl) T.b_len (by decide +kernel) (pa_cons (pv 0) pa_nil)) pe_int) pa_nil)) (pg_name (i := 5) sc_Law.nd rfl (Or.inl rfl)) (pss_cons (ps_set (i := 6) sc_Law.nd rfl (Or.inl rfl) (pe_call (ok_LTextOf T) (hr.mono (by decide)) rfl T.g_LTextOf T.f_LTextOf.kp T.b_LTextOf .nil pass0 (pa_cons (pe_call (ok_LDeedBy T) (hr.mono (by decide)) rfl T.g_LDeedBy T.f_LDeedBy.kp T.b_LDeedBy .nil pass0 (pa_cons (pe_ix ix_list (pv 0) (pe_op op_mul pe_int (pv 5)) (fun _ _ => rfl)) (pa_cons (pe_ix ix_list (pv 0) (pe_op op_add (pe_op op_mul pe_int (pv 5)) pe_int) (fun _ _ => rfl)) (pa_cons (pv 3) pa_nil)))) pa_nil)))
      (pss_cons (ps_if (pt_cmpR op_eq (pe_op op_mod (pe_op op_mod (pe_op op_mul (pe_ix ix_list (pv 0) (pe_op op_mul pe_int (pv 5)) (fun _ _ => rfl)) pe_int) pe_int) pe_int) pe_int (nomark _)) (pss_one (ps_set (i := 6) sc_Law.nd rfl (Or.inl rfl) (pe_call (ok_LChangedBy T) (hr.mono (by decide)) rfl T.g_LChangedBy T.f_LChangedBy.kp T.b_LChangedBy .nil pass0 (pa_cons (pv 6) (pa_cons (pe_ix ix_list (pv 0) (pe_op op_add (pe_op op_mul pe_int (pv 5)) pe_int) (fun _ _ => rfl)) pa_nil))))) pss_nil)
      (pss_cons (ps_expr (pe_bm PySem.F.plainAttrs_list PySem.F.slot_list_append PySem.F.type_list_append mt_append (pv 1) (pa_cons (pv 6) pa_nil)))
      (pss_cons (ps_set (i := 7) sc_Law.nd rfl (Or.inl rfl) (pe_call (ok_LDeedIn T) (hr.mono (by decide)) rfl T.g_LDeedIn T.f_LDeedIn.kp T.b_LDeedIn .nil pass0 (pa_cons (pv 6) pa_nil)))
      (pss_one (ps_if (pt_val (pe_call (ok_LRefused T) (hr.mono (by decide)) rfl T.g_LRefused T.f_LRefused.kp T.b_LRefused .nil pass0 (pa_cons (pv 7) (pa_cons (pv 3) pa_nil)))) (pss_one (ps_expr (pe_bm PySem.F.plainAttrs_list PySem.F.slot_list_append PySem.F.type_list_append mt_append (pv 2) (pa_cons pe_non pa_nil)))) (pss_one (ps_expr (pe_bm PySem.F.plainAttrs_list PySem.F.slot_list_append PySem.F.type_list_append mt_append (pv 2) (pa_cons (pe_call (ok_LStep T) (hr.mono (by decide)) rfl T.g_LStep T.f_LStep.kp T.b_LStep .nil pass0 (pa_cons (pv 7) (pa_cons (pv 3) pa_nil))) pa_nil)))))))))))
      (pss_cons (ps_set (i := 8) sc_Law.nd rfl (Or.inl rfl) (pe_callTy call_list_of (by rfl) T.b_list (by decide +kernel) (pa_cons (pv 1) pa_nil)))
      (pss_cons (ps_set (i := 9) sc_Law.nd rfl (Or.inl rfl) (pe_call (ok_Played T) (hr.mono (by decide)) rfl T.g_Played T.f_Played.kp T.b_Played .nil pass0 (pa_cons (pv 8) pa_nil)))
      (pss_cons (ps_if (PW.pt (pw_or (pt_not (pt_val (pe_callB call_isi (by rfl) T.b_isinstance (by decide +kernel) (pa_cons (pv 9) (pa_cons (pe_bltn (v := .ty "tuple") (by rfl) T.b_tuple (by decide +kernel) rfl) pa_nil))))) (pw_or (pt_cmpR op_ne (pe_callB call_len_seq (by rfl) T.b_len (by decide +kernel) (pa_cons (pv 9) pa_nil)) pe_int (nomark _)) (pw_or1 (pt_cmpR (op_neD hr.units) (pv 8) (pv 1) (nomark _)))))) (pss_one (ps_ret pe_bl)) pss_nil)
      (pss_cons (ps_if (PW.pt (pw_or (pt_not (pt_val (pe_callB call_isi (by rfl) T.b_isinstance (by decide +kernel) (pa_cons (pe_ix ix_tup (pv 9) pe_int (fun _ _ => rfl)) (pa_cons (pe_bltn (v := .ty "list") (by rfl) T.b_list (by decide +kernel) rfl) pa_nil))))) (pw_or (pt_cmpR op_ne (pe_callB call_len_seq (by rfl) T.b_len (by decide +kernel) (pa_cons (pe_ix ix_tup (pv 9) pe_int (fun _ _ => rfl)) pa_nil)) (pe_callB call_len_seq (by rfl) T.b_len (by decide +kernel) (pa_cons (pv 2) pa_nil)) (nomark _)) (pw_or1 (pt_not (pt_val (pe_callB call_isi (by rfl) T.b_isinstance (by decide +kernel) (pa_cons (pe_ix ix_tup (pv 9) pe_int (fun _ _ => rfl)) (pa_cons (pe_bltn (v := .ty "list") (by rfl) T.b_list (by decide +kernel) rfl) pa_nil))))))))) (pss_one (ps_ret pe_bl)) pss_nil)
      (pss_cons (ps_for PassesOwn.never rfl (pi_range1 (by rfl) T.b_range (pa_cons (pe_callB call_len_seq (by rfl) T.b_len (by decide +kernel) (pa_cons (pv 2) pa_nil)) pa_nil)) (pg_name (i := 5) sc_Law.nd rfl (Or.inl rfl)) (pss_cons (ps_if (PW.pt (pw_and (pt_cmpR op_isN (pe_ix ix_list (pv 2) (pv 5) (fun _ _ => rfl)) pe_non (nomark _)) (pw_and1 (pt_cmpR op_notN (pe_ix ix_list (pe_ix ix_tup (pv 9) pe_int (fun _ _ => rfl)) (pv 5) (fun _ _ => rfl)) pe_non (nomark _))))) (pss_one (ps_ret pe_bl)) pss_nil)
      (pss_one (ps_if (PW.pt (pw_and (pt_cmpR op_notN (pe_ix ix_list (pv 2) (pv 5) (fun _ _ => rfl)) pe_non (nomark _)) (pw_and1 (pt_not (pt_val (pe_call (ok_LPairsAlike T) (hr.mono (by decide)) rfl T.g_LPairsAlike T.f_LPairsAlike.kp T.b_LPairsAlike .nil pass0 (pa_cons (pe_ix ix_list (pe_ix ix_tup (pv 9) pe_int (fun _ _ => rfl)) (pv 5) (fun _ _ => rfl)) (pa_cons (pe_ix ix_list (pv 2) (pv 5) (fun _ _ => rfl)) pa_nil)))))))) (pss_one (ps_ret pe_bl)) pss_nil))))
      (pss_cons (ps_for PassesOwn.never rfl (pi_list (pe_ix ix_tup (pv 9) pe_int (fun _ _ => rfl))) (pg_name (i := 10) sc_Law.nd rfl (Or.inl rfl)) (pss_one (ps_if (pt_not (pt_val (pe_call (ok_LWhole T) (hr.mono (by decide)) rfl T.g_LWhole T.f_LWhole.kp T.b_LWhole .nil pass0 (pa_cons (pv 10) pa_nil)))) (pss_one (ps_ret pe_bl)) pss_nil)))
      (pss_one (ps_ret (pe_cmpR (op_eqD hr.units) (pe_ix ix_tup (pv 9) pe_int (fun _ _ => rfl)) (pe_lc (own := [("_law_order", 11)]) (g := gName 11) (tt := tYes) rfl sc_Law.nd (pi_list (pv 3)) (blkOk_by (N := N_Law) (sc := defScope sLaw) (by decide +kernel)) (fun _ _ _ _ _ => pg_name (i := 11) sc_Law.nd rfl (Or.inl rfl)) (fun _ _ _ _ _ => pts_nil) (fun _ _ _ _ _ => (pe_call (ok_LOwedBy T) (hr.mono (by decide)) rfl T.g_LOwedBy T.f_LOwedBy.kp T.b_LOwedBy .nil pass0 (pa_cons (pv 11) pa_nil)))) (nomark _))))))))))))))))), ?_⟩)
  obtain ⟨s, rfl, scr, k⟩ := h
  obtain ⟨ns, hs0, hn⟩ := id scr
  have ki : ∀ H'', Same H H'' → SqL K H'' s (ns.map V.int) := fun H'' q => SqL.keep hs0 fun o e => q _ _ e
  walk_at "rd"
  refine r_mk (by simp) fun tx htx => ?_
  walk_at "rd"
  refine r_mk (by simp) fun du hdu => ?_
  walk_at "rd"
  refine r_mk (by simp) fun oa hoa => ?_
  have s1 := same_upd (o := .lst []) htx
  have s2 := same_upd (o := .lst []) hdu
  have s3 := same_upd (o := .lst []) hoa
  have hdu0 := Same.free s1 hdu
  have hoa0 := Same.free s1 (Same.free s2 hoa)
  have etx : upd H tx (.lst []) tx = some (.lst []) := upd_same
  have edu : upd (upd H tx (.lst [])) du (.lst []) du = some (.lst []) := upd_same
  have M0 : Mid H (upd (upd (upd H tx (.lst [])) du (.lst [])) oa (.lst [])) tx du oa [] [] (A0 oa) [] [] := by
    refine ⟨(s1.trans s2).trans s3, s3 _ _ (s2 _ _ etx), by rw [s3 _ _ edu]; rfl, .nil, acc0 upd_same, ?_, ?_, ne_of_none etx hdu, htx, hdu0, fun x f => ?_⟩
    · exact A0_no (ne_of_none (s2 _ _ etx) hoa)
    · exact A0_no (ne_of_none edu hoa)
    · rw [A0_foot f]; exact hoa0
  revert M0
  generalize upd (upd (upd H tx (.lst [])) du (.lst [])) oa (.lst []) = H3
  intro M0
  walk_at "rd"
  refine ⟨s, _, rfl, scr.same M0.same, by decide, fun c => ?_⟩
  walk_at "rd"
  walk_at "md"
  walk_at "rd"
  walk_at "ml"
  walk_at "rd"
  walk_at "md"
  walk_at "rd"
  walk_at "md"
  walk_at "rd"
  refine .inr ⟨_, rfl, ?_⟩
  walk_at "rd"
  refine r_I (.inr ?_) ?_
  · split <;> omega
  obtain ⟨N, hN, eN⟩ : ∃ N : Nat, N ≤ 41 ∧ (38 + c % 4) * (if decide (c * 48271 % 10151 % 16 = 1) = true then 1 else 0) = (N : Int) := by
    split
    · exact ⟨(38 + c % 4).toNat, by omega, by omega⟩
    · exact ⟨0, by omega, by omega⟩
  rw [eN]
  walk_at "rd"
  refine ⟨_, rfl, by omega, by omega, for_range (lo := 0) (n := N) (fun i σ H' => ∃ zt A dv v5, σ = [some (.ref s), some (.ref tx), some (.ref du), some (.ref oa), some (.int c), v5, none, none, none, none, none, none] ∧ Mid H H' tx du oa zt zt A dv [] ∧ zt.length = i ∧ (∀ z, z ∈ zt → z.length ≤ 90000 ∧ okS z) ∧ (runB zt).1.each.length = min i 40)
    ⟨[], A0 oa, [], none, rfl, M0, rfl, fun z hz => (by cases hz), rfl⟩ ?_ ?_⟩
  · rintro i σ H4 hi ⟨zt, A, dv, v5, rfl, M4, lt, sz, le⟩
    have RR := run_ok fun z hz => (sz z hz).1
    have ld : dv.length = i := by rw [M4.pr.length, RR.2, lt]
    rw [Int.zero_add]
    walk_at "rd"
    refine r_tyL (SqL.of M4.hx) ?_
    walk_at "rd"
    refine r_app M4.hx (by rw [List.length_map]; exact sz5l (by omega)) ?_
    have M5 := M4.text one1
    revert M5
    generalize upd H4 tx (.lst (zt.map V.str ++ [.str one1])) = H5
    intro M5
    walk_at "rd"
    refine r_tyL (SqL.of M5.hu) ?_
    walk_at "rd"
    refine r_app M5.hu (by simp; exact sz5l (by omega)) ?_
    have M6 := M5.push .non
    revert M6
    generalize upd H5 du (.lst (dv ++ [] ++ [.non])) = H6
    intro M6
    walk_at "rd"
    have sz' : ∀ z, z ∈ zt ++ [one1] → z.length ≤ 90000 ∧ okS z := fun z hz => (List.mem_append.mp hz).elim (sz z) fun q => by rw [List.mem_singleton.mp q]; exact one_ok
    refine r_itd (fun c1 => ?_) (fun c1 => ?_)
    rotate_left
    · walk_at "rd"
      have o := out_full (B := (runB zt).1) (by omega)
      refine ⟨zt ++ [one1], A, dv ++ [.non], _, rfl, M6.nope o, by simp [lt], sz', ?_⟩
      rw [run_snoc, o]
      show (runB zt).1.each.length = min (i + 1) 40
      omega
    walk_at "rd"
    refine r_mk (by simp) fun t1 ht1 => ?_
    have q1 := same_upd (o := .tup [.str "a", .int 1, .int 1, .int 1]) ht1
    have e1 : upd H6 t1 (.tup [.str "a", .int 1, .int 1, .int 1]) t1 = some (.tup [.str "a", .int 1, .int 1, .int 1]) := upd_same
    walk_at "rd"
    refine r_mk (by simp) fun l1 hl1 => ?_
    have q2 := same_upd (o := .lst [.ref t1]) hl1
    walk_at "rd"
    refine r_mk (by simp) fun t2 ht2 => ?_
    have q3 := same_upd (o := .tup [.str "order", .ref l1]) ht2
    have M7 := M6.keep ((q1.trans q2).trans q3)
    have eh : DdAt (fun _ => True) (upd (upd (upd H6 t1 (.tup [.str "a", .int 1, .int 1, .int 1])) l1 (.lst [.ref t1])) t2 (.tup [.str "order", .ref l1])) (.ref t2) (.ord [⟨"a", 1, 1, 1⟩]) := ⟨t2, l1, [.ref t1], rfl, upd_same, q3 _ _ upd_same, trivial, .cons ⟨t1, rfl, q3 _ _ (q2 _ _ e1)⟩ .nil⟩
    revert M7 eh
    generalize upd (upd (upd H6 t1 (.tup [.str "a", .int 1, .int 1, .int 1])) l1 (.lst [.ref t1])) t2 (.tup [.str "order", .ref l1]) = H7
    intro M7 eh
    walk_at "rd"
    have st := out_one (B := (runB zt).1) (by omega)
    have o : outB (runB zt).1 one1 = (⟨_, _⟩, some _) := out_ok rd_one st
    have R2 := RR.1.out one_ok.1
    rw [o] at R2
    have tr2 := R2.tr
    refine ⟨_, .ref t2, _, oa, _, _, _, A, rfl, eh, trivial, fun ls e => (by cases e; decide), M7.acc, RR.1.os, fun x hx => (by have := R2.ok.mks x hx; omega), st, fun r A' H8 acc m sy nr own ch => ?_⟩
    obtain ⟨⟨hx8, hu8⟩, M9⟩ := M7.step o acc m sy nr own ch
    walk_at "rd"
    refine r_setL hu8 (j := i) rfl (by simp [ld]) ?_
    have eL : (dv ++ ([] ++ [V.non])).set i (V.ref r) = dv ++ [V.ref r] := by rw [← ld]; simp
    rw [eL]
    refine ⟨zt ++ [one1], A', dv ++ [.ref r], _, rfl, M9, by simp [lt], sz', ?_⟩
    rw [run_snoc, o]
    show ((runB zt).1.each ++ [_]).length = min (i + 1) 40
    rw [List.length_append]
    show (runB zt).1.each.length + 1 = min (i + 1) 40
    omega
  · rintro σ H4 ⟨zt, A, dv, v5, rfl, M4, lt, sz, le⟩
    walk_at "rd"
    refine ⟨s, _, rfl, .inl (ki _ M4.same), ?_⟩
    rw [List.length_map]
    walk_at "rd"
    walk_at "md"
    refine ⟨_, rfl, by omega, by omega, for_range (lo := 0) (n := (((ns.length : Nat) : Int) / 2).toNat) (fun i σ H' => ∃ zt A dv v5 v6 v7, σ = [some (.ref s), some (.ref tx), some (.ref du), some (.ref oa), some (.int c), v5, v6, v7, none, none, none, none] ∧ Mid H H' tx du oa zt zt A dv [] ∧ zt.length = N + i ∧ (∀ z, z ∈ zt → z.length ≤ 90000 ∧ okS z))
      ⟨zt, A, dv, v5, none, none, rfl, M4, lt, sz⟩ ?_ ?_⟩
    · clear M4 lt sz le
      clear zt A dv v5
      rintro i σ H5 hi ⟨zt, A, dv, v5, v6, v7, rfl, M5, lt, sz⟩
      have RR := run_ok fun z hz => (sz z hz).1
      have ld : dv.length = N + i := by rw [M5.pr.length, RR.2, lt]
      have hs5 := ki _ M5.same
      have l1 : 2 * i + 1 < ns.length := by omega
      rw [Int.zero_add]
      walk_at "rd"
      walk_at "ml"
      refine r_ixL hs5 (atI_get (j := 2 * i) (by omega) (int_at (by omega))) ?_
      walk_at "rd"
      walk_at "ml"
      walk_at "rd"
      refine r_ixL hs5 (atI_get (j := 2 * i + 1) (by omega) (int_at (by omega))) ?_
      walk_at "rd"
      refine ⟨_, _, oa, _, A, rfl, M5.acc, RR.1.os, fun v d H6 s6 hd g gd db => ?_⟩
      have gd1 : ∀ ls, d = .ord ls → Good ls := fun ls e => (gd ls e).1
      have bg : big zt.length ≤ 104 * 1000000000000000000000000000000 := by
        unfold big
        omega
      have bd : d.bnd 10000000000000000000000000000000000 := by
        have b0 := big_nn zt.length
        have q := db (9999999999999999999999999999999999) (by omega) fun w a p => by
          have := most_in RR.1.ob b0 w a p
          omega
        exact q
      obtain ⟨hz, okz⟩ := dd_tz hd g gd1 bd
      walk_at "rd"
      refine ⟨v, d.tz, rfl, hz, okz, fun z0 H7 s7 l0 o0 => ?_⟩
      have M7 := M5.keep (s6.trans s7)
      have hs7 := ki _ M7.same
      clear hd hz okz bd db gd gd1
      walk_at "rs"
      with_reducible refine r_join (fun σ' H' => H7 = H' ∧ ∃ z : Str, (z.length ≤ 90000 ∧ okS z) ∧ σ' = [some (.ref s), some (.ref tx), some (.ref du), some (.ref oa), some (.int c), some (.int (i : Int)), some (.str z), v7, none, none, none, none]) ?_ fun N hN => ?_
      rotate_left
      · walk_at "rd"
        walk_at "ml"
        refine r_ixL hs7 (atI_get (j := 2 * i) (by omega) (int_at (by omega))) ?_
        walk_at "rd"
        walk_at "ml"
        walk_at "rd"
        walk_at "md"
        walk_at "rd"
        walk_at "md"
        walk_at "rd"
        refine r_itd (fun _ => ?_) (fun _ => ?_)
        · walk_at "rd"
          walk_at "ml"
          walk_at "rd"
          refine r_ixL hs7 (atI_get (j := 2 * i + 1) (by omega) (int_at (by omega))) ?_
          walk_at "rd"
          refine ⟨z0, _, rfl, by omega, o0, fun y ly oy => ?_⟩
          walk_at "rd"
          exact hN _ _ ⟨rfl, y, ⟨by omega, oy⟩, rfl⟩
        · walk_at "rd"
          exact hN _ _ ⟨rfl, z0, ⟨by omega, o0⟩, rfl⟩
      rintro σ' _ ⟨rfl, z, okz, rfl⟩
      clear l0 o0
      have sz' : ∀ y, y ∈ zt ++ [z] → y.length ≤ 90000 ∧ okS y := fun y hy => (List.mem_append.mp hy).elim (sz y) fun q => by rw [List.mem_singleton.mp q]; exact okz
      walk_at "rd"
      refine r_tyL (SqL.of M7.hx) ?_
      walk_at "rd"
      refine r_app M7.hx (by rw [List.length_map]; exact sz5l (by omega)) ?_
      have M8 := M7.text z
      revert M8
      generalize upd H7 tx (.lst (zt.map V.str ++ [.str z])) = H8
      intro M8
      walk_at "rd"
      have few := RR.1.ok.few
      cases rdz : rdOf z with
      | none =>
        refine ⟨z, rfl, okz.1, (fun d e => by rw [rdz] at e; cases e), fun _ H9 s9 => ?_⟩
        have M9 := M8.keep s9
        walk_at "rd"
        refine ⟨.non, oa, _, A, rfl, M9.acc, RR.1.os, few, .inl ⟨rfl, ?_⟩⟩
        walk_at "rd"
        refine r_tyL (SqL.of M9.hu) ?_
        walk_at "rd"
        refine r_app M9.hu (by simp; exact sz5l (by omega)) ?_
        have M10 := M9.push .non
        walk_at "rd"
        exact ⟨zt ++ [z], A, dv ++ [.non], _, _, _, rfl, M10.nope (out_none rdz), by simp [lt]; omega, sz'⟩
      | some d2 =>
        refine ⟨z, rfl, okz.1, fun d' e v2 H9 s9 hd2 => ?_, (fun e => by rw [rdz] at e; cases e)⟩
        rw [rdz] at e
        cases e
        obtain ⟨wf, lo⟩ := rd_wf rdz okz.1
        have M9 := M8.keep s9
        walk_at "rd"
        refine ⟨v2, oa, _, A, rfl, M9.acc, RR.1.os, few, .inr ⟨d2, hd2, wf, fun H10 s10 => ?_⟩⟩
        have M10 := M9.keep s10
        cases st : step (runB zt).1.each d2.dd with
        | error e =>
          walk_at "rd"
          rw [show isErr (Except.error e) = true from rfl]
          refine r_itT ?_
          walk_at "rd"
          refine r_tyL (SqL.of M10.hu) ?_
          walk_at "rd"
          refine r_app M10.hu (by simp; exact sz5l (by omega)) ?_
          have M11 := M10.push .non
          walk_at "rd"
          exact ⟨zt ++ [z], A, dv ++ [.non], _, _, _, rfl, M11.nope (out_err rdz st), by simp [lt]; omega, sz'⟩
        | ok res =>
          obtain ⟨es, cs⟩ := res
          walk_at "rd"
          rw [show isErr (Except.ok (es, cs)) = false from rfl]
          refine r_itF ?_
          walk_at "rd"
          refine r_tyL (SqL.of M10.hu) ?_
          walk_at "rd"
          have o := out_ok rdz st
          have R2 := RR.1.out okz.1
          rw [o] at R2
          have tr2 := R2.tr
          have gd2 := dd_ord st
          refine ⟨_, v2, _, oa, _, _, _, A, rfl, td_dd (F := fun _ => True) (hd2.keep s10) wf (fun _ _ _ _ => trivial), dd_good wf, fun ls e => (by have := (gd2 ls e).1; omega), M10.acc, RR.1.os, fun x hx => (by have := R2.ok.mks x hx; omega), st, fun r A' H11 acc m sy nr own ch => ?_⟩
          obtain ⟨⟨hx11, hu11⟩, M12⟩ := M10.step o acc m sy nr own ch
          rw [List.append_nil] at hu11
          walk_at "rd"
          refine r_app hu11 (by exact sz5l (by omega)) ?_
          walk_at "rd"
          exact ⟨zt ++ [z], A', dv ++ [.ref r], _, _, _, rfl, M12, by simp [lt]; omega, sz'⟩
    · rintro σ H5 ⟨zt, A, dv, v5, v6, v7, rfl, M5, lt, sz⟩
      have RR := run_ok fun z hz => (sz z hz).1
      have ld : dv.length = zt.length := by rw [M5.pr.length, RR.2]
      have lb : zt.length ≤ 104 := by omega
      clear lt
      walk_at "rd"
      refine ⟨tx, _, rfl, .inl (SqL.of M5.hx), fun ha hha => ?_⟩
      have s6 := same_upd (o := .lst (zt.map V.str)) hha
      have eha : upd H5 ha (.lst (zt.map V.str)) ha = some (.lst (zt.map V.str)) := upd_same
      have M6 := M5.keep s6
      revert eha M6
      generalize upd H5 ha (.lst (zt.map V.str)) = H6
      intro eha M6
      walk_at "rd"
      refine ⟨ha, zt, rfl, eha, by omega, fun z hz => (sz z hz).1, fun r an ow xs H7 s7 er ean pr eow => ?_⟩
      have M7 := M6.keep s7
      have eha7 := s7 _ _ eha
      have lx : xs.length = zt.length := by rw [pr.length, RR.2]
      walk_at "rd"
      refine r_is_tup_tuple er ?_
      walk_at "rd"
      refine ⟨r, _, rfl, .inr (SqT.of er), ?_⟩
      walk_at "rd"
      refine r_itn (fun c => absurd rfl c) (fun _ => ?_)
      walk_at "rd"
      have scz : Scs (zt.map V.str) := fun v hv => by
        obtain ⟨z, hz, rfl⟩ := List.mem_map.mp hv
        exact .inr ⟨z, rfl, (sz z hz).2.str⟩
      refine r_neLL (SqL.of eha7) (SqL.of M7.hx) scz scz ?_
      rw [decide_eq_true rfl]
      walk_at "rd"
      refine r_ixT (SqT.of er) (atI_get (j := 0) rfl rfl) ?_
      walk_at "rd"
      refine r_is_lst_list ean ?_
      walk_at "rd"
      refine r_ixT (SqT.of er) (atI_get (j := 0) rfl rfl) ?_
      walk_at "rd"
      refine ⟨an, _, rfl, .inl (SqL.of ean), ?_⟩
      walk_at "rd"
      refine ⟨du, _, rfl, .inl (SqL.of M7.hu), ?_⟩
      walk_at "rd"
      refine r_itn (fun c => absurd (by rw [List.append_nil, ld, lx]) c) (fun _ => ?_)
      walk_at "rd"
      refine r_ixT (SqT.of er) (atI_get (j := 1) rfl rfl) ?_
      walk_at "rd"
      refine r_is_lst_list eow ?_
      walk_at "rd"
      refine ⟨du, _, rfl, .inl (SqL.of M7.hu), ?_⟩
      rw [List.append_nil, ld]
      have hu7 := M7.hu
      rw [List.append_nil] at hu7
      walk_at "rd"
      refine ⟨_, rfl, by omega, by omega, for_range (lo := 0) (n := zt.length) (fun i σ H' => ∃ v5, σ = [some (.ref s), some (.ref tx), some (.ref du), some (.ref oa), some (.int c), v5, v6, v7, some (.ref ha), some (.ref r), none, none] ∧ H' = H7) ⟨_, rfl, rfl⟩ ?_ ?_⟩
      · rintro i σ H8 hi ⟨w5, rfl, rfl⟩
        rw [Int.zero_add]
        obtain ⟨x, ex⟩ : ∃ x, xs[i]? = some x := ⟨_, List.getElem?_eq_getElem (by omega)⟩
        obtain ⟨y, ey⟩ : ∃ y, dv[i]? = some y := ⟨_, List.getElem?_eq_getElem (by omega)⟩
        obtain ⟨o, eo, hx⟩ := Paired.get_ex pr ex
        obtain ⟨o', eo', hy⟩ := Paired.get_ex M7.pr ey
        rw [eo] at eo'
        cases eo'
        walk_at "rd"
        refine r_ixL (SqL.of hu7) (atI_get (j := i) rfl ey) ?_
        walk_at "rd"
        cases o with
        | none =>
          have e1 : x = .non := hx
          have e2 : y = .non := hy
          subst e1 e2
          refine ⟨rfl, ?_⟩
          walk_at "rd"
          refine r_ity rfl ?_
          walk_at "rd"
          refine r_ixT (SqT.of er) (atI_get (j := 0) rfl rfl) ?_
          walk_at "rd"
          refine r_ixL (SqL.of ean) (atI_get (j := i) rfl ex) ?_
          walk_at "rd"
          refine ⟨rfl, ?_⟩
          walk_at "rd"
          refine r_itn (fun c => absurd rfl c) (fun _ => ?_)
          walk_at "rd"
          refine r_ixL (SqL.of hu7) (atI_get (j := i) rfl ey) ?_
          walk_at "rd"
          refine ⟨rfl, ?_⟩
          walk_at "rd"
          refine r_itn (fun c => absurd rfl c) (fun _ => ?_)
          walk_at "rd"
          exact ⟨_, rfl, rfl⟩
        | some cs =>
          obtain ⟨p, e1, ch1⟩ := hx
          obtain ⟨q, e2, ch2, _⟩ := hy
          subst e1 e2
          refine ⟨rfl, ?_⟩
          walk_at "rd"
          refine r_itz (fun q => by cases q) ?_
          walk_at "rd"
          refine r_ixL (SqL.of hu7) (atI_get (j := i) rfl ey) ?_
          walk_at "rd"
          refine ⟨rfl, ?_⟩
          walk_at "rd"
          refine r_itn (fun _ => ?_) (fun c => by cases c)
          walk_at "rd"
          refine r_ixT (SqT.of er) (atI_get (j := 0) rfl rfl) ?_
          walk_at "rd"
          refine r_ixL (SqL.of ean) (atI_get (j := i) rfl ex) ?_
          walk_at "rd"
          refine r_ixL (SqL.of hu7) (atI_get (j := i) rfl ey) ?_
          walk_at "rd"
          have l2 := run_few _ zt rfl cs (List.mem_of_getElem? eo)
          refine ⟨p, q, cs.map prRow, rfl, ch1.rows, ch2.rows, prRow_ok, by rw [List.length_map]; omega, ?_⟩
          walk_at "rd"
          exact ⟨_, rfl, rfl⟩
      · rintro σ H8 ⟨w5, rfl, rfl⟩
        walk_at "rd"
        refine r_ixT (SqT.of er) (atI_get (j := 1) rfl rfl) ?_
        walk_at "rd"
        have sco : Scs (((runB zt).1.each.map Od.owing).map V.int) := fun v hv => by
          obtain ⟨z, _, rfl⟩ := List.mem_map.mp hv
          exact .int
        refine ⟨ow, rfl, ⟨_, SqL.of eow⟩, for_list (K := K) (a := ow) (xs := ((runB zt).1.each.map Od.owing).map V.int) (fun i σ H' => ∃ v10, σ = [some (.ref s), some (.ref tx), some (.ref du), some (.ref oa), some (.int c), w5, v6, v7, some (.ref ha), some (.ref r), v10, none] ∧ H' = H8) ⟨_, rfl, rfl⟩ (fun i σ H' _ ⟨_, _, e⟩ => by rw [e]; exact SqL.of eow) ?_ ?_⟩
        · rintro i x σ H9 hi ⟨v10, rfl, rfl⟩
          rw [List.getElem?_map] at hi
          cases eo : ((runB zt).1.each.map Od.owing)[i]? with
          | none => rw [eo] at hi; cases hi
          | some o =>
            rw [eo] at hi
            cases hi
            walk_at "rd"
            refine ⟨o, rfl, ?_⟩
            walk_at "rd"
            exact ⟨_, rfl, rfl⟩
        · rintro σ H9 ⟨v10, rfl, rfl⟩
          walk_at "rd"
          refine r_ixT (SqT.of er) (atI_get (j := 1) rfl rfl) ?_
          walk_at "rd"
          have few := RR.1.ok.few
          refine lcp_list (ys := (((runB zt).1.each.map Od.owing).map V.int)) (SqL.of M7.acc.top) (by simp [M7.acc.len]) (by simp [M7.acc.len]; omega) ?_ ?_
          · intro i x y H' R ex ey s q
            rw [List.getElem?_map, List.getElem?_map] at ey
            rw [List.getElem?_map] at ex
            cases eo : (runB zt).1.each[i]? with
            | none => rw [eo] at ey; cases ey
            | some o =>
              rw [eo] at ey
              cases ey
              obtain ⟨p, ep, O, ev⟩ := acc_at M7.acc eo
              rw [ep] at ex
              cases ex
              walk_at "rd"
              exact ⟨p, o, rfl, O.same s, (RR.1.os.2 o (List.mem_of_getElem? eo)).1, fun H2 s2 => q _ s2⟩
          · intro D H' hD s e
            walk_at "rd"
            refine r_eqLL (SqL.of (s _ _ eow)) (SqL.of e) sco sco ?_
            rw [decide_eq_true rfl]
            exact k _

theorem Tx.b_Law_args {w : World} {K : PySem.W.Frag} {mg : Str → Option Value} (T : Tx w K mg) (s : Shared) (v : Value) : BindsTo s (fdO K dLaw.at_) ⟨[v], []⟩ [("_law_script", v)] := by
  have b := FunD.bindsA (ps := ["_law_script"]) T.f_Law fun _ _ _ _ _ _ us hl => match us, hl with | [_], _ => rfl
  exact b s [v] rfl
theorem law_start {K : PySem.W.Frag} {H : Hp} {a : Addr} {ns : List Int} (hs : SqL K H a (ns.map V.int)) (hl : ns.length ≤ 63) : spLaw K [.ref a] H (fun v _ => v = .bl true) fun _ _ _ => False := ⟨a, rfl, ⟨ns, hs, hl⟩, fun _ => rfl⟩
end Of
open PySem PySem.W PySem.Calls PyProof.Rows
set_option maxRecDepth 100000 in
set_option maxHeartbeats 0 in
theorem PySem.Challenge.cw_orderflow_k14_whole_texts_played_holds : PySem.Challenge.rw_orderflow_k14_whole_texts_played.Holds := by
  w_on; o_law
  refine HandSHeadRun.head_any (r := OpenLaw.row PySem.Challenge.rw_orderflow_k14_whole_texts_played) (q := view (OpenLaw.row PySem.Challenge.rw_orderflow_k14_whole_texts_played).prog [59]) (H := Of.hk) (ob := Of.ob) (M := 20000) (loose := Of.names) (d := HandSHeadRun.topDef (OpenLaw.row PySem.Challenge.rw_orderflow_k14_whole_texts_played).prog 59) (kwd := []) Of.ob_eq
    (by kernel_rfl) (fun s => by kernel_rfl) Of.run (by kernel_rfl) (by kernel_rfl) (by kernel_rfl) (by rfl) (by first | assumption | decide +kernel) (by decide +kernel) ⟨rfl, rfl, rfl, rfl, rfl, by decide +kernel⟩ ?hw ?hc
  case hw => w_witness2
  case hc =>
    refine L2.walk_ofE (l := PySem.Challenge.rw_orderflow_k14_whole_texts_played) (n := 63) (k := 10) (x := "_law_script") (CX := L2.CX0) rfl (by decide) (by kernel_rfl) ⟨rfl, by decide, by decide⟩ ?F (fun _ _ _ _ z => z)
    intro w mg fa h Y G hm0
    obtain ⟨K, KX, c⟩ := Y
    have T : Of.Tx w K mg := Of.tx_of KX G c
    have hm : mg ("law" : PySem.Str) = some (.ref fa) := by
      have e : (HandSHeadRun.topDef (OpenLaw.row PySem.Challenge.rw_orderflow_k14_whole_texts_played).prog 59).name = ("law" : PySem.Str) := by kernel_rfl
      rw [← e]
      exact hm0
    have ef : fa = He.fAd K Of.dLaw.at_ := by
      have q := hm.symm.trans T.g_Law
      cases q
      rfl
    rw [ef]
    exact ⟨K, Of.fdO K Of.dLaw.at_, Of.spLaw K, KX, fun s v => T.b_Law_args s v, fun H a ns hl _ hS => Of.law_start hS hl, fun base _ _ => Of.ok_Law T⟩
#print axioms PySem.Challenge.cw_orderflow_k14_whole_texts_played_holds
