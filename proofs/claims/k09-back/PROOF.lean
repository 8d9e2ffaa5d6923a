import PyProof.Rows.All
import Wide.All
import OpenK.AllK
import Wide.FinOn
import KE.KStateDown
import Lean
import HandS.ForMost
import HandS.ForExc
import HandS.More
import HandS.TryMany
import HandS.Walk
import HandS.IsInst
import HandS.ExcIs
import HandS.Defaults
import HandS.Head0
import HandS.Head1
import HandS.Head2
import HandS.HeadEnd
import HandS.HeadHook1
import HandS.HeadHook2
import HandS.HeadHook3
import HandS.HeadHook4
import HandS.HotCalls
import PySem.Challenge.RW_orderflow_k09_taken_back
set_option Elab.async false
set_option linter.all false
set_option maxRecDepth 100000
set_option maxHeartbeats 0
namespace Of
open PySem PySem.Spec PyProof.Rows L2
/-! ### a written dict of text keys, whole -/
theorem kd_of {K : PySem.W.Frag} {w : World} {a : Addr} {ks : List Str} (h : He.dicW K a = some (He.keysIn w.params ks)) :
    ∃ es n, K.lookup a = some ⟨.type "dict", none, .dict es n, #[]⟩ ∧ PySem.W.KeysLit w.params es.toList ∧ es.toList.map He.keyOf = He.keysIn w.params ks ∧ (a == sysModules) = false := by
  obtain ⟨es, n, D⟩ := He.dicW_ok h
  refine ⟨es, n, D.at_, D.lit, ?_, D.low⟩
  unfold He.dicW at h
  rw [D.at_] at h
  have e2 : (match decide ((("dict" : String)) = "dict") && ((#[] : Array (Option Value)).isEmpty && !(a == sysModules)) with
    | true => some (es.toList.map He.keyOf)
    | false => none) = some (He.keysIn w.params ks) := h
  have e3 : (decide ((("dict" : String)) = "dict") && ((#[] : Array (Option Value)).isEmpty && !(a == sysModules))) = true := by
    rw [D.low]; rfl
  rw [e3] at e2
  exact Option.some.inj e2

/-! ### what an error's class says, for isinstance -/
def excB (K : PySem.W.Frag) (D : Addr) : Bool := decide (PySem.W.findIn K (.ref D) "__getattribute__" = some (some (.builtin "BaseException.__getattribute__"))) && (decide (PySem.W.findIn K (.ref D) "__getattr__" = some none) &&
  (decide (PySem.W.subIn K (.ref D) (.type "BaseException") = some true) && (PySem.W.hasDictIn K D && (decide (PySem.W.findIn K (.ref D) "__class__" = some (some (.builtin "object.__class__"))) &&
  (decide (PySem.W.specialIn K (.builtin "object.__class__") "__get__" = some (some (.builtin "getset_descriptor.__get__"))) && (decide (PySem.W.takesIn K (.builtin "object.__class__") = some true) && decide (PySem.W.mroIn K D (.type "object") = some true)))))))
theorem excB_ok {K : PySem.W.Frag} {D : Addr} (h : excB K D = true) : ExcC K D := by
  obtain ⟨h1, h⟩ := He.ba h
  obtain ⟨h2, h⟩ := He.ba h
  obtain ⟨h3, h⟩ := He.ba h
  obtain ⟨h4, h⟩ := He.ba h
  obtain ⟨h5, h⟩ := He.ba h
  obtain ⟨h6, h⟩ := He.ba h
  obtain ⟨h7, h8⟩ := He.ba h
  exact ⟨of_decide_eq_true h1, of_decide_eq_true h2, of_decide_eq_true h3, h4, of_decide_eq_true h5, of_decide_eq_true h6, of_decide_eq_true h7, of_decide_eq_true h8⟩
def excAll (K : PySem.W.Frag) (xs : List Str) : Bool := xs.all fun x => excB K (He.ga K x) && (decide (PySem.W.kitOne K (.ref (He.ga K x)) (.type "ValueError") = some true) && xs.all fun y => decide (PySem.W.kitOne K (.ref (He.ga K x)) (.ref (He.ga K y)) = some (decide (x = y))))
theorem excAll_ok {K : PySem.W.Frag} {xs : List Str} (h : excAll K xs = true) {x : Str} (hx : x ∈ xs) : ExcC K (He.ga K x) ∧ PySem.W.kitOne K (.ref (He.ga K x)) (.type "ValueError") = some true ∧
    ∀ y, y ∈ xs → PySem.W.kitOne K (.ref (He.ga K x)) (.ref (He.ga K y)) = some (decide (x = y)) := by
  obtain ⟨h1, h⟩ := He.ba (List.all_eq_true.mp h x hx)
  obtain ⟨h2, h3⟩ := He.ba h
  exact ⟨excB_ok h1, of_decide_eq_true h2, fun y hy => of_decide_eq_true (List.all_eq_true.mp h3 y hy)⟩
/-- isinstance(e, C) in a handler -/
def rIsX (K : PySem.W.Frag) (cls : Value) (d : Option Addr) (a : Addr) : List V → Hp → VK → Prop := fun xs H Q => ∃ (D : Addr) (c : V) (cv : Value) (b : Bool), cls = .ref D ∧ d = none ∧ ExcC K D ∧ xs = [.ref a, c] ∧ ClsV c cv ∧ PySem.W.kitOne K (.ref D) cv = some b ∧ Q (.bl b) H
theorem call_isX {X : Cx} {K : PySem.W.Frag} {a : Addr} {cls : Value} {d : Option Addr} {oe : Obj} {pn : List (Addr × Obj)} (eK : X.K = K) (hz : Zc cls d oe) (hf : ∃ vs, oe.data = .fields vs) : CallR (X.suite a ((a, oe) :: pn)) (.builtin "isinstance") (rIsX K cls d a) := by
  subst eK
  intro pins s σ H xs us Q I r h
  obtain ⟨D, c, cv, b, rfl, rfl, C, rfl, hc, e, q⟩ := h
  exact call_isE C hz hf pins s σ H _ us Q I r ⟨c, cv, b, rfl, fun u ru => hc.eq ru, e, q⟩
/-! ### the text by places -/
def top (i : Nat) : Stmt := PySem.Challenge.pw_orderflow_k09_taken_back.main.body.getD i (.Pass ⟨0, 0, 0, 0⟩)
abbrev sWorth : Stmt := top 19
abbrev sIsItem : Stmt := top 20
abbrev sCheckLine : Stmt := top 21
abbrev sLineInit : Stmt := inClass (top 22) 0
abbrev sLineKept : Stmt := inClass (top 22) 1
abbrev sLineToCome : Stmt := inClass (top 22) 2
abbrev sLineKeptWorth : Stmt := inClass (top 22) 3
abbrev sLineCharge : Stmt := inClass (top 22) 4
abbrev sLineDeliver : Stmt := inClass (top 22) 5
abbrev sLineBring : Stmt := inClass (top 22) 6
abbrev sLineReduce : Stmt := inClass (top 22) 7
abbrev sLineNumbers : Stmt := inClass (top 22) 8
abbrev sMatched : Stmt := top 24
abbrev sOrderInit : Stmt := inClass (top 26) 0
abbrev sOrderOwing : Stmt := inClass (top 26) 1
abbrev sOrderLineOf : Stmt := inClass (top 26) 2
abbrev sOrderNeedOver : Stmt := inClass (top 26) 3
abbrev sOrderTurnLine : Stmt := inClass (top 26) 4
abbrev sOrderTake : Stmt := inClass (top 26) 5
abbrev sOrderMark : Stmt := inClass (top 26) 6
abbrev sOwn : Stmt := top 31
abbrev sBookInit : Stmt := inClass (top 32) 0
abbrev sBookOrderOf : Stmt := inClass (top 32) 1
abbrev sBookDo : Stmt := inClass (top 32) 2
abbrev sBookBegin : Stmt := inClass (top 32) 3
abbrev sBookShift : Stmt := inClass (top 32) 4
abbrev sBookOne : Stmt := inClass (top 32) 5
abbrev sBookNeedNumber : Stmt := inClass (top 32) 6
abbrev sBookUndo : Stmt := inClass (top 32) 7
abbrev sBookOrders : Stmt := inClass (top 32) 8
abbrev sBookTold : Stmt := inClass (top 32) 9
abbrev sBookPaid : Stmt := inClass (top 32) 10
abbrev sBookOwed : Stmt := inClass (top 32) 11
abbrev sBookRows : Stmt := inClass (top 32) 12
abbrev sBookSettled : Stmt := inClass (top 32) 13
abbrev sLCellAt : Stmt := top 34
abbrev sLWhole : Stmt := top 35
abbrev sLLineWorth : Stmt := top 36
abbrev sLOwedBy : Stmt := top 37
abbrev sLMost : Stmt := top 38
abbrev sLPlaceBy : Stmt := top 39
abbrev sLNumberBy : Stmt := top 40
abbrev sLItemBy : Stmt := top 41
abbrev sLLinesBy : Stmt := top 42
abbrev sLDeedBy : Stmt := top 43
abbrev sLRefusal : Stmt := top 44
abbrev sLTurned : Stmt := top 45
abbrev sLStep : Stmt := top 46
abbrev sLHanded : Stmt := top 47
abbrev sLTried : Stmt := top 48
abbrev sLPairsAlike : Stmt := top 49
abbrev sLPartsAlike : Stmt := top 50
abbrev sLDeedAlike : Stmt := top 51
abbrev sLAheadWhole : Stmt := top 52
abbrev sLIsTriple : Stmt := top 53
abbrev sLMatchedWell : Stmt := top 54
abbrev sLRowsAlike : Stmt := top 55
abbrev sLLinesTold : Stmt := top 56
abbrev sLStands : Stmt := top 57
abbrev sLModelOf : Stmt := top 58
abbrev sLStandsBy : Stmt := top 59
abbrev sLBack : Stmt := top 60
abbrev sLOfOneClass : Stmt := top 61
abbrev sLNothing : Stmt := top 62
abbrev sLDone : Stmt := top 63
abbrev sLPaidFirst : Stmt := top 64
abbrev sLaw : Stmt := top 65
def dWorth : He.DefD := ⟨("worth", none), "worth", "worth", defArgs sWorth, defBody sWorth, defScope sWorth, [], []⟩
def dIsItem : He.DefD := ⟨("is_item", none), "is_item", "is_item", defArgs sIsItem, defBody sIsItem, defScope sIsItem, [], []⟩
def dCheckLine : He.DefD := ⟨("check_line", none), "check_line", "check_line", defArgs sCheckLine, defBody sCheckLine, defScope sCheckLine, [], []⟩
def dLineInit : He.DefD := ⟨("Line", some "__init__"), "__init__", "Line.__init__", defArgs sLineInit, defBody sLineInit, defScope sLineInit, [], []⟩
def dLineKept : He.DefD := ⟨("Line", some "kept"), "kept", "Line.kept", defArgs sLineKept, defBody sLineKept, defScope sLineKept, [], []⟩
def dLineToCome : He.DefD := ⟨("Line", some "to_come"), "to_come", "Line.to_come", defArgs sLineToCome, defBody sLineToCome, defScope sLineToCome, [], []⟩
def dLineKeptWorth : He.DefD := ⟨("Line", some "kept_worth"), "kept_worth", "Line.kept_worth", defArgs sLineKeptWorth, defBody sLineKeptWorth, defScope sLineKeptWorth, [], []⟩
def dLineCharge : He.DefD := ⟨("Line", some "charge"), "charge", "Line.charge", defArgs sLineCharge, defBody sLineCharge, defScope sLineCharge, [], []⟩
def dLineDeliver : He.DefD := ⟨("Line", some "deliver"), "deliver", "Line.deliver", defArgs sLineDeliver, defBody sLineDeliver, defScope sLineDeliver, [], []⟩
def dLineBring : He.DefD := ⟨("Line", some "bring"), "bring", "Line.bring", defArgs sLineBring, defBody sLineBring, defScope sLineBring, [], []⟩
def dLineReduce : He.DefD := ⟨("Line", some "reduce"), "reduce", "Line.reduce", defArgs sLineReduce, defBody sLineReduce, defScope sLineReduce, [], []⟩
def dLineNumbers : He.DefD := ⟨("Line", some "numbers"), "numbers", "Line.numbers", defArgs sLineNumbers, defBody sLineNumbers, defScope sLineNumbers, [], []⟩
def dMatched : He.DefD := ⟨("matched", none), "matched", "matched", defArgs sMatched, defBody sMatched, defScope sMatched, [], []⟩
def dOrderInit : He.DefD := ⟨("Order", some "__init__"), "__init__", "Order.__init__", defArgs sOrderInit, defBody sOrderInit, defScope sOrderInit, [], []⟩
def dOrderOwing : He.DefD := ⟨("Order", some "owing"), "owing", "Order.owing", defArgs sOrderOwing, defBody sOrderOwing, defScope sOrderOwing, [], []⟩
def dOrderLineOf : He.DefD := ⟨("Order", some "line_of"), "line_of", "Order.line_of", defArgs sOrderLineOf, defBody sOrderLineOf, defScope sOrderLineOf, [], []⟩
def dOrderNeedOver : He.DefD := ⟨("Order", some "need_over"), "need_over", "Order.need_over", defArgs sOrderNeedOver, defBody sOrderNeedOver, defScope sOrderNeedOver, [], []⟩
def dOrderTurnLine : He.DefD := ⟨("Order", some "turn_line"), "turn_line", "Order.turn_line", defArgs sOrderTurnLine, defBody sOrderTurnLine, defScope sOrderTurnLine, [], []⟩
def dOrderTake : He.DefD := ⟨("Order", some "take"), "take", "Order.take", defArgs sOrderTake, defBody sOrderTake, defScope sOrderTake, [], []⟩
def dOrderMark : He.DefD := ⟨("Order", some "mark"), "mark", "Order.mark", defArgs sOrderMark, defBody sOrderMark, defScope sOrderMark, [], []⟩
def dOwn : He.DefD := ⟨("own", none), "own", "own", defArgs sOwn, defBody sOwn, defScope sOwn, [], []⟩
def dBookInit : He.DefD := ⟨("Book", some "__init__"), "__init__", "Book.__init__", defArgs sBookInit, defBody sBookInit, defScope sBookInit, [], []⟩
def dBookOrderOf : He.DefD := ⟨("Book", some "order_of"), "order_of", "Book.order_of", defArgs sBookOrderOf, defBody sBookOrderOf, defScope sBookOrderOf, [], []⟩
def dBookDo : He.DefD := ⟨("Book", some "do"), "do", "Book.do", defArgs sBookDo, defBody sBookDo, defScope sBookDo, [], []⟩
def dBookBegin : He.DefD := ⟨("Book", some "begin"), "begin", "Book.begin", defArgs sBookBegin, defBody sBookBegin, defScope sBookBegin, [], []⟩
def dBookShift : He.DefD := ⟨("Book", some "shift"), "shift", "Book.shift", defArgs sBookShift, defBody sBookShift, defScope sBookShift, [], []⟩
def dBookOne : He.DefD := ⟨("Book", some "one"), "one", "Book.one", defArgs sBookOne, defBody sBookOne, defScope sBookOne, [], []⟩
def dBookNeedNumber : He.DefD := ⟨("Book", some "need_number"), "need_number", "Book.need_number", defArgs sBookNeedNumber, defBody sBookNeedNumber, defScope sBookNeedNumber, [], []⟩
def dBookUndo : He.DefD := ⟨("Book", some "undo"), "undo", "Book.undo", defArgs sBookUndo, defBody sBookUndo, defScope sBookUndo, [], []⟩
def dBookOrders : He.DefD := ⟨("Book", some "orders"), "orders", "Book.orders", defArgs sBookOrders, defBody sBookOrders, defScope sBookOrders, [], []⟩
def dBookTold : He.DefD := ⟨("Book", some "told"), "told", "Book.told", defArgs sBookTold, defBody sBookTold, defScope sBookTold, [], []⟩
def dBookPaid : He.DefD := ⟨("Book", some "paid"), "paid", "Book.paid", defArgs sBookPaid, defBody sBookPaid, defScope sBookPaid, [], []⟩
def dBookOwed : He.DefD := ⟨("Book", some "owed"), "owed", "Book.owed", defArgs sBookOwed, defBody sBookOwed, defScope sBookOwed, [], []⟩
def dBookRows : He.DefD := ⟨("Book", some "rows"), "rows", "Book.rows", defArgs sBookRows, defBody sBookRows, defScope sBookRows, [], []⟩
def dBookSettled : He.DefD := ⟨("Book", some "settled"), "settled", "Book.settled", defArgs sBookSettled, defBody sBookSettled, defScope sBookSettled, [], []⟩
def dLCellAt : He.DefD := ⟨("_law_cell_at", none), "_law_cell_at", "_law_cell_at", defArgs sLCellAt, defBody sLCellAt, defScope sLCellAt, [], []⟩
def dLWhole : He.DefD := ⟨("_law_whole", none), "_law_whole", "_law_whole", defArgs sLWhole, defBody sLWhole, defScope sLWhole, [], []⟩
def dLLineWorth : He.DefD := ⟨("_law_line_worth", none), "_law_line_worth", "_law_line_worth", defArgs sLLineWorth, defBody sLLineWorth, defScope sLLineWorth, [], []⟩
def dLOwedBy : He.DefD := ⟨("_law_owed_by", none), "_law_owed_by", "_law_owed_by", defArgs sLOwedBy, defBody sLOwedBy, defScope sLOwedBy, [], []⟩
def dLMost : He.DefD := ⟨("_law_most", none), "_law_most", "_law_most", defArgs sLMost, defBody sLMost, defScope sLMost, [], []⟩
def dLPlaceBy : He.DefD := ⟨("_law_place_by", none), "_law_place_by", "_law_place_by", defArgs sLPlaceBy, defBody sLPlaceBy, defScope sLPlaceBy, [], []⟩
def dLNumberBy : He.DefD := ⟨("_law_number_by", none), "_law_number_by", "_law_number_by", defArgs sLNumberBy, defBody sLNumberBy, defScope sLNumberBy, [], []⟩
def dLItemBy : He.DefD := ⟨("_law_item_by", none), "_law_item_by", "_law_item_by", defArgs sLItemBy, defBody sLItemBy, defScope sLItemBy, [], []⟩
def dLLinesBy : He.DefD := ⟨("_law_lines_by", none), "_law_lines_by", "_law_lines_by", defArgs sLLinesBy, defBody sLLinesBy, defScope sLLinesBy, [], []⟩
def dLDeedBy : He.DefD := ⟨("_law_deed_by", none), "_law_deed_by", "_law_deed_by", defArgs sLDeedBy, defBody sLDeedBy, defScope sLDeedBy, [], []⟩
def dLRefusal : He.DefD := ⟨("_law_refusal", none), "_law_refusal", "_law_refusal", defArgs sLRefusal, defBody sLRefusal, defScope sLRefusal, [], []⟩
def dLTurned : He.DefD := ⟨("_law_turned", none), "_law_turned", "_law_turned", defArgs sLTurned, defBody sLTurned, defScope sLTurned, [], []⟩
def dLStep : He.DefD := ⟨("_law_step", none), "_law_step", "_law_step", defArgs sLStep, defBody sLStep, defScope sLStep, [], []⟩
def dLHanded : He.DefD := ⟨("_law_handed", none), "_law_handed", "_law_handed", defArgs sLHanded, defBody sLHanded, defScope sLHanded, [], []⟩
def dLTried : He.DefD := ⟨("_law_tried", none), "_law_tried", "_law_tried", defArgs sLTried, defBody sLTried, defScope sLTried, [], []⟩
def dLPairsAlike : He.DefD := ⟨("_law_pairs_alike", none), "_law_pairs_alike", "_law_pairs_alike", defArgs sLPairsAlike, defBody sLPairsAlike, defScope sLPairsAlike, [], []⟩
def dLPartsAlike : He.DefD := ⟨("_law_parts_alike", none), "_law_parts_alike", "_law_parts_alike", defArgs sLPartsAlike, defBody sLPartsAlike, defScope sLPartsAlike, [], []⟩
def dLDeedAlike : He.DefD := ⟨("_law_deed_alike", none), "_law_deed_alike", "_law_deed_alike", defArgs sLDeedAlike, defBody sLDeedAlike, defScope sLDeedAlike, [], []⟩
def dLAheadWhole : He.DefD := ⟨("_law_ahead_whole", none), "_law_ahead_whole", "_law_ahead_whole", defArgs sLAheadWhole, defBody sLAheadWhole, defScope sLAheadWhole, [], []⟩
def dLIsTriple : He.DefD := ⟨("_law_is_triple", none), "_law_is_triple", "_law_is_triple", defArgs sLIsTriple, defBody sLIsTriple, defScope sLIsTriple, [], []⟩
def dLMatchedWell : He.DefD := ⟨("_law_matched_well", none), "_law_matched_well", "_law_matched_well", defArgs sLMatchedWell, defBody sLMatchedWell, defScope sLMatchedWell, [], []⟩
def dLRowsAlike : He.DefD := ⟨("_law_rows_alike", none), "_law_rows_alike", "_law_rows_alike", defArgs sLRowsAlike, defBody sLRowsAlike, defScope sLRowsAlike, [], []⟩
def dLLinesTold : He.DefD := ⟨("_law_lines_told", none), "_law_lines_told", "_law_lines_told", defArgs sLLinesTold, defBody sLLinesTold, defScope sLLinesTold, [], []⟩
def dLStands : He.DefD := ⟨("_law_stands", none), "_law_stands", "_law_stands", defArgs sLStands, defBody sLStands, defScope sLStands, [], []⟩
def dLModelOf : He.DefD := ⟨("_law_model_of", none), "_law_model_of", "_law_model_of", defArgs sLModelOf, defBody sLModelOf, defScope sLModelOf, [], []⟩
def dLStandsBy : He.DefD := ⟨("_law_stands_by", none), "_law_stands_by", "_law_stands_by", defArgs sLStandsBy, defBody sLStandsBy, defScope sLStandsBy, [], []⟩
def dLBack : He.DefD := ⟨("_law_back", none), "_law_back", "_law_back", defArgs sLBack, defBody sLBack, defScope sLBack, [], []⟩
def dLOfOneClass : He.DefD := ⟨("_law_of_one_class", none), "_law_of_one_class", "_law_of_one_class", defArgs sLOfOneClass, defBody sLOfOneClass, defScope sLOfOneClass, [], []⟩
def dLNothing : He.DefD := ⟨("_law_nothing", none), "_law_nothing", "_law_nothing", defArgs sLNothing, defBody sLNothing, defScope sLNothing, [], []⟩
def dLDone : He.DefD := ⟨("_law_done", none), "_law_done", "_law_done", defArgs sLDone, defBody sLDone, defScope sLDone, [], []⟩
def dLPaidFirst : He.DefD := ⟨("_law_paid_first", none), "_law_paid_first", "_law_paid_first", defArgs sLPaidFirst, defBody sLPaidFirst, defScope sLPaidFirst, [], []⟩
def dLaw : He.DefD := ⟨("law", none), "law", "law", defArgs sLaw, defBody sLaw, defScope sLaw, [], []⟩
def fn : List He.DefD := ([dWorth, dIsItem, dCheckLine, dLineInit, dLineKept, dLineToCome, dLineKeptWorth, dLineCharge, dLineDeliver, dLineBring, dLineReduce, dLineNumbers] : List He.DefD) ++ ([dMatched, dOrderInit, dOrderOwing, dOrderLineOf, dOrderNeedOver, dOrderTurnLine, dOrderTake, dOrderMark, dOwn, dBookInit, dBookOrderOf, dBookDo] : List He.DefD) ++ ([dBookBegin, dBookShift, dBookOne, dBookNeedNumber, dBookUndo, dBookOrders, dBookTold, dBookPaid, dBookOwed, dBookRows, dBookSettled, dLCellAt] : List He.DefD) ++ ([dLWhole, dLLineWorth, dLOwedBy, dLMost, dLPlaceBy, dLNumberBy, dLItemBy, dLLinesBy, dLDeedBy, dLRefusal, dLTurned, dLStep] : List He.DefD) ++ ([dLHanded, dLTried, dLPairsAlike, dLPartsAlike, dLDeedAlike, dLAheadWhole, dLIsTriple, dLMatchedWell, dLRowsAlike, dLLinesTold, dLStands, dLModelOf] : List He.DefD) ++ ([dLStandsBy, dLBack, dLOfOneClass, dLNothing, dLDone, dLPaidFirst, dLaw] : List He.DefD)
def fa : List He.Fa := ([.glo "worth", .glo "is_item", .glo "check_line", .glo "matched", .glo "own", .glo "_law_cell_at", .glo "_law_whole", .glo "_law_line_worth", .glo "_law_owed_by", .glo "_law_most", .glo "_law_place_by", .glo "_law_number_by"] : List He.Fa) ++ ([.glo "_law_item_by", .glo "_law_lines_by", .glo "_law_deed_by", .glo "_law_refusal", .glo "_law_turned", .glo "_law_step", .glo "_law_handed", .glo "_law_tried", .glo "_law_pairs_alike", .glo "_law_parts_alike", .glo "_law_deed_alike", .glo "_law_ahead_whole"] : List He.Fa) ++ ([.glo "_law_is_triple", .glo "_law_matched_well", .glo "_law_rows_alike", .glo "_law_lines_told", .glo "_law_stands", .glo "_law_model_of", .glo "_law_stands_by", .glo "_law_back", .glo "_law_of_one_class", .glo "_law_nothing", .glo "_law_done", .glo "_law_paid_first"] : List He.Fa) ++ ([.glo "law", .free "ValueError", .free "bool", .free "int", .free "isinstance", .free "len", .free "list", .free "max", .free "min", .free "range", .free "str", .free "sum"] : List He.Fa) ++ ([.free "tuple", .str "LETTERS" "abcdefghijklmnopqrstuvwxyz", .int "MOST_LETTERS" 12, .int "MOST_PIECES" 1000000, .int "MOST_CENTS" 1000000000, .int "MOST_PACK" 1000, .glo "PARTS", .int "MOST_LINES" 20, .int "MOST_ORDERS" 40, .glo "FlowError", .exc "FlowError", .glo "NoDeed"] : List He.Fa) ++ ([.exc "NoDeed", .glo "NoLines", .exc "NoLines", .glo "NoItem", .exc "NoItem", .glo "NoNumber", .exc "NoNumber", .glo "FullBook", .exc "FullBook", .glo "NoOrder", .exc "NoOrder", .glo "SameOrder"] : List He.Fa) ++ ([.exc "SameOrder", .glo "NoLine", .exc "NoLine", .glo "TooMuch", .exc "TooMuch", .glo "NothingDone", .exc "NothingDone", .glo "Line", .cls "Line", .noat "Line" "item", .noat "Line" "ordered", .noat "Line" "cents"] : List He.Fa) ++ ([.noat "Line" "pack", .noat "Line" "sent", .noat "Line" "home", .noat "Line" "again", .noat "Line" "credited", .mkr "Line", .meth "Line" "kept", .meth "Line" "to_come", .meth "Line" "kept_worth", .meth "Line" "charge", .meth "Line" "deliver", .meth "Line" "bring"] : List He.Fa) ++ ([.meth "Line" "reduce", .meth "Line" "numbers", .glo "Order", .cls "Order", .noat "Order" "lines", .noat "Order" "money", .noat "Order" "marks", .mkr "Order", .meth "Order" "owing", .meth "Order" "line_of", .meth "Order" "need_over", .meth "Order" "turn_line"] : List He.Fa) ++ ([.meth "Order" "take", .meth "Order" "mark", .glo "Book", .cls "Book", .noat "Book" "each", .noat "Book" "trail", .mkr "Book", .meth "Book" "order_of", .meth "Book" "do", .meth "Book" "begin", .meth "Book" "shift", .meth "Book" "one"] : List He.Fa) ++ ([.meth "Book" "need_number", .meth "Book" "undo", .meth "Book" "orders", .meth "Book" "told", .meth "Book" "paid", .meth "Book" "owed", .meth "Book" "rows", .meth "Book" "settled", .exm "NoDeed" "FlowError" true, .exm "NoLines" "FlowError" true, .exm "NoItem" "FlowError" true, .exm "NoNumber" "FlowError" true] : List He.Fa) ++ ([.exm "FullBook" "FlowError" true, .exm "NoOrder" "FlowError" true, .exm "SameOrder" "FlowError" true, .exm "NoLine" "FlowError" true, .exm "TooMuch" "FlowError" true, .exm "NothingDone" "FlowError" true, .exm "NoDeed" "FullBook" false, .exm "NoLines" "FullBook" false, .exm "NoItem" "FullBook" false, .exm "NoNumber" "FullBook" false, .exm "FullBook" "FullBook" true, .exm "NoOrder" "FullBook" false] : List He.Fa) ++ ([.exm "SameOrder" "FullBook" false, .exm "NoLine" "FullBook" false, .exm "TooMuch" "FullBook" false, .exm "NothingDone" "FullBook" false, .exm "NoDeed" "NoDeed" true, .exm "NoLines" "NoDeed" false, .exm "NoItem" "NoDeed" false, .exm "NoNumber" "NoDeed" false, .exm "FullBook" "NoDeed" false, .exm "NoOrder" "NoDeed" false, .exm "SameOrder" "NoDeed" false, .exm "NoLine" "NoDeed" false] : List He.Fa) ++ ([.exm "TooMuch" "NoDeed" false, .exm "NothingDone" "NoDeed" false, .exm "NoDeed" "NoItem" false, .exm "NoLines" "NoItem" false, .exm "NoItem" "NoItem" true, .exm "NoNumber" "NoItem" false, .exm "FullBook" "NoItem" false, .exm "NoOrder" "NoItem" false, .exm "SameOrder" "NoItem" false, .exm "NoLine" "NoItem" false, .exm "TooMuch" "NoItem" false, .exm "NothingDone" "NoItem" false] : List He.Fa) ++ ([.exm "NoDeed" "NoLine" false, .exm "NoLines" "NoLine" false, .exm "NoItem" "NoLine" false, .exm "NoNumber" "NoLine" false, .exm "FullBook" "NoLine" false, .exm "NoOrder" "NoLine" false, .exm "SameOrder" "NoLine" false, .exm "NoLine" "NoLine" true, .exm "TooMuch" "NoLine" false, .exm "NothingDone" "NoLine" false, .exm "NoDeed" "NoLines" false, .exm "NoLines" "NoLines" true] : List He.Fa) ++ ([.exm "NoItem" "NoLines" false, .exm "NoNumber" "NoLines" false, .exm "FullBook" "NoLines" false, .exm "NoOrder" "NoLines" false, .exm "SameOrder" "NoLines" false, .exm "NoLine" "NoLines" false, .exm "TooMuch" "NoLines" false, .exm "NothingDone" "NoLines" false, .exm "NoDeed" "NoNumber" false, .exm "NoLines" "NoNumber" false, .exm "NoItem" "NoNumber" false, .exm "NoNumber" "NoNumber" true] : List He.Fa) ++ ([.exm "FullBook" "NoNumber" false, .exm "NoOrder" "NoNumber" false, .exm "SameOrder" "NoNumber" false, .exm "NoLine" "NoNumber" false, .exm "TooMuch" "NoNumber" false, .exm "NothingDone" "NoNumber" false, .exm "NoDeed" "NoOrder" false, .exm "NoLines" "NoOrder" false, .exm "NoItem" "NoOrder" false, .exm "NoNumber" "NoOrder" false, .exm "FullBook" "NoOrder" false, .exm "NoOrder" "NoOrder" true] : List He.Fa) ++ ([.exm "SameOrder" "NoOrder" false, .exm "NoLine" "NoOrder" false, .exm "TooMuch" "NoOrder" false, .exm "NothingDone" "NoOrder" false, .exm "NoDeed" "NothingDone" false, .exm "NoLines" "NothingDone" false, .exm "NoItem" "NothingDone" false, .exm "NoNumber" "NothingDone" false, .exm "FullBook" "NothingDone" false, .exm "NoOrder" "NothingDone" false, .exm "SameOrder" "NothingDone" false, .exm "NoLine" "NothingDone" false] : List He.Fa) ++ ([.exm "TooMuch" "NothingDone" false, .exm "NothingDone" "NothingDone" true, .exm "NoDeed" "SameOrder" false, .exm "NoLines" "SameOrder" false, .exm "NoItem" "SameOrder" false, .exm "NoNumber" "SameOrder" false, .exm "FullBook" "SameOrder" false, .exm "NoOrder" "SameOrder" false, .exm "SameOrder" "SameOrder" true, .exm "NoLine" "SameOrder" false, .exm "TooMuch" "SameOrder" false, .exm "NothingDone" "SameOrder" false] : List He.Fa) ++ ([.exm "NoDeed" "TooMuch" false, .exm "NoLines" "TooMuch" false, .exm "NoItem" "TooMuch" false, .exm "NoNumber" "TooMuch" false, .exm "FullBook" "TooMuch" false, .exm "NoOrder" "TooMuch" false, .exm "SameOrder" "TooMuch" false, .exm "NoLine" "TooMuch" false, .exm "TooMuch" "TooMuch" true, .exm "NothingDone" "TooMuch" false] : List He.Fa)
def ts : List He.Tab := [(fun K => He.ga K "PARTS", ["order", "deliver", "back", "swap", "credit", "pay", "refund", "move"])]
def parts : List (Str × Int) := [("order", 2), ("deliver", 4), ("back", 4), ("swap", 4), ("credit", 4), ("pay", 3), ("refund", 3), ("move", 4)]
def exNames : List Str := ["NoDeed", "NoLines", "NoItem", "NoNumber", "FullBook", "NoOrder", "SameOrder", "NoLine", "TooMuch", "NothingDone"]
def ex (K : PySem.W.Frag) : Bool := He.valsB K (He.ga K "PARTS") (parts.map fun p => (p.1, He.Dv.int p.2)) && excAll K exNames
abbrev R : PySem.W.OpenRow := PySem.W.OpenLaw.row PySem.Challenge.rw_orderflow_k09_taken_back
abbrev qv : Program := PySem.W.view R.prog [65]
abbrev hk : PySem.W.Hook := He.hookX 5 fa fn ts [] ex
def ob (s : PySem.W.SharedT) : He.AlX := He.obsX 5 fa fn ts [] ex (HandSHeadRun.getT s)
theorem ob_eq (s : PySem.W.SharedT) : ob s = hk.obs s.abs := He.obsX_eq (HandSHeadRun.getT_eq s)
def names : List PySem.Str := (["_wall", "FlowError", "NoDeed", "NoLines", "NoItem", "NoNumber", "FullBook", "NoOrder", "SameOrder", "NoLine", "TooMuch", "NothingDone"] : List PySem.Str) ++ (["LETTERS", "MOST_LETTERS", "MOST_PIECES", "MOST_CENTS", "MOST_PACK", "worth", "is_item", "check_line", "Line", "matched", "Order", "PARTS"] : List PySem.Str) ++ (["MOST_LINES", "MOST_ORDERS", "own", "Book", "_law_cell_at", "_law_whole", "_law_line_worth", "_law_owed_by", "_law_most", "_law_place_by", "_law_number_by", "_law_item_by"] : List PySem.Str) ++ (["_law_lines_by", "_law_deed_by", "_law_refusal", "_law_turned", "_law_step", "_law_handed", "_law_tried", "_law_pairs_alike", "_law_parts_alike", "_law_deed_alike", "_law_ahead_whole", "_law_is_triple"] : List PySem.Str) ++ (["_law_matched_well", "_law_rows_alike", "_law_lines_told", "_law_stands", "_law_model_of", "_law_stands_by", "_law_back", "_law_of_one_class", "_law_nothing", "_law_done", "_law_paid_first"] : List PySem.Str)
/-! ### what the walk asks of the text -/
def fdO (K : PySem.W.Frag) (p : Str × Option Str) : FuncData := match K.lookup (He.fAd K p) with
  | some ⟨_, _, .func fd, _⟩ => fd
  | _ => PySem.W.fnOf "" "" ⟨[], [], none, [], [], none, []⟩ [] default .none .none .none .none none .none .none
theorem fdO_of {K : PySem.W.Frag} {p : Str × Option Str} {x qual : Str} {params : Arguments} {body : List Stmt} {scope : Scope} {dvs : List V} {kws : List (Str × V)} {fd : FuncData} (F : FunD K x qual params body scope dvs kws (He.fAd K p) fd) :
    FunD K x qual params body scope dvs kws (He.fAd K p) (fdO K p) := by
  obtain ⟨oc, od, dV, kV, doc, pm, an, cdv, ct, osl, e, lk, _⟩ := F.ex
  have q : fdO K p = fd := by
    unfold fdO
    rw [lk]
  rw [q]
  exact F
theorem gi_ok {K : PySem.W.Frag} {h : Heap} {mg : Str → Option Value} (X : K.In h) (G : h.Ns mainGlobals mg) {x : Str} {i : Int} (c : (He.Fa.int x i).ok K = true) : ∃ u, mg x = some u ∧ RelV (.int i) u := by
  obtain ⟨t, h⟩ := He.int_ok X G c
  exact ⟨_, h, t, rfl⟩
theorem gs_ok {K : PySem.W.Frag} {h : Heap} {mg : Str → Option Value} (X : K.In h) (G : h.Ns mainGlobals mg) {x z : Str} (c : (He.Fa.str x z).ok K = true) : ∃ u, mg x = some u ∧ RelV (.str z) u := by
  obtain ⟨t, h⟩ := He.str_ok X G c
  exact ⟨_, h, t, rfl⟩
structure Tx (w : World) (K : PySem.W.Frag) (mg : Str → Option Value) : Prop where
  g_Worth : mg "worth" = some (.ref (He.ga K "worth"))
  g_IsItem : mg "is_item" = some (.ref (He.ga K "is_item"))
  g_CheckLine : mg "check_line" = some (.ref (He.ga K "check_line"))
  g_Matched : mg "matched" = some (.ref (He.ga K "matched"))
  g_Own : mg "own" = some (.ref (He.ga K "own"))
  g_LCellAt : mg "_law_cell_at" = some (.ref (He.ga K "_law_cell_at"))
  g_LWhole : mg "_law_whole" = some (.ref (He.ga K "_law_whole"))
  g_LLineWorth : mg "_law_line_worth" = some (.ref (He.ga K "_law_line_worth"))
  g_LOwedBy : mg "_law_owed_by" = some (.ref (He.ga K "_law_owed_by"))
  g_LMost : mg "_law_most" = some (.ref (He.ga K "_law_most"))
  g_LPlaceBy : mg "_law_place_by" = some (.ref (He.ga K "_law_place_by"))
  g_LNumberBy : mg "_law_number_by" = some (.ref (He.ga K "_law_number_by"))
  g_LItemBy : mg "_law_item_by" = some (.ref (He.ga K "_law_item_by"))
  g_LLinesBy : mg "_law_lines_by" = some (.ref (He.ga K "_law_lines_by"))
  g_LDeedBy : mg "_law_deed_by" = some (.ref (He.ga K "_law_deed_by"))
  g_LRefusal : mg "_law_refusal" = some (.ref (He.ga K "_law_refusal"))
  g_LTurned : mg "_law_turned" = some (.ref (He.ga K "_law_turned"))
  g_LStep : mg "_law_step" = some (.ref (He.ga K "_law_step"))
  g_LHanded : mg "_law_handed" = some (.ref (He.ga K "_law_handed"))
  g_LTried : mg "_law_tried" = some (.ref (He.ga K "_law_tried"))
  g_LPairsAlike : mg "_law_pairs_alike" = some (.ref (He.ga K "_law_pairs_alike"))
  g_LPartsAlike : mg "_law_parts_alike" = some (.ref (He.ga K "_law_parts_alike"))
  g_LDeedAlike : mg "_law_deed_alike" = some (.ref (He.ga K "_law_deed_alike"))
  g_LAheadWhole : mg "_law_ahead_whole" = some (.ref (He.ga K "_law_ahead_whole"))
  g_LIsTriple : mg "_law_is_triple" = some (.ref (He.ga K "_law_is_triple"))
  g_LMatchedWell : mg "_law_matched_well" = some (.ref (He.ga K "_law_matched_well"))
  g_LRowsAlike : mg "_law_rows_alike" = some (.ref (He.ga K "_law_rows_alike"))
  g_LLinesTold : mg "_law_lines_told" = some (.ref (He.ga K "_law_lines_told"))
  g_LStands : mg "_law_stands" = some (.ref (He.ga K "_law_stands"))
  g_LModelOf : mg "_law_model_of" = some (.ref (He.ga K "_law_model_of"))
  g_LStandsBy : mg "_law_stands_by" = some (.ref (He.ga K "_law_stands_by"))
  g_LBack : mg "_law_back" = some (.ref (He.ga K "_law_back"))
  g_LOfOneClass : mg "_law_of_one_class" = some (.ref (He.ga K "_law_of_one_class"))
  g_LNothing : mg "_law_nothing" = some (.ref (He.ga K "_law_nothing"))
  g_LDone : mg "_law_done" = some (.ref (He.ga K "_law_done"))
  g_LPaidFirst : mg "_law_paid_first" = some (.ref (He.ga K "_law_paid_first"))
  g_Law : mg "law" = some (.ref (He.ga K "law"))
  b_ValueError : mg "ValueError" = none
  b_bool : mg "bool" = none
  b_int : mg "int" = none
  b_isinstance : mg "isinstance" = none
  b_len : mg "len" = none
  b_list : mg "list" = none
  b_max : mg "max" = none
  b_min : mg "min" = none
  b_range : mg "range" = none
  b_str : mg "str" = none
  b_sum : mg "sum" = none
  b_tuple : mg "tuple" = none
  c_LETTERS : ∃ u, mg "LETTERS" = some u ∧ RelV (.str "abcdefghijklmnopqrstuvwxyz") u
  c_MOST_LETTERS : ∃ u, mg "MOST_LETTERS" = some u ∧ RelV (.int 12) u
  c_MOST_PIECES : ∃ u, mg "MOST_PIECES" = some u ∧ RelV (.int 1000000) u
  c_MOST_CENTS : ∃ u, mg "MOST_CENTS" = some u ∧ RelV (.int 1000000000) u
  c_MOST_PACK : ∃ u, mg "MOST_PACK" = some u ∧ RelV (.int 1000) u
  c_PARTS : mg "PARTS" = some (.ref (He.ga K "PARTS"))
  c_MOST_LINES : ∃ u, mg "MOST_LINES" = some u ∧ RelV (.int 20) u
  c_MOST_ORDERS : ∃ u, mg "MOST_ORDERS" = some u ∧ RelV (.int 40) u
  g_FlowError : mg "FlowError" = some (.ref (He.ga K "FlowError"))
  x_FlowError : PySem.W.excIn K (He.ga K "FlowError") He.veBase "ValueError.__new__" = true ∧ PySem.W.keepIn K (.ref (He.ga K "FlowError")) = true ∧ PySem.W.subIn K (.ref (He.ga K "FlowError")) (.type "BaseException") = some true ∧ PySem.W.typeIn K (.ref (He.ga K "FlowError")) = some (.type "type")
  g_NoDeed : mg "NoDeed" = some (.ref (He.ga K "NoDeed"))
  x_NoDeed : PySem.W.excIn K (He.ga K "NoDeed") He.veBase "ValueError.__new__" = true ∧ PySem.W.keepIn K (.ref (He.ga K "NoDeed")) = true ∧ PySem.W.subIn K (.ref (He.ga K "NoDeed")) (.type "BaseException") = some true ∧ PySem.W.typeIn K (.ref (He.ga K "NoDeed")) = some (.type "type")
  g_NoLines : mg "NoLines" = some (.ref (He.ga K "NoLines"))
  x_NoLines : PySem.W.excIn K (He.ga K "NoLines") He.veBase "ValueError.__new__" = true ∧ PySem.W.keepIn K (.ref (He.ga K "NoLines")) = true ∧ PySem.W.subIn K (.ref (He.ga K "NoLines")) (.type "BaseException") = some true ∧ PySem.W.typeIn K (.ref (He.ga K "NoLines")) = some (.type "type")
  g_NoItem : mg "NoItem" = some (.ref (He.ga K "NoItem"))
  x_NoItem : PySem.W.excIn K (He.ga K "NoItem") He.veBase "ValueError.__new__" = true ∧ PySem.W.keepIn K (.ref (He.ga K "NoItem")) = true ∧ PySem.W.subIn K (.ref (He.ga K "NoItem")) (.type "BaseException") = some true ∧ PySem.W.typeIn K (.ref (He.ga K "NoItem")) = some (.type "type")
  g_NoNumber : mg "NoNumber" = some (.ref (He.ga K "NoNumber"))
  x_NoNumber : PySem.W.excIn K (He.ga K "NoNumber") He.veBase "ValueError.__new__" = true ∧ PySem.W.keepIn K (.ref (He.ga K "NoNumber")) = true ∧ PySem.W.subIn K (.ref (He.ga K "NoNumber")) (.type "BaseException") = some true ∧ PySem.W.typeIn K (.ref (He.ga K "NoNumber")) = some (.type "type")
  g_FullBook : mg "FullBook" = some (.ref (He.ga K "FullBook"))
  x_FullBook : PySem.W.excIn K (He.ga K "FullBook") He.veBase "ValueError.__new__" = true ∧ PySem.W.keepIn K (.ref (He.ga K "FullBook")) = true ∧ PySem.W.subIn K (.ref (He.ga K "FullBook")) (.type "BaseException") = some true ∧ PySem.W.typeIn K (.ref (He.ga K "FullBook")) = some (.type "type")
  g_NoOrder : mg "NoOrder" = some (.ref (He.ga K "NoOrder"))
  x_NoOrder : PySem.W.excIn K (He.ga K "NoOrder") He.veBase "ValueError.__new__" = true ∧ PySem.W.keepIn K (.ref (He.ga K "NoOrder")) = true ∧ PySem.W.subIn K (.ref (He.ga K "NoOrder")) (.type "BaseException") = some true ∧ PySem.W.typeIn K (.ref (He.ga K "NoOrder")) = some (.type "type")
  g_SameOrder : mg "SameOrder" = some (.ref (He.ga K "SameOrder"))
  x_SameOrder : PySem.W.excIn K (He.ga K "SameOrder") He.veBase "ValueError.__new__" = true ∧ PySem.W.keepIn K (.ref (He.ga K "SameOrder")) = true ∧ PySem.W.subIn K (.ref (He.ga K "SameOrder")) (.type "BaseException") = some true ∧ PySem.W.typeIn K (.ref (He.ga K "SameOrder")) = some (.type "type")
  g_NoLine : mg "NoLine" = some (.ref (He.ga K "NoLine"))
  x_NoLine : PySem.W.excIn K (He.ga K "NoLine") He.veBase "ValueError.__new__" = true ∧ PySem.W.keepIn K (.ref (He.ga K "NoLine")) = true ∧ PySem.W.subIn K (.ref (He.ga K "NoLine")) (.type "BaseException") = some true ∧ PySem.W.typeIn K (.ref (He.ga K "NoLine")) = some (.type "type")
  g_TooMuch : mg "TooMuch" = some (.ref (He.ga K "TooMuch"))
  x_TooMuch : PySem.W.excIn K (He.ga K "TooMuch") He.veBase "ValueError.__new__" = true ∧ PySem.W.keepIn K (.ref (He.ga K "TooMuch")) = true ∧ PySem.W.subIn K (.ref (He.ga K "TooMuch")) (.type "BaseException") = some true ∧ PySem.W.typeIn K (.ref (He.ga K "TooMuch")) = some (.type "type")
  g_NothingDone : mg "NothingDone" = some (.ref (He.ga K "NothingDone"))
  x_NothingDone : PySem.W.excIn K (He.ga K "NothingDone") He.veBase "ValueError.__new__" = true ∧ PySem.W.keepIn K (.ref (He.ga K "NothingDone")) = true ∧ PySem.W.subIn K (.ref (He.ga K "NothingDone")) (.type "BaseException") = some true ∧ PySem.W.typeIn K (.ref (He.ga K "NothingDone")) = some (.type "type")
  g_Line : mg "Line" = some (.ref (He.ga K "Line"))
  cl_Line : Cls K (He.ga K "Line")
  n_Line_item : NoAttr K (He.ga K "Line") "item"
  n_Line_ordered : NoAttr K (He.ga K "Line") "ordered"
  n_Line_cents : NoAttr K (He.ga K "Line") "cents"
  n_Line_pack : NoAttr K (He.ga K "Line") "pack"
  n_Line_sent : NoAttr K (He.ga K "Line") "sent"
  n_Line_home : NoAttr K (He.ga K "Line") "home"
  n_Line_again : NoAttr K (He.ga K "Line") "again"
  n_Line_credited : NoAttr K (He.ga K "Line") "credited"
  mk_Line : Mk K (He.ga K "Line") (He.ma K (He.ga K "Line") "__init__")
  m_Line_kept : Meth K (He.ga K "Line") "kept" (He.ma K (He.ga K "Line") "kept")
  m_Line_to_come : Meth K (He.ga K "Line") "to_come" (He.ma K (He.ga K "Line") "to_come")
  m_Line_kept_worth : Meth K (He.ga K "Line") "kept_worth" (He.ma K (He.ga K "Line") "kept_worth")
  m_Line_charge : Meth K (He.ga K "Line") "charge" (He.ma K (He.ga K "Line") "charge")
  m_Line_deliver : Meth K (He.ga K "Line") "deliver" (He.ma K (He.ga K "Line") "deliver")
  m_Line_bring : Meth K (He.ga K "Line") "bring" (He.ma K (He.ga K "Line") "bring")
  m_Line_reduce : Meth K (He.ga K "Line") "reduce" (He.ma K (He.ga K "Line") "reduce")
  m_Line_numbers : Meth K (He.ga K "Line") "numbers" (He.ma K (He.ga K "Line") "numbers")
  g_Order : mg "Order" = some (.ref (He.ga K "Order"))
  cl_Order : Cls K (He.ga K "Order")
  n_Order_lines : NoAttr K (He.ga K "Order") "lines"
  n_Order_money : NoAttr K (He.ga K "Order") "money"
  n_Order_marks : NoAttr K (He.ga K "Order") "marks"
  mk_Order : Mk K (He.ga K "Order") (He.ma K (He.ga K "Order") "__init__")
  m_Order_owing : Meth K (He.ga K "Order") "owing" (He.ma K (He.ga K "Order") "owing")
  m_Order_line_of : Meth K (He.ga K "Order") "line_of" (He.ma K (He.ga K "Order") "line_of")
  m_Order_need_over : Meth K (He.ga K "Order") "need_over" (He.ma K (He.ga K "Order") "need_over")
  m_Order_turn_line : Meth K (He.ga K "Order") "turn_line" (He.ma K (He.ga K "Order") "turn_line")
  m_Order_take : Meth K (He.ga K "Order") "take" (He.ma K (He.ga K "Order") "take")
  m_Order_mark : Meth K (He.ga K "Order") "mark" (He.ma K (He.ga K "Order") "mark")
  g_Book : mg "Book" = some (.ref (He.ga K "Book"))
  cl_Book : Cls K (He.ga K "Book")
  n_Book_each : NoAttr K (He.ga K "Book") "each"
  n_Book_trail : NoAttr K (He.ga K "Book") "trail"
  mk_Book : Mk K (He.ga K "Book") (He.ma K (He.ga K "Book") "__init__")
  m_Book_order_of : Meth K (He.ga K "Book") "order_of" (He.ma K (He.ga K "Book") "order_of")
  m_Book_do : Meth K (He.ga K "Book") "do" (He.ma K (He.ga K "Book") "do")
  m_Book_begin : Meth K (He.ga K "Book") "begin" (He.ma K (He.ga K "Book") "begin")
  m_Book_shift : Meth K (He.ga K "Book") "shift" (He.ma K (He.ga K "Book") "shift")
  m_Book_one : Meth K (He.ga K "Book") "one" (He.ma K (He.ga K "Book") "one")
  m_Book_need_number : Meth K (He.ga K "Book") "need_number" (He.ma K (He.ga K "Book") "need_number")
  m_Book_undo : Meth K (He.ga K "Book") "undo" (He.ma K (He.ga K "Book") "undo")
  m_Book_orders : Meth K (He.ga K "Book") "orders" (He.ma K (He.ga K "Book") "orders")
  m_Book_told : Meth K (He.ga K "Book") "told" (He.ma K (He.ga K "Book") "told")
  m_Book_paid : Meth K (He.ga K "Book") "paid" (He.ma K (He.ga K "Book") "paid")
  m_Book_owed : Meth K (He.ga K "Book") "owed" (He.ma K (He.ga K "Book") "owed")
  m_Book_rows : Meth K (He.ga K "Book") "rows" (He.ma K (He.ga K "Book") "rows")
  m_Book_settled : Meth K (He.ga K "Book") "settled" (He.ma K (He.ga K "Book") "settled")
  e_NoDeed_FlowError : PySem.W.exmOne K (.ref (He.ga K "NoDeed")) (.ref (He.ga K "FlowError")) = some true
  e_NoLines_FlowError : PySem.W.exmOne K (.ref (He.ga K "NoLines")) (.ref (He.ga K "FlowError")) = some true
  e_NoItem_FlowError : PySem.W.exmOne K (.ref (He.ga K "NoItem")) (.ref (He.ga K "FlowError")) = some true
  e_NoNumber_FlowError : PySem.W.exmOne K (.ref (He.ga K "NoNumber")) (.ref (He.ga K "FlowError")) = some true
  e_FullBook_FlowError : PySem.W.exmOne K (.ref (He.ga K "FullBook")) (.ref (He.ga K "FlowError")) = some true
  e_NoOrder_FlowError : PySem.W.exmOne K (.ref (He.ga K "NoOrder")) (.ref (He.ga K "FlowError")) = some true
  e_SameOrder_FlowError : PySem.W.exmOne K (.ref (He.ga K "SameOrder")) (.ref (He.ga K "FlowError")) = some true
  e_NoLine_FlowError : PySem.W.exmOne K (.ref (He.ga K "NoLine")) (.ref (He.ga K "FlowError")) = some true
  e_TooMuch_FlowError : PySem.W.exmOne K (.ref (He.ga K "TooMuch")) (.ref (He.ga K "FlowError")) = some true
  e_NothingDone_FlowError : PySem.W.exmOne K (.ref (He.ga K "NothingDone")) (.ref (He.ga K "FlowError")) = some true
  e_NoDeed_FullBook : PySem.W.exmOne K (.ref (He.ga K "NoDeed")) (.ref (He.ga K "FullBook")) = some false
  e_NoLines_FullBook : PySem.W.exmOne K (.ref (He.ga K "NoLines")) (.ref (He.ga K "FullBook")) = some false
  e_NoItem_FullBook : PySem.W.exmOne K (.ref (He.ga K "NoItem")) (.ref (He.ga K "FullBook")) = some false
  e_NoNumber_FullBook : PySem.W.exmOne K (.ref (He.ga K "NoNumber")) (.ref (He.ga K "FullBook")) = some false
  e_FullBook_FullBook : PySem.W.exmOne K (.ref (He.ga K "FullBook")) (.ref (He.ga K "FullBook")) = some true
  e_NoOrder_FullBook : PySem.W.exmOne K (.ref (He.ga K "NoOrder")) (.ref (He.ga K "FullBook")) = some false
  e_SameOrder_FullBook : PySem.W.exmOne K (.ref (He.ga K "SameOrder")) (.ref (He.ga K "FullBook")) = some false
  e_NoLine_FullBook : PySem.W.exmOne K (.ref (He.ga K "NoLine")) (.ref (He.ga K "FullBook")) = some false
  e_TooMuch_FullBook : PySem.W.exmOne K (.ref (He.ga K "TooMuch")) (.ref (He.ga K "FullBook")) = some false
  e_NothingDone_FullBook : PySem.W.exmOne K (.ref (He.ga K "NothingDone")) (.ref (He.ga K "FullBook")) = some false
  e_NoDeed_NoDeed : PySem.W.exmOne K (.ref (He.ga K "NoDeed")) (.ref (He.ga K "NoDeed")) = some true
  e_NoLines_NoDeed : PySem.W.exmOne K (.ref (He.ga K "NoLines")) (.ref (He.ga K "NoDeed")) = some false
  e_NoItem_NoDeed : PySem.W.exmOne K (.ref (He.ga K "NoItem")) (.ref (He.ga K "NoDeed")) = some false
  e_NoNumber_NoDeed : PySem.W.exmOne K (.ref (He.ga K "NoNumber")) (.ref (He.ga K "NoDeed")) = some false
  e_FullBook_NoDeed : PySem.W.exmOne K (.ref (He.ga K "FullBook")) (.ref (He.ga K "NoDeed")) = some false
  e_NoOrder_NoDeed : PySem.W.exmOne K (.ref (He.ga K "NoOrder")) (.ref (He.ga K "NoDeed")) = some false
  e_SameOrder_NoDeed : PySem.W.exmOne K (.ref (He.ga K "SameOrder")) (.ref (He.ga K "NoDeed")) = some false
  e_NoLine_NoDeed : PySem.W.exmOne K (.ref (He.ga K "NoLine")) (.ref (He.ga K "NoDeed")) = some false
  e_TooMuch_NoDeed : PySem.W.exmOne K (.ref (He.ga K "TooMuch")) (.ref (He.ga K "NoDeed")) = some false
  e_NothingDone_NoDeed : PySem.W.exmOne K (.ref (He.ga K "NothingDone")) (.ref (He.ga K "NoDeed")) = some false
  e_NoDeed_NoItem : PySem.W.exmOne K (.ref (He.ga K "NoDeed")) (.ref (He.ga K "NoItem")) = some false
  e_NoLines_NoItem : PySem.W.exmOne K (.ref (He.ga K "NoLines")) (.ref (He.ga K "NoItem")) = some false
  e_NoItem_NoItem : PySem.W.exmOne K (.ref (He.ga K "NoItem")) (.ref (He.ga K "NoItem")) = some true
  e_NoNumber_NoItem : PySem.W.exmOne K (.ref (He.ga K "NoNumber")) (.ref (He.ga K "NoItem")) = some false
  e_FullBook_NoItem : PySem.W.exmOne K (.ref (He.ga K "FullBook")) (.ref (He.ga K "NoItem")) = some false
  e_NoOrder_NoItem : PySem.W.exmOne K (.ref (He.ga K "NoOrder")) (.ref (He.ga K "NoItem")) = some false
  e_SameOrder_NoItem : PySem.W.exmOne K (.ref (He.ga K "SameOrder")) (.ref (He.ga K "NoItem")) = some false
  e_NoLine_NoItem : PySem.W.exmOne K (.ref (He.ga K "NoLine")) (.ref (He.ga K "NoItem")) = some false
  e_TooMuch_NoItem : PySem.W.exmOne K (.ref (He.ga K "TooMuch")) (.ref (He.ga K "NoItem")) = some false
  e_NothingDone_NoItem : PySem.W.exmOne K (.ref (He.ga K "NothingDone")) (.ref (He.ga K "NoItem")) = some false
  e_NoDeed_NoLine : PySem.W.exmOne K (.ref (He.ga K "NoDeed")) (.ref (He.ga K "NoLine")) = some false
  e_NoLines_NoLine : PySem.W.exmOne K (.ref (He.ga K "NoLines")) (.ref (He.ga K "NoLine")) = some false
  e_NoItem_NoLine : PySem.W.exmOne K (.ref (He.ga K "NoItem")) (.ref (He.ga K "NoLine")) = some false
  e_NoNumber_NoLine : PySem.W.exmOne K (.ref (He.ga K "NoNumber")) (.ref (He.ga K "NoLine")) = some false
  e_FullBook_NoLine : PySem.W.exmOne K (.ref (He.ga K "FullBook")) (.ref (He.ga K "NoLine")) = some false
  e_NoOrder_NoLine : PySem.W.exmOne K (.ref (He.ga K "NoOrder")) (.ref (He.ga K "NoLine")) = some false
  e_SameOrder_NoLine : PySem.W.exmOne K (.ref (He.ga K "SameOrder")) (.ref (He.ga K "NoLine")) = some false
  e_NoLine_NoLine : PySem.W.exmOne K (.ref (He.ga K "NoLine")) (.ref (He.ga K "NoLine")) = some true
  e_TooMuch_NoLine : PySem.W.exmOne K (.ref (He.ga K "TooMuch")) (.ref (He.ga K "NoLine")) = some false
  e_NothingDone_NoLine : PySem.W.exmOne K (.ref (He.ga K "NothingDone")) (.ref (He.ga K "NoLine")) = some false
  e_NoDeed_NoLines : PySem.W.exmOne K (.ref (He.ga K "NoDeed")) (.ref (He.ga K "NoLines")) = some false
  e_NoLines_NoLines : PySem.W.exmOne K (.ref (He.ga K "NoLines")) (.ref (He.ga K "NoLines")) = some true
  e_NoItem_NoLines : PySem.W.exmOne K (.ref (He.ga K "NoItem")) (.ref (He.ga K "NoLines")) = some false
  e_NoNumber_NoLines : PySem.W.exmOne K (.ref (He.ga K "NoNumber")) (.ref (He.ga K "NoLines")) = some false
  e_FullBook_NoLines : PySem.W.exmOne K (.ref (He.ga K "FullBook")) (.ref (He.ga K "NoLines")) = some false
  e_NoOrder_NoLines : PySem.W.exmOne K (.ref (He.ga K "NoOrder")) (.ref (He.ga K "NoLines")) = some false
  e_SameOrder_NoLines : PySem.W.exmOne K (.ref (He.ga K "SameOrder")) (.ref (He.ga K "NoLines")) = some false
  e_NoLine_NoLines : PySem.W.exmOne K (.ref (He.ga K "NoLine")) (.ref (He.ga K "NoLines")) = some false
  e_TooMuch_NoLines : PySem.W.exmOne K (.ref (He.ga K "TooMuch")) (.ref (He.ga K "NoLines")) = some false
  e_NothingDone_NoLines : PySem.W.exmOne K (.ref (He.ga K "NothingDone")) (.ref (He.ga K "NoLines")) = some false
  e_NoDeed_NoNumber : PySem.W.exmOne K (.ref (He.ga K "NoDeed")) (.ref (He.ga K "NoNumber")) = some false
  e_NoLines_NoNumber : PySem.W.exmOne K (.ref (He.ga K "NoLines")) (.ref (He.ga K "NoNumber")) = some false
  e_NoItem_NoNumber : PySem.W.exmOne K (.ref (He.ga K "NoItem")) (.ref (He.ga K "NoNumber")) = some false
  e_NoNumber_NoNumber : PySem.W.exmOne K (.ref (He.ga K "NoNumber")) (.ref (He.ga K "NoNumber")) = some true
  e_FullBook_NoNumber : PySem.W.exmOne K (.ref (He.ga K "FullBook")) (.ref (He.ga K "NoNumber")) = some false
  e_NoOrder_NoNumber : PySem.W.exmOne K (.ref (He.ga K "NoOrder")) (.ref (He.ga K "NoNumber")) = some false
  e_SameOrder_NoNumber : PySem.W.exmOne K (.ref (He.ga K "SameOrder")) (.ref (He.ga K "NoNumber")) = some false
  e_NoLine_NoNumber : PySem.W.exmOne K (.ref (He.ga K "NoLine")) (.ref (He.ga K "NoNumber")) = some false
  e_TooMuch_NoNumber : PySem.W.exmOne K (.ref (He.ga K "TooMuch")) (.ref (He.ga K "NoNumber")) = some false
  e_NothingDone_NoNumber : PySem.W.exmOne K (.ref (He.ga K "NothingDone")) (.ref (He.ga K "NoNumber")) = some false
  e_NoDeed_NoOrder : PySem.W.exmOne K (.ref (He.ga K "NoDeed")) (.ref (He.ga K "NoOrder")) = some false
  e_NoLines_NoOrder : PySem.W.exmOne K (.ref (He.ga K "NoLines")) (.ref (He.ga K "NoOrder")) = some false
  e_NoItem_NoOrder : PySem.W.exmOne K (.ref (He.ga K "NoItem")) (.ref (He.ga K "NoOrder")) = some false
  e_NoNumber_NoOrder : PySem.W.exmOne K (.ref (He.ga K "NoNumber")) (.ref (He.ga K "NoOrder")) = some false
  e_FullBook_NoOrder : PySem.W.exmOne K (.ref (He.ga K "FullBook")) (.ref (He.ga K "NoOrder")) = some false
  e_NoOrder_NoOrder : PySem.W.exmOne K (.ref (He.ga K "NoOrder")) (.ref (He.ga K "NoOrder")) = some true
  e_SameOrder_NoOrder : PySem.W.exmOne K (.ref (He.ga K "SameOrder")) (.ref (He.ga K "NoOrder")) = some false
  e_NoLine_NoOrder : PySem.W.exmOne K (.ref (He.ga K "NoLine")) (.ref (He.ga K "NoOrder")) = some false
  e_TooMuch_NoOrder : PySem.W.exmOne K (.ref (He.ga K "TooMuch")) (.ref (He.ga K "NoOrder")) = some false
  e_NothingDone_NoOrder : PySem.W.exmOne K (.ref (He.ga K "NothingDone")) (.ref (He.ga K "NoOrder")) = some false
  e_NoDeed_NothingDone : PySem.W.exmOne K (.ref (He.ga K "NoDeed")) (.ref (He.ga K "NothingDone")) = some false
  e_NoLines_NothingDone : PySem.W.exmOne K (.ref (He.ga K "NoLines")) (.ref (He.ga K "NothingDone")) = some false
  e_NoItem_NothingDone : PySem.W.exmOne K (.ref (He.ga K "NoItem")) (.ref (He.ga K "NothingDone")) = some false
  e_NoNumber_NothingDone : PySem.W.exmOne K (.ref (He.ga K "NoNumber")) (.ref (He.ga K "NothingDone")) = some false
  e_FullBook_NothingDone : PySem.W.exmOne K (.ref (He.ga K "FullBook")) (.ref (He.ga K "NothingDone")) = some false
  e_NoOrder_NothingDone : PySem.W.exmOne K (.ref (He.ga K "NoOrder")) (.ref (He.ga K "NothingDone")) = some false
  e_SameOrder_NothingDone : PySem.W.exmOne K (.ref (He.ga K "SameOrder")) (.ref (He.ga K "NothingDone")) = some false
  e_NoLine_NothingDone : PySem.W.exmOne K (.ref (He.ga K "NoLine")) (.ref (He.ga K "NothingDone")) = some false
  e_TooMuch_NothingDone : PySem.W.exmOne K (.ref (He.ga K "TooMuch")) (.ref (He.ga K "NothingDone")) = some false
  e_NothingDone_NothingDone : PySem.W.exmOne K (.ref (He.ga K "NothingDone")) (.ref (He.ga K "NothingDone")) = some true
  e_NoDeed_SameOrder : PySem.W.exmOne K (.ref (He.ga K "NoDeed")) (.ref (He.ga K "SameOrder")) = some false
  e_NoLines_SameOrder : PySem.W.exmOne K (.ref (He.ga K "NoLines")) (.ref (He.ga K "SameOrder")) = some false
  e_NoItem_SameOrder : PySem.W.exmOne K (.ref (He.ga K "NoItem")) (.ref (He.ga K "SameOrder")) = some false
  e_NoNumber_SameOrder : PySem.W.exmOne K (.ref (He.ga K "NoNumber")) (.ref (He.ga K "SameOrder")) = some false
  e_FullBook_SameOrder : PySem.W.exmOne K (.ref (He.ga K "FullBook")) (.ref (He.ga K "SameOrder")) = some false
  e_NoOrder_SameOrder : PySem.W.exmOne K (.ref (He.ga K "NoOrder")) (.ref (He.ga K "SameOrder")) = some false
  e_SameOrder_SameOrder : PySem.W.exmOne K (.ref (He.ga K "SameOrder")) (.ref (He.ga K "SameOrder")) = some true
  e_NoLine_SameOrder : PySem.W.exmOne K (.ref (He.ga K "NoLine")) (.ref (He.ga K "SameOrder")) = some false
  e_TooMuch_SameOrder : PySem.W.exmOne K (.ref (He.ga K "TooMuch")) (.ref (He.ga K "SameOrder")) = some false
  e_NothingDone_SameOrder : PySem.W.exmOne K (.ref (He.ga K "NothingDone")) (.ref (He.ga K "SameOrder")) = some false
  e_NoDeed_TooMuch : PySem.W.exmOne K (.ref (He.ga K "NoDeed")) (.ref (He.ga K "TooMuch")) = some false
  e_NoLines_TooMuch : PySem.W.exmOne K (.ref (He.ga K "NoLines")) (.ref (He.ga K "TooMuch")) = some false
  e_NoItem_TooMuch : PySem.W.exmOne K (.ref (He.ga K "NoItem")) (.ref (He.ga K "TooMuch")) = some false
  e_NoNumber_TooMuch : PySem.W.exmOne K (.ref (He.ga K "NoNumber")) (.ref (He.ga K "TooMuch")) = some false
  e_FullBook_TooMuch : PySem.W.exmOne K (.ref (He.ga K "FullBook")) (.ref (He.ga K "TooMuch")) = some false
  e_NoOrder_TooMuch : PySem.W.exmOne K (.ref (He.ga K "NoOrder")) (.ref (He.ga K "TooMuch")) = some false
  e_SameOrder_TooMuch : PySem.W.exmOne K (.ref (He.ga K "SameOrder")) (.ref (He.ga K "TooMuch")) = some false
  e_NoLine_TooMuch : PySem.W.exmOne K (.ref (He.ga K "NoLine")) (.ref (He.ga K "TooMuch")) = some false
  e_TooMuch_TooMuch : PySem.W.exmOne K (.ref (He.ga K "TooMuch")) (.ref (He.ga K "TooMuch")) = some true
  e_NothingDone_TooMuch : PySem.W.exmOne K (.ref (He.ga K "NothingDone")) (.ref (He.ga K "TooMuch")) = some false
  f_Worth : FunD K dWorth.name dWorth.qual dWorth.params dWorth.body dWorth.scope [] [] (He.fAd K dWorth.at_) (fdO K dWorth.at_)
  f_IsItem : FunD K dIsItem.name dIsItem.qual dIsItem.params dIsItem.body dIsItem.scope [] [] (He.fAd K dIsItem.at_) (fdO K dIsItem.at_)
  f_CheckLine : FunD K dCheckLine.name dCheckLine.qual dCheckLine.params dCheckLine.body dCheckLine.scope [] [] (He.fAd K dCheckLine.at_) (fdO K dCheckLine.at_)
  f_LineInit : FunD K dLineInit.name dLineInit.qual dLineInit.params dLineInit.body dLineInit.scope [] [] (He.fAd K dLineInit.at_) (fdO K dLineInit.at_)
  f_LineKept : FunD K dLineKept.name dLineKept.qual dLineKept.params dLineKept.body dLineKept.scope [] [] (He.fAd K dLineKept.at_) (fdO K dLineKept.at_)
  f_LineToCome : FunD K dLineToCome.name dLineToCome.qual dLineToCome.params dLineToCome.body dLineToCome.scope [] [] (He.fAd K dLineToCome.at_) (fdO K dLineToCome.at_)
  f_LineKeptWorth : FunD K dLineKeptWorth.name dLineKeptWorth.qual dLineKeptWorth.params dLineKeptWorth.body dLineKeptWorth.scope [] [] (He.fAd K dLineKeptWorth.at_) (fdO K dLineKeptWorth.at_)
  f_LineCharge : FunD K dLineCharge.name dLineCharge.qual dLineCharge.params dLineCharge.body dLineCharge.scope [] [] (He.fAd K dLineCharge.at_) (fdO K dLineCharge.at_)
  f_LineDeliver : FunD K dLineDeliver.name dLineDeliver.qual dLineDeliver.params dLineDeliver.body dLineDeliver.scope [] [] (He.fAd K dLineDeliver.at_) (fdO K dLineDeliver.at_)
  f_LineBring : FunD K dLineBring.name dLineBring.qual dLineBring.params dLineBring.body dLineBring.scope [] [] (He.fAd K dLineBring.at_) (fdO K dLineBring.at_)
  f_LineReduce : FunD K dLineReduce.name dLineReduce.qual dLineReduce.params dLineReduce.body dLineReduce.scope [] [] (He.fAd K dLineReduce.at_) (fdO K dLineReduce.at_)
  f_LineNumbers : FunD K dLineNumbers.name dLineNumbers.qual dLineNumbers.params dLineNumbers.body dLineNumbers.scope [] [] (He.fAd K dLineNumbers.at_) (fdO K dLineNumbers.at_)
  f_Matched : FunD K dMatched.name dMatched.qual dMatched.params dMatched.body dMatched.scope [] [] (He.fAd K dMatched.at_) (fdO K dMatched.at_)
  f_OrderInit : FunD K dOrderInit.name dOrderInit.qual dOrderInit.params dOrderInit.body dOrderInit.scope [] [] (He.fAd K dOrderInit.at_) (fdO K dOrderInit.at_)
  f_OrderOwing : FunD K dOrderOwing.name dOrderOwing.qual dOrderOwing.params dOrderOwing.body dOrderOwing.scope [] [] (He.fAd K dOrderOwing.at_) (fdO K dOrderOwing.at_)
  f_OrderLineOf : FunD K dOrderLineOf.name dOrderLineOf.qual dOrderLineOf.params dOrderLineOf.body dOrderLineOf.scope [] [] (He.fAd K dOrderLineOf.at_) (fdO K dOrderLineOf.at_)
  f_OrderNeedOver : FunD K dOrderNeedOver.name dOrderNeedOver.qual dOrderNeedOver.params dOrderNeedOver.body dOrderNeedOver.scope [] [] (He.fAd K dOrderNeedOver.at_) (fdO K dOrderNeedOver.at_)
  f_OrderTurnLine : FunD K dOrderTurnLine.name dOrderTurnLine.qual dOrderTurnLine.params dOrderTurnLine.body dOrderTurnLine.scope [] [] (He.fAd K dOrderTurnLine.at_) (fdO K dOrderTurnLine.at_)
  f_OrderTake : FunD K dOrderTake.name dOrderTake.qual dOrderTake.params dOrderTake.body dOrderTake.scope [] [] (He.fAd K dOrderTake.at_) (fdO K dOrderTake.at_)
  f_OrderMark : FunD K dOrderMark.name dOrderMark.qual dOrderMark.params dOrderMark.body dOrderMark.scope [] [] (He.fAd K dOrderMark.at_) (fdO K dOrderMark.at_)
  f_Own : FunD K dOwn.name dOwn.qual dOwn.params dOwn.body dOwn.scope [] [] (He.fAd K dOwn.at_) (fdO K dOwn.at_)
  f_BookInit : FunD K dBookInit.name dBookInit.qual dBookInit.params dBookInit.body dBookInit.scope [] [] (He.fAd K dBookInit.at_) (fdO K dBookInit.at_)
  f_BookOrderOf : FunD K dBookOrderOf.name dBookOrderOf.qual dBookOrderOf.params dBookOrderOf.body dBookOrderOf.scope [] [] (He.fAd K dBookOrderOf.at_) (fdO K dBookOrderOf.at_)
  f_BookDo : FunD K dBookDo.name dBookDo.qual dBookDo.params dBookDo.body dBookDo.scope [] [] (He.fAd K dBookDo.at_) (fdO K dBookDo.at_)
  f_BookBegin : FunD K dBookBegin.name dBookBegin.qual dBookBegin.params dBookBegin.body dBookBegin.scope [] [] (He.fAd K dBookBegin.at_) (fdO K dBookBegin.at_)
  f_BookShift : FunD K dBookShift.name dBookShift.qual dBookShift.params dBookShift.body dBookShift.scope [] [] (He.fAd K dBookShift.at_) (fdO K dBookShift.at_)
  f_BookOne : FunD K dBookOne.name dBookOne.qual dBookOne.params dBookOne.body dBookOne.scope [] [] (He.fAd K dBookOne.at_) (fdO K dBookOne.at_)
  f_BookNeedNumber : FunD K dBookNeedNumber.name dBookNeedNumber.qual dBookNeedNumber.params dBookNeedNumber.body dBookNeedNumber.scope [] [] (He.fAd K dBookNeedNumber.at_) (fdO K dBookNeedNumber.at_)
  f_BookUndo : FunD K dBookUndo.name dBookUndo.qual dBookUndo.params dBookUndo.body dBookUndo.scope [] [] (He.fAd K dBookUndo.at_) (fdO K dBookUndo.at_)
  f_BookOrders : FunD K dBookOrders.name dBookOrders.qual dBookOrders.params dBookOrders.body dBookOrders.scope [] [] (He.fAd K dBookOrders.at_) (fdO K dBookOrders.at_)
  f_BookTold : FunD K dBookTold.name dBookTold.qual dBookTold.params dBookTold.body dBookTold.scope [] [] (He.fAd K dBookTold.at_) (fdO K dBookTold.at_)
  f_BookPaid : FunD K dBookPaid.name dBookPaid.qual dBookPaid.params dBookPaid.body dBookPaid.scope [] [] (He.fAd K dBookPaid.at_) (fdO K dBookPaid.at_)
  f_BookOwed : FunD K dBookOwed.name dBookOwed.qual dBookOwed.params dBookOwed.body dBookOwed.scope [] [] (He.fAd K dBookOwed.at_) (fdO K dBookOwed.at_)
  f_BookRows : FunD K dBookRows.name dBookRows.qual dBookRows.params dBookRows.body dBookRows.scope [] [] (He.fAd K dBookRows.at_) (fdO K dBookRows.at_)
  f_BookSettled : FunD K dBookSettled.name dBookSettled.qual dBookSettled.params dBookSettled.body dBookSettled.scope [] [] (He.fAd K dBookSettled.at_) (fdO K dBookSettled.at_)
  f_LCellAt : FunD K dLCellAt.name dLCellAt.qual dLCellAt.params dLCellAt.body dLCellAt.scope [] [] (He.fAd K dLCellAt.at_) (fdO K dLCellAt.at_)
  f_LWhole : FunD K dLWhole.name dLWhole.qual dLWhole.params dLWhole.body dLWhole.scope [] [] (He.fAd K dLWhole.at_) (fdO K dLWhole.at_)
  f_LLineWorth : FunD K dLLineWorth.name dLLineWorth.qual dLLineWorth.params dLLineWorth.body dLLineWorth.scope [] [] (He.fAd K dLLineWorth.at_) (fdO K dLLineWorth.at_)
  f_LOwedBy : FunD K dLOwedBy.name dLOwedBy.qual dLOwedBy.params dLOwedBy.body dLOwedBy.scope [] [] (He.fAd K dLOwedBy.at_) (fdO K dLOwedBy.at_)
  f_LMost : FunD K dLMost.name dLMost.qual dLMost.params dLMost.body dLMost.scope [] [] (He.fAd K dLMost.at_) (fdO K dLMost.at_)
  f_LPlaceBy : FunD K dLPlaceBy.name dLPlaceBy.qual dLPlaceBy.params dLPlaceBy.body dLPlaceBy.scope [] [] (He.fAd K dLPlaceBy.at_) (fdO K dLPlaceBy.at_)
  f_LNumberBy : FunD K dLNumberBy.name dLNumberBy.qual dLNumberBy.params dLNumberBy.body dLNumberBy.scope [] [] (He.fAd K dLNumberBy.at_) (fdO K dLNumberBy.at_)
  f_LItemBy : FunD K dLItemBy.name dLItemBy.qual dLItemBy.params dLItemBy.body dLItemBy.scope [] [] (He.fAd K dLItemBy.at_) (fdO K dLItemBy.at_)
  f_LLinesBy : FunD K dLLinesBy.name dLLinesBy.qual dLLinesBy.params dLLinesBy.body dLLinesBy.scope [] [] (He.fAd K dLLinesBy.at_) (fdO K dLLinesBy.at_)
  f_LDeedBy : FunD K dLDeedBy.name dLDeedBy.qual dLDeedBy.params dLDeedBy.body dLDeedBy.scope [] [] (He.fAd K dLDeedBy.at_) (fdO K dLDeedBy.at_)
  f_LRefusal : FunD K dLRefusal.name dLRefusal.qual dLRefusal.params dLRefusal.body dLRefusal.scope [] [] (He.fAd K dLRefusal.at_) (fdO K dLRefusal.at_)
  f_LTurned : FunD K dLTurned.name dLTurned.qual dLTurned.params dLTurned.body dLTurned.scope [] [] (He.fAd K dLTurned.at_) (fdO K dLTurned.at_)
  f_LStep : FunD K dLStep.name dLStep.qual dLStep.params dLStep.body dLStep.scope [] [] (He.fAd K dLStep.at_) (fdO K dLStep.at_)
  f_LHanded : FunD K dLHanded.name dLHanded.qual dLHanded.params dLHanded.body dLHanded.scope [] [] (He.fAd K dLHanded.at_) (fdO K dLHanded.at_)
  f_LTried : FunD K dLTried.name dLTried.qual dLTried.params dLTried.body dLTried.scope [] [] (He.fAd K dLTried.at_) (fdO K dLTried.at_)
  f_LPairsAlike : FunD K dLPairsAlike.name dLPairsAlike.qual dLPairsAlike.params dLPairsAlike.body dLPairsAlike.scope [] [] (He.fAd K dLPairsAlike.at_) (fdO K dLPairsAlike.at_)
  f_LPartsAlike : FunD K dLPartsAlike.name dLPartsAlike.qual dLPartsAlike.params dLPartsAlike.body dLPartsAlike.scope [] [] (He.fAd K dLPartsAlike.at_) (fdO K dLPartsAlike.at_)
  f_LDeedAlike : FunD K dLDeedAlike.name dLDeedAlike.qual dLDeedAlike.params dLDeedAlike.body dLDeedAlike.scope [] [] (He.fAd K dLDeedAlike.at_) (fdO K dLDeedAlike.at_)
  f_LAheadWhole : FunD K dLAheadWhole.name dLAheadWhole.qual dLAheadWhole.params dLAheadWhole.body dLAheadWhole.scope [] [] (He.fAd K dLAheadWhole.at_) (fdO K dLAheadWhole.at_)
  f_LIsTriple : FunD K dLIsTriple.name dLIsTriple.qual dLIsTriple.params dLIsTriple.body dLIsTriple.scope [] [] (He.fAd K dLIsTriple.at_) (fdO K dLIsTriple.at_)
  f_LMatchedWell : FunD K dLMatchedWell.name dLMatchedWell.qual dLMatchedWell.params dLMatchedWell.body dLMatchedWell.scope [] [] (He.fAd K dLMatchedWell.at_) (fdO K dLMatchedWell.at_)
  f_LRowsAlike : FunD K dLRowsAlike.name dLRowsAlike.qual dLRowsAlike.params dLRowsAlike.body dLRowsAlike.scope [] [] (He.fAd K dLRowsAlike.at_) (fdO K dLRowsAlike.at_)
  f_LLinesTold : FunD K dLLinesTold.name dLLinesTold.qual dLLinesTold.params dLLinesTold.body dLLinesTold.scope [] [] (He.fAd K dLLinesTold.at_) (fdO K dLLinesTold.at_)
  f_LStands : FunD K dLStands.name dLStands.qual dLStands.params dLStands.body dLStands.scope [] [] (He.fAd K dLStands.at_) (fdO K dLStands.at_)
  f_LModelOf : FunD K dLModelOf.name dLModelOf.qual dLModelOf.params dLModelOf.body dLModelOf.scope [] [] (He.fAd K dLModelOf.at_) (fdO K dLModelOf.at_)
  f_LStandsBy : FunD K dLStandsBy.name dLStandsBy.qual dLStandsBy.params dLStandsBy.body dLStandsBy.scope [] [] (He.fAd K dLStandsBy.at_) (fdO K dLStandsBy.at_)
  f_LBack : FunD K dLBack.name dLBack.qual dLBack.params dLBack.body dLBack.scope [] [] (He.fAd K dLBack.at_) (fdO K dLBack.at_)
  f_LOfOneClass : FunD K dLOfOneClass.name dLOfOneClass.qual dLOfOneClass.params dLOfOneClass.body dLOfOneClass.scope [] [] (He.fAd K dLOfOneClass.at_) (fdO K dLOfOneClass.at_)
  f_LNothing : FunD K dLNothing.name dLNothing.qual dLNothing.params dLNothing.body dLNothing.scope [] [] (He.fAd K dLNothing.at_) (fdO K dLNothing.at_)
  f_LDone : FunD K dLDone.name dLDone.qual dLDone.params dLDone.body dLDone.scope [] [] (He.fAd K dLDone.at_) (fdO K dLDone.at_)
  f_LPaidFirst : FunD K dLPaidFirst.name dLPaidFirst.qual dLPaidFirst.params dLPaidFirst.body dLPaidFirst.scope [] [] (He.fAd K dLPaidFirst.at_) (fdO K dLPaidFirst.at_)
  f_Law : FunD K dLaw.name dLaw.qual dLaw.params dLaw.body dLaw.scope [] [] (He.fAd K dLaw.at_) (fdO K dLaw.at_)
  kd : ∃ es n, K.lookup (He.ga K "PARTS") = some ⟨.type "dict", none, .dict es n, #[]⟩ ∧ PySem.W.KeysLit w.params es.toList ∧ es.toList.map He.keyOf = He.keysIn w.params (parts.map (·.1)) ∧ ((He.ga K "PARTS") == sysModules) = false
  kv : He.valsB K (He.ga K "PARTS") (parts.map fun p => (p.1, He.Dv.int p.2)) = true
  xv : excAll K exNames = true
theorem tx_of {w : World} {K : PySem.W.Frag} {h : Heap} {mg : Str → Option Value} (X : K.In h) (G : h.Ns mainGlobals mg) (c : He.SaysX fa fn ts [] ex w h K) : Tx w K mg where
  g_Worth := He.glo_ok X G (c.t.d.fact 0 (f := .glo "worth") rfl)
  g_IsItem := He.glo_ok X G (c.t.d.fact 1 (f := .glo "is_item") rfl)
  g_CheckLine := He.glo_ok X G (c.t.d.fact 2 (f := .glo "check_line") rfl)
  g_Matched := He.glo_ok X G (c.t.d.fact 3 (f := .glo "matched") rfl)
  g_Own := He.glo_ok X G (c.t.d.fact 4 (f := .glo "own") rfl)
  g_LCellAt := He.glo_ok X G (c.t.d.fact 5 (f := .glo "_law_cell_at") rfl)
  g_LWhole := He.glo_ok X G (c.t.d.fact 6 (f := .glo "_law_whole") rfl)
  g_LLineWorth := He.glo_ok X G (c.t.d.fact 7 (f := .glo "_law_line_worth") rfl)
  g_LOwedBy := He.glo_ok X G (c.t.d.fact 8 (f := .glo "_law_owed_by") rfl)
  g_LMost := He.glo_ok X G (c.t.d.fact 9 (f := .glo "_law_most") rfl)
  g_LPlaceBy := He.glo_ok X G (c.t.d.fact 10 (f := .glo "_law_place_by") rfl)
  g_LNumberBy := He.glo_ok X G (c.t.d.fact 11 (f := .glo "_law_number_by") rfl)
  g_LItemBy := He.glo_ok X G (c.t.d.fact 12 (f := .glo "_law_item_by") rfl)
  g_LLinesBy := He.glo_ok X G (c.t.d.fact 13 (f := .glo "_law_lines_by") rfl)
  g_LDeedBy := He.glo_ok X G (c.t.d.fact 14 (f := .glo "_law_deed_by") rfl)
  g_LRefusal := He.glo_ok X G (c.t.d.fact 15 (f := .glo "_law_refusal") rfl)
  g_LTurned := He.glo_ok X G (c.t.d.fact 16 (f := .glo "_law_turned") rfl)
  g_LStep := He.glo_ok X G (c.t.d.fact 17 (f := .glo "_law_step") rfl)
  g_LHanded := He.glo_ok X G (c.t.d.fact 18 (f := .glo "_law_handed") rfl)
  g_LTried := He.glo_ok X G (c.t.d.fact 19 (f := .glo "_law_tried") rfl)
  g_LPairsAlike := He.glo_ok X G (c.t.d.fact 20 (f := .glo "_law_pairs_alike") rfl)
  g_LPartsAlike := He.glo_ok X G (c.t.d.fact 21 (f := .glo "_law_parts_alike") rfl)
  g_LDeedAlike := He.glo_ok X G (c.t.d.fact 22 (f := .glo "_law_deed_alike") rfl)
  g_LAheadWhole := He.glo_ok X G (c.t.d.fact 23 (f := .glo "_law_ahead_whole") rfl)
  g_LIsTriple := He.glo_ok X G (c.t.d.fact 24 (f := .glo "_law_is_triple") rfl)
  g_LMatchedWell := He.glo_ok X G (c.t.d.fact 25 (f := .glo "_law_matched_well") rfl)
  g_LRowsAlike := He.glo_ok X G (c.t.d.fact 26 (f := .glo "_law_rows_alike") rfl)
  g_LLinesTold := He.glo_ok X G (c.t.d.fact 27 (f := .glo "_law_lines_told") rfl)
  g_LStands := He.glo_ok X G (c.t.d.fact 28 (f := .glo "_law_stands") rfl)
  g_LModelOf := He.glo_ok X G (c.t.d.fact 29 (f := .glo "_law_model_of") rfl)
  g_LStandsBy := He.glo_ok X G (c.t.d.fact 30 (f := .glo "_law_stands_by") rfl)
  g_LBack := He.glo_ok X G (c.t.d.fact 31 (f := .glo "_law_back") rfl)
  g_LOfOneClass := He.glo_ok X G (c.t.d.fact 32 (f := .glo "_law_of_one_class") rfl)
  g_LNothing := He.glo_ok X G (c.t.d.fact 33 (f := .glo "_law_nothing") rfl)
  g_LDone := He.glo_ok X G (c.t.d.fact 34 (f := .glo "_law_done") rfl)
  g_LPaidFirst := He.glo_ok X G (c.t.d.fact 35 (f := .glo "_law_paid_first") rfl)
  g_Law := He.glo_ok X G (c.t.d.fact 36 (f := .glo "law") rfl)
  b_ValueError := He.free_ok X G (c.t.d.fact 37 (f := .free "ValueError") rfl)
  b_bool := He.free_ok X G (c.t.d.fact 38 (f := .free "bool") rfl)
  b_int := He.free_ok X G (c.t.d.fact 39 (f := .free "int") rfl)
  b_isinstance := He.free_ok X G (c.t.d.fact 40 (f := .free "isinstance") rfl)
  b_len := He.free_ok X G (c.t.d.fact 41 (f := .free "len") rfl)
  b_list := He.free_ok X G (c.t.d.fact 42 (f := .free "list") rfl)
  b_max := He.free_ok X G (c.t.d.fact 43 (f := .free "max") rfl)
  b_min := He.free_ok X G (c.t.d.fact 44 (f := .free "min") rfl)
  b_range := He.free_ok X G (c.t.d.fact 45 (f := .free "range") rfl)
  b_str := He.free_ok X G (c.t.d.fact 46 (f := .free "str") rfl)
  b_sum := He.free_ok X G (c.t.d.fact 47 (f := .free "sum") rfl)
  b_tuple := He.free_ok X G (c.t.d.fact 48 (f := .free "tuple") rfl)
  c_LETTERS := gs_ok X G (c.t.d.fact 49 (f := .str "LETTERS" "abcdefghijklmnopqrstuvwxyz") rfl)
  c_MOST_LETTERS := gi_ok X G (c.t.d.fact 50 (f := .int "MOST_LETTERS" 12) rfl)
  c_MOST_PIECES := gi_ok X G (c.t.d.fact 51 (f := .int "MOST_PIECES" 1000000) rfl)
  c_MOST_CENTS := gi_ok X G (c.t.d.fact 52 (f := .int "MOST_CENTS" 1000000000) rfl)
  c_MOST_PACK := gi_ok X G (c.t.d.fact 53 (f := .int "MOST_PACK" 1000) rfl)
  c_PARTS := He.glo_ok X G (c.t.d.fact 54 (f := .glo "PARTS") rfl)
  c_MOST_LINES := gi_ok X G (c.t.d.fact 55 (f := .int "MOST_LINES" 20) rfl)
  c_MOST_ORDERS := gi_ok X G (c.t.d.fact 56 (f := .int "MOST_ORDERS" 40) rfl)
  g_FlowError := He.glo_ok X G (c.t.d.fact 57 (f := .glo "FlowError") rfl)
  x_FlowError := He.exc_ok (c.t.d.fact 58 (f := .exc "FlowError") rfl)
  g_NoDeed := He.glo_ok X G (c.t.d.fact 59 (f := .glo "NoDeed") rfl)
  x_NoDeed := He.exc_ok (c.t.d.fact 60 (f := .exc "NoDeed") rfl)
  g_NoLines := He.glo_ok X G (c.t.d.fact 61 (f := .glo "NoLines") rfl)
  x_NoLines := He.exc_ok (c.t.d.fact 62 (f := .exc "NoLines") rfl)
  g_NoItem := He.glo_ok X G (c.t.d.fact 63 (f := .glo "NoItem") rfl)
  x_NoItem := He.exc_ok (c.t.d.fact 64 (f := .exc "NoItem") rfl)
  g_NoNumber := He.glo_ok X G (c.t.d.fact 65 (f := .glo "NoNumber") rfl)
  x_NoNumber := He.exc_ok (c.t.d.fact 66 (f := .exc "NoNumber") rfl)
  g_FullBook := He.glo_ok X G (c.t.d.fact 67 (f := .glo "FullBook") rfl)
  x_FullBook := He.exc_ok (c.t.d.fact 68 (f := .exc "FullBook") rfl)
  g_NoOrder := He.glo_ok X G (c.t.d.fact 69 (f := .glo "NoOrder") rfl)
  x_NoOrder := He.exc_ok (c.t.d.fact 70 (f := .exc "NoOrder") rfl)
  g_SameOrder := He.glo_ok X G (c.t.d.fact 71 (f := .glo "SameOrder") rfl)
  x_SameOrder := He.exc_ok (c.t.d.fact 72 (f := .exc "SameOrder") rfl)
  g_NoLine := He.glo_ok X G (c.t.d.fact 73 (f := .glo "NoLine") rfl)
  x_NoLine := He.exc_ok (c.t.d.fact 74 (f := .exc "NoLine") rfl)
  g_TooMuch := He.glo_ok X G (c.t.d.fact 75 (f := .glo "TooMuch") rfl)
  x_TooMuch := He.exc_ok (c.t.d.fact 76 (f := .exc "TooMuch") rfl)
  g_NothingDone := He.glo_ok X G (c.t.d.fact 77 (f := .glo "NothingDone") rfl)
  x_NothingDone := He.exc_ok (c.t.d.fact 78 (f := .exc "NothingDone") rfl)
  g_Line := He.glo_ok X G (c.t.d.fact 79 (f := .glo "Line") rfl)
  cl_Line := He.cls_ok (c.t.d.fact 80 (f := .cls "Line") rfl)
  n_Line_item := He.noat_ok (c.t.d.fact 81 (f := .noat "Line" "item") rfl)
  n_Line_ordered := He.noat_ok (c.t.d.fact 82 (f := .noat "Line" "ordered") rfl)
  n_Line_cents := He.noat_ok (c.t.d.fact 83 (f := .noat "Line" "cents") rfl)
  n_Line_pack := He.noat_ok (c.t.d.fact 84 (f := .noat "Line" "pack") rfl)
  n_Line_sent := He.noat_ok (c.t.d.fact 85 (f := .noat "Line" "sent") rfl)
  n_Line_home := He.noat_ok (c.t.d.fact 86 (f := .noat "Line" "home") rfl)
  n_Line_again := He.noat_ok (c.t.d.fact 87 (f := .noat "Line" "again") rfl)
  n_Line_credited := He.noat_ok (c.t.d.fact 88 (f := .noat "Line" "credited") rfl)
  mk_Line := He.mkr_ok (c.t.d.fact 89 (f := .mkr "Line") rfl)
  m_Line_kept := He.meth_ok (c.t.d.fact 90 (f := .meth "Line" "kept") rfl)
  m_Line_to_come := He.meth_ok (c.t.d.fact 91 (f := .meth "Line" "to_come") rfl)
  m_Line_kept_worth := He.meth_ok (c.t.d.fact 92 (f := .meth "Line" "kept_worth") rfl)
  m_Line_charge := He.meth_ok (c.t.d.fact 93 (f := .meth "Line" "charge") rfl)
  m_Line_deliver := He.meth_ok (c.t.d.fact 94 (f := .meth "Line" "deliver") rfl)
  m_Line_bring := He.meth_ok (c.t.d.fact 95 (f := .meth "Line" "bring") rfl)
  m_Line_reduce := He.meth_ok (c.t.d.fact 96 (f := .meth "Line" "reduce") rfl)
  m_Line_numbers := He.meth_ok (c.t.d.fact 97 (f := .meth "Line" "numbers") rfl)
  g_Order := He.glo_ok X G (c.t.d.fact 98 (f := .glo "Order") rfl)
  cl_Order := He.cls_ok (c.t.d.fact 99 (f := .cls "Order") rfl)
  n_Order_lines := He.noat_ok (c.t.d.fact 100 (f := .noat "Order" "lines") rfl)
  n_Order_money := He.noat_ok (c.t.d.fact 101 (f := .noat "Order" "money") rfl)
  n_Order_marks := He.noat_ok (c.t.d.fact 102 (f := .noat "Order" "marks") rfl)
  mk_Order := He.mkr_ok (c.t.d.fact 103 (f := .mkr "Order") rfl)
  m_Order_owing := He.meth_ok (c.t.d.fact 104 (f := .meth "Order" "owing") rfl)
  m_Order_line_of := He.meth_ok (c.t.d.fact 105 (f := .meth "Order" "line_of") rfl)
  m_Order_need_over := He.meth_ok (c.t.d.fact 106 (f := .meth "Order" "need_over") rfl)
  m_Order_turn_line := He.meth_ok (c.t.d.fact 107 (f := .meth "Order" "turn_line") rfl)
  m_Order_take := He.meth_ok (c.t.d.fact 108 (f := .meth "Order" "take") rfl)
  m_Order_mark := He.meth_ok (c.t.d.fact 109 (f := .meth "Order" "mark") rfl)
  g_Book := He.glo_ok X G (c.t.d.fact 110 (f := .glo "Book") rfl)
  cl_Book := He.cls_ok (c.t.d.fact 111 (f := .cls "Book") rfl)
  n_Book_each := He.noat_ok (c.t.d.fact 112 (f := .noat "Book" "each") rfl)
  n_Book_trail := He.noat_ok (c.t.d.fact 113 (f := .noat "Book" "trail") rfl)
  mk_Book := He.mkr_ok (c.t.d.fact 114 (f := .mkr "Book") rfl)
  m_Book_order_of := He.meth_ok (c.t.d.fact 115 (f := .meth "Book" "order_of") rfl)
  m_Book_do := He.meth_ok (c.t.d.fact 116 (f := .meth "Book" "do") rfl)
  m_Book_begin := He.meth_ok (c.t.d.fact 117 (f := .meth "Book" "begin") rfl)
  m_Book_shift := He.meth_ok (c.t.d.fact 118 (f := .meth "Book" "shift") rfl)
  m_Book_one := He.meth_ok (c.t.d.fact 119 (f := .meth "Book" "one") rfl)
  m_Book_need_number := He.meth_ok (c.t.d.fact 120 (f := .meth "Book" "need_number") rfl)
  m_Book_undo := He.meth_ok (c.t.d.fact 121 (f := .meth "Book" "undo") rfl)
  m_Book_orders := He.meth_ok (c.t.d.fact 122 (f := .meth "Book" "orders") rfl)
  m_Book_told := He.meth_ok (c.t.d.fact 123 (f := .meth "Book" "told") rfl)
  m_Book_paid := He.meth_ok (c.t.d.fact 124 (f := .meth "Book" "paid") rfl)
  m_Book_owed := He.meth_ok (c.t.d.fact 125 (f := .meth "Book" "owed") rfl)
  m_Book_rows := He.meth_ok (c.t.d.fact 126 (f := .meth "Book" "rows") rfl)
  m_Book_settled := He.meth_ok (c.t.d.fact 127 (f := .meth "Book" "settled") rfl)
  e_NoDeed_FlowError := He.exm_ok (c.t.d.fact 128 (f := .exm "NoDeed" "FlowError" true) rfl)
  e_NoLines_FlowError := He.exm_ok (c.t.d.fact 129 (f := .exm "NoLines" "FlowError" true) rfl)
  e_NoItem_FlowError := He.exm_ok (c.t.d.fact 130 (f := .exm "NoItem" "FlowError" true) rfl)
  e_NoNumber_FlowError := He.exm_ok (c.t.d.fact 131 (f := .exm "NoNumber" "FlowError" true) rfl)
  e_FullBook_FlowError := He.exm_ok (c.t.d.fact 132 (f := .exm "FullBook" "FlowError" true) rfl)
  e_NoOrder_FlowError := He.exm_ok (c.t.d.fact 133 (f := .exm "NoOrder" "FlowError" true) rfl)
  e_SameOrder_FlowError := He.exm_ok (c.t.d.fact 134 (f := .exm "SameOrder" "FlowError" true) rfl)
  e_NoLine_FlowError := He.exm_ok (c.t.d.fact 135 (f := .exm "NoLine" "FlowError" true) rfl)
  e_TooMuch_FlowError := He.exm_ok (c.t.d.fact 136 (f := .exm "TooMuch" "FlowError" true) rfl)
  e_NothingDone_FlowError := He.exm_ok (c.t.d.fact 137 (f := .exm "NothingDone" "FlowError" true) rfl)
  e_NoDeed_FullBook := He.exm_ok (c.t.d.fact 138 (f := .exm "NoDeed" "FullBook" false) rfl)
  e_NoLines_FullBook := He.exm_ok (c.t.d.fact 139 (f := .exm "NoLines" "FullBook" false) rfl)
  e_NoItem_FullBook := He.exm_ok (c.t.d.fact 140 (f := .exm "NoItem" "FullBook" false) rfl)
  e_NoNumber_FullBook := He.exm_ok (c.t.d.fact 141 (f := .exm "NoNumber" "FullBook" false) rfl)
  e_FullBook_FullBook := He.exm_ok (c.t.d.fact 142 (f := .exm "FullBook" "FullBook" true) rfl)
  e_NoOrder_FullBook := He.exm_ok (c.t.d.fact 143 (f := .exm "NoOrder" "FullBook" false) rfl)
  e_SameOrder_FullBook := He.exm_ok (c.t.d.fact 144 (f := .exm "SameOrder" "FullBook" false) rfl)
  e_NoLine_FullBook := He.exm_ok (c.t.d.fact 145 (f := .exm "NoLine" "FullBook" false) rfl)
  e_TooMuch_FullBook := He.exm_ok (c.t.d.fact 146 (f := .exm "TooMuch" "FullBook" false) rfl)
  e_NothingDone_FullBook := He.exm_ok (c.t.d.fact 147 (f := .exm "NothingDone" "FullBook" false) rfl)
  e_NoDeed_NoDeed := He.exm_ok (c.t.d.fact 148 (f := .exm "NoDeed" "NoDeed" true) rfl)
  e_NoLines_NoDeed := He.exm_ok (c.t.d.fact 149 (f := .exm "NoLines" "NoDeed" false) rfl)
  e_NoItem_NoDeed := He.exm_ok (c.t.d.fact 150 (f := .exm "NoItem" "NoDeed" false) rfl)
  e_NoNumber_NoDeed := He.exm_ok (c.t.d.fact 151 (f := .exm "NoNumber" "NoDeed" false) rfl)
  e_FullBook_NoDeed := He.exm_ok (c.t.d.fact 152 (f := .exm "FullBook" "NoDeed" false) rfl)
  e_NoOrder_NoDeed := He.exm_ok (c.t.d.fact 153 (f := .exm "NoOrder" "NoDeed" false) rfl)
  e_SameOrder_NoDeed := He.exm_ok (c.t.d.fact 154 (f := .exm "SameOrder" "NoDeed" false) rfl)
  e_NoLine_NoDeed := He.exm_ok (c.t.d.fact 155 (f := .exm "NoLine" "NoDeed" false) rfl)
  e_TooMuch_NoDeed := He.exm_ok (c.t.d.fact 156 (f := .exm "TooMuch" "NoDeed" false) rfl)
  e_NothingDone_NoDeed := He.exm_ok (c.t.d.fact 157 (f := .exm "NothingDone" "NoDeed" false) rfl)
  e_NoDeed_NoItem := He.exm_ok (c.t.d.fact 158 (f := .exm "NoDeed" "NoItem" false) rfl)
  e_NoLines_NoItem := He.exm_ok (c.t.d.fact 159 (f := .exm "NoLines" "NoItem" false) rfl)
  e_NoItem_NoItem := He.exm_ok (c.t.d.fact 160 (f := .exm "NoItem" "NoItem" true) rfl)
  e_NoNumber_NoItem := He.exm_ok (c.t.d.fact 161 (f := .exm "NoNumber" "NoItem" false) rfl)
  e_FullBook_NoItem := He.exm_ok (c.t.d.fact 162 (f := .exm "FullBook" "NoItem" false) rfl)
  e_NoOrder_NoItem := He.exm_ok (c.t.d.fact 163 (f := .exm "NoOrder" "NoItem" false) rfl)
  e_SameOrder_NoItem := He.exm_ok (c.t.d.fact 164 (f := .exm "SameOrder" "NoItem" false) rfl)
  e_NoLine_NoItem := He.exm_ok (c.t.d.fact 165 (f := .exm "NoLine" "NoItem" false) rfl)
  e_TooMuch_NoItem := He.exm_ok (c.t.d.fact 166 (f := .exm "TooMuch" "NoItem" false) rfl)
  e_NothingDone_NoItem := He.exm_ok (c.t.d.fact 167 (f := .exm "NothingDone" "NoItem" false) rfl)
  e_NoDeed_NoLine := He.exm_ok (c.t.d.fact 168 (f := .exm "NoDeed" "NoLine" false) rfl)
  e_NoLines_NoLine := He.exm_ok (c.t.d.fact 169 (f := .exm "NoLines" "NoLine" false) rfl)
  e_NoItem_NoLine := He.exm_ok (c.t.d.fact 170 (f := .exm "NoItem" "NoLine" false) rfl)
  e_NoNumber_NoLine := He.exm_ok (c.t.d.fact 171 (f := .exm "NoNumber" "NoLine" false) rfl)
  e_FullBook_NoLine := He.exm_ok (c.t.d.fact 172 (f := .exm "FullBook" "NoLine" false) rfl)
  e_NoOrder_NoLine := He.exm_ok (c.t.d.fact 173 (f := .exm "NoOrder" "NoLine" false) rfl)
  e_SameOrder_NoLine := He.exm_ok (c.t.d.fact 174 (f := .exm "SameOrder" "NoLine" false) rfl)
  e_NoLine_NoLine := He.exm_ok (c.t.d.fact 175 (f := .exm "NoLine" "NoLine" true) rfl)
  e_TooMuch_NoLine := He.exm_ok (c.t.d.fact 176 (f := .exm "TooMuch" "NoLine" false) rfl)
  e_NothingDone_NoLine := He.exm_ok (c.t.d.fact 177 (f := .exm "NothingDone" "NoLine" false) rfl)
  e_NoDeed_NoLines := He.exm_ok (c.t.d.fact 178 (f := .exm "NoDeed" "NoLines" false) rfl)
  e_NoLines_NoLines := He.exm_ok (c.t.d.fact 179 (f := .exm "NoLines" "NoLines" true) rfl)
  e_NoItem_NoLines := He.exm_ok (c.t.d.fact 180 (f := .exm "NoItem" "NoLines" false) rfl)
  e_NoNumber_NoLines := He.exm_ok (c.t.d.fact 181 (f := .exm "NoNumber" "NoLines" false) rfl)
  e_FullBook_NoLines := He.exm_ok (c.t.d.fact 182 (f := .exm "FullBook" "NoLines" false) rfl)
  e_NoOrder_NoLines := He.exm_ok (c.t.d.fact 183 (f := .exm "NoOrder" "NoLines" false) rfl)
  e_SameOrder_NoLines := He.exm_ok (c.t.d.fact 184 (f := .exm "SameOrder" "NoLines" false) rfl)
  e_NoLine_NoLines := He.exm_ok (c.t.d.fact 185 (f := .exm "NoLine" "NoLines" false) rfl)
  e_TooMuch_NoLines := He.exm_ok (c.t.d.fact 186 (f := .exm "TooMuch" "NoLines" false) rfl)
  e_NothingDone_NoLines := He.exm_ok (c.t.d.fact 187 (f := .exm "NothingDone" "NoLines" false) rfl)
  e_NoDeed_NoNumber := He.exm_ok (c.t.d.fact 188 (f := .exm "NoDeed" "NoNumber" false) rfl)
  e_NoLines_NoNumber := He.exm_ok (c.t.d.fact 189 (f := .exm "NoLines" "NoNumber" false) rfl)
  e_NoItem_NoNumber := He.exm_ok (c.t.d.fact 190 (f := .exm "NoItem" "NoNumber" false) rfl)
  e_NoNumber_NoNumber := He.exm_ok (c.t.d.fact 191 (f := .exm "NoNumber" "NoNumber" true) rfl)
  e_FullBook_NoNumber := He.exm_ok (c.t.d.fact 192 (f := .exm "FullBook" "NoNumber" false) rfl)
  e_NoOrder_NoNumber := He.exm_ok (c.t.d.fact 193 (f := .exm "NoOrder" "NoNumber" false) rfl)
  e_SameOrder_NoNumber := He.exm_ok (c.t.d.fact 194 (f := .exm "SameOrder" "NoNumber" false) rfl)
  e_NoLine_NoNumber := He.exm_ok (c.t.d.fact 195 (f := .exm "NoLine" "NoNumber" false) rfl)
  e_TooMuch_NoNumber := He.exm_ok (c.t.d.fact 196 (f := .exm "TooMuch" "NoNumber" false) rfl)
  e_NothingDone_NoNumber := He.exm_ok (c.t.d.fact 197 (f := .exm "NothingDone" "NoNumber" false) rfl)
  e_NoDeed_NoOrder := He.exm_ok (c.t.d.fact 198 (f := .exm "NoDeed" "NoOrder" false) rfl)
  e_NoLines_NoOrder := He.exm_ok (c.t.d.fact 199 (f := .exm "NoLines" "NoOrder" false) rfl)
  e_NoItem_NoOrder := He.exm_ok (c.t.d.fact 200 (f := .exm "NoItem" "NoOrder" false) rfl)
  e_NoNumber_NoOrder := He.exm_ok (c.t.d.fact 201 (f := .exm "NoNumber" "NoOrder" false) rfl)
  e_FullBook_NoOrder := He.exm_ok (c.t.d.fact 202 (f := .exm "FullBook" "NoOrder" false) rfl)
  e_NoOrder_NoOrder := He.exm_ok (c.t.d.fact 203 (f := .exm "NoOrder" "NoOrder" true) rfl)
  e_SameOrder_NoOrder := He.exm_ok (c.t.d.fact 204 (f := .exm "SameOrder" "NoOrder" false) rfl)
  e_NoLine_NoOrder := He.exm_ok (c.t.d.fact 205 (f := .exm "NoLine" "NoOrder" false) rfl)
  e_TooMuch_NoOrder := He.exm_ok (c.t.d.fact 206 (f := .exm "TooMuch" "NoOrder" false) rfl)
  e_NothingDone_NoOrder := He.exm_ok (c.t.d.fact 207 (f := .exm "NothingDone" "NoOrder" false) rfl)
  e_NoDeed_NothingDone := He.exm_ok (c.t.d.fact 208 (f := .exm "NoDeed" "NothingDone" false) rfl)
  e_NoLines_NothingDone := He.exm_ok (c.t.d.fact 209 (f := .exm "NoLines" "NothingDone" false) rfl)
  e_NoItem_NothingDone := He.exm_ok (c.t.d.fact 210 (f := .exm "NoItem" "NothingDone" false) rfl)
  e_NoNumber_NothingDone := He.exm_ok (c.t.d.fact 211 (f := .exm "NoNumber" "NothingDone" false) rfl)
  e_FullBook_NothingDone := He.exm_ok (c.t.d.fact 212 (f := .exm "FullBook" "NothingDone" false) rfl)
  e_NoOrder_NothingDone := He.exm_ok (c.t.d.fact 213 (f := .exm "NoOrder" "NothingDone" false) rfl)
  e_SameOrder_NothingDone := He.exm_ok (c.t.d.fact 214 (f := .exm "SameOrder" "NothingDone" false) rfl)
  e_NoLine_NothingDone := He.exm_ok (c.t.d.fact 215 (f := .exm "NoLine" "NothingDone" false) rfl)
  e_TooMuch_NothingDone := He.exm_ok (c.t.d.fact 216 (f := .exm "TooMuch" "NothingDone" false) rfl)
  e_NothingDone_NothingDone := He.exm_ok (c.t.d.fact 217 (f := .exm "NothingDone" "NothingDone" true) rfl)
  e_NoDeed_SameOrder := He.exm_ok (c.t.d.fact 218 (f := .exm "NoDeed" "SameOrder" false) rfl)
  e_NoLines_SameOrder := He.exm_ok (c.t.d.fact 219 (f := .exm "NoLines" "SameOrder" false) rfl)
  e_NoItem_SameOrder := He.exm_ok (c.t.d.fact 220 (f := .exm "NoItem" "SameOrder" false) rfl)
  e_NoNumber_SameOrder := He.exm_ok (c.t.d.fact 221 (f := .exm "NoNumber" "SameOrder" false) rfl)
  e_FullBook_SameOrder := He.exm_ok (c.t.d.fact 222 (f := .exm "FullBook" "SameOrder" false) rfl)
  e_NoOrder_SameOrder := He.exm_ok (c.t.d.fact 223 (f := .exm "NoOrder" "SameOrder" false) rfl)
  e_SameOrder_SameOrder := He.exm_ok (c.t.d.fact 224 (f := .exm "SameOrder" "SameOrder" true) rfl)
  e_NoLine_SameOrder := He.exm_ok (c.t.d.fact 225 (f := .exm "NoLine" "SameOrder" false) rfl)
  e_TooMuch_SameOrder := He.exm_ok (c.t.d.fact 226 (f := .exm "TooMuch" "SameOrder" false) rfl)
  e_NothingDone_SameOrder := He.exm_ok (c.t.d.fact 227 (f := .exm "NothingDone" "SameOrder" false) rfl)
  e_NoDeed_TooMuch := He.exm_ok (c.t.d.fact 228 (f := .exm "NoDeed" "TooMuch" false) rfl)
  e_NoLines_TooMuch := He.exm_ok (c.t.d.fact 229 (f := .exm "NoLines" "TooMuch" false) rfl)
  e_NoItem_TooMuch := He.exm_ok (c.t.d.fact 230 (f := .exm "NoItem" "TooMuch" false) rfl)
  e_NoNumber_TooMuch := He.exm_ok (c.t.d.fact 231 (f := .exm "NoNumber" "TooMuch" false) rfl)
  e_FullBook_TooMuch := He.exm_ok (c.t.d.fact 232 (f := .exm "FullBook" "TooMuch" false) rfl)
  e_NoOrder_TooMuch := He.exm_ok (c.t.d.fact 233 (f := .exm "NoOrder" "TooMuch" false) rfl)
  e_SameOrder_TooMuch := He.exm_ok (c.t.d.fact 234 (f := .exm "SameOrder" "TooMuch" false) rfl)
  e_NoLine_TooMuch := He.exm_ok (c.t.d.fact 235 (f := .exm "NoLine" "TooMuch" false) rfl)
  e_TooMuch_TooMuch := He.exm_ok (c.t.d.fact 236 (f := .exm "TooMuch" "TooMuch" true) rfl)
  e_NothingDone_TooMuch := He.exm_ok (c.t.d.fact 237 (f := .exm "NothingDone" "TooMuch" false) rfl)
  f_Worth := by
    obtain ⟨fd, F⟩ := c.t.d.def_ 0 (d := dWorth) rfl
    exact fdO_of F
  f_IsItem := by
    obtain ⟨fd, F⟩ := c.t.d.def_ 1 (d := dIsItem) rfl
    exact fdO_of F
  f_CheckLine := by
    obtain ⟨fd, F⟩ := c.t.d.def_ 2 (d := dCheckLine) rfl
    exact fdO_of F
  f_LineInit := by
    obtain ⟨fd, F⟩ := c.t.d.def_ 3 (d := dLineInit) rfl
    exact fdO_of F
  f_LineKept := by
    obtain ⟨fd, F⟩ := c.t.d.def_ 4 (d := dLineKept) rfl
    exact fdO_of F
  f_LineToCome := by
    obtain ⟨fd, F⟩ := c.t.d.def_ 5 (d := dLineToCome) rfl
    exact fdO_of F
  f_LineKeptWorth := by
    obtain ⟨fd, F⟩ := c.t.d.def_ 6 (d := dLineKeptWorth) rfl
    exact fdO_of F
  f_LineCharge := by
    obtain ⟨fd, F⟩ := c.t.d.def_ 7 (d := dLineCharge) rfl
    exact fdO_of F
  f_LineDeliver := by
    obtain ⟨fd, F⟩ := c.t.d.def_ 8 (d := dLineDeliver) rfl
    exact fdO_of F
  f_LineBring := by
    obtain ⟨fd, F⟩ := c.t.d.def_ 9 (d := dLineBring) rfl
    exact fdO_of F
  f_LineReduce := by
    obtain ⟨fd, F⟩ := c.t.d.def_ 10 (d := dLineReduce) rfl
    exact fdO_of F
  f_LineNumbers := by
    obtain ⟨fd, F⟩ := c.t.d.def_ 11 (d := dLineNumbers) rfl
    exact fdO_of F
  f_Matched := by
    obtain ⟨fd, F⟩ := c.t.d.def_ 12 (d := dMatched) rfl
    exact fdO_of F
  f_OrderInit := by
    obtain ⟨fd, F⟩ := c.t.d.def_ 13 (d := dOrderInit) rfl
    exact fdO_of F
  f_OrderOwing := by
    obtain ⟨fd, F⟩ := c.t.d.def_ 14 (d := dOrderOwing) rfl
    exact fdO_of F
  f_OrderLineOf := by
    obtain ⟨fd, F⟩ := c.t.d.def_ 15 (d := dOrderLineOf) rfl
    exact fdO_of F
  f_OrderNeedOver := by
    obtain ⟨fd, F⟩ := c.t.d.def_ 16 (d := dOrderNeedOver) rfl
    exact fdO_of F
  f_OrderTurnLine := by
    obtain ⟨fd, F⟩ := c.t.d.def_ 17 (d := dOrderTurnLine) rfl
    exact fdO_of F
  f_OrderTake := by
    obtain ⟨fd, F⟩ := c.t.d.def_ 18 (d := dOrderTake) rfl
    exact fdO_of F
  f_OrderMark := by
    obtain ⟨fd, F⟩ := c.t.d.def_ 19 (d := dOrderMark) rfl
    exact fdO_of F
  f_Own := by
    obtain ⟨fd, F⟩ := c.t.d.def_ 20 (d := dOwn) rfl
    exact fdO_of F
  f_BookInit := by
    obtain ⟨fd, F⟩ := c.t.d.def_ 21 (d := dBookInit) rfl
    exact fdO_of F
  f_BookOrderOf := by
    obtain ⟨fd, F⟩ := c.t.d.def_ 22 (d := dBookOrderOf) rfl
    exact fdO_of F
  f_BookDo := by
    obtain ⟨fd, F⟩ := c.t.d.def_ 23 (d := dBookDo) rfl
    exact fdO_of F
  f_BookBegin := by
    obtain ⟨fd, F⟩ := c.t.d.def_ 24 (d := dBookBegin) rfl
    exact fdO_of F
  f_BookShift := by
    obtain ⟨fd, F⟩ := c.t.d.def_ 25 (d := dBookShift) rfl
    exact fdO_of F
  f_BookOne := by
    obtain ⟨fd, F⟩ := c.t.d.def_ 26 (d := dBookOne) rfl
    exact fdO_of F
  f_BookNeedNumber := by
    obtain ⟨fd, F⟩ := c.t.d.def_ 27 (d := dBookNeedNumber) rfl
    exact fdO_of F
  f_BookUndo := by
    obtain ⟨fd, F⟩ := c.t.d.def_ 28 (d := dBookUndo) rfl
    exact fdO_of F
  f_BookOrders := by
    obtain ⟨fd, F⟩ := c.t.d.def_ 29 (d := dBookOrders) rfl
    exact fdO_of F
  f_BookTold := by
    obtain ⟨fd, F⟩ := c.t.d.def_ 30 (d := dBookTold) rfl
    exact fdO_of F
  f_BookPaid := by
    obtain ⟨fd, F⟩ := c.t.d.def_ 31 (d := dBookPaid) rfl
    exact fdO_of F
  f_BookOwed := by
    obtain ⟨fd, F⟩ := c.t.d.def_ 32 (d := dBookOwed) rfl
    exact fdO_of F
  f_BookRows := by
    obtain ⟨fd, F⟩ := c.t.d.def_ 33 (d := dBookRows) rfl
    exact fdO_of F
  f_BookSettled := by
    obtain ⟨fd, F⟩ := c.t.d.def_ 34 (d := dBookSettled) rfl
    exact fdO_of F
  f_LCellAt := by
    obtain ⟨fd, F⟩ := c.t.d.def_ 35 (d := dLCellAt) rfl
    exact fdO_of F
  f_LWhole := by
    obtain ⟨fd, F⟩ := c.t.d.def_ 36 (d := dLWhole) rfl
    exact fdO_of F
  f_LLineWorth := by
    obtain ⟨fd, F⟩ := c.t.d.def_ 37 (d := dLLineWorth) rfl
    exact fdO_of F
  f_LOwedBy := by
    obtain ⟨fd, F⟩ := c.t.d.def_ 38 (d := dLOwedBy) rfl
    exact fdO_of F
  f_LMost := by
    obtain ⟨fd, F⟩ := c.t.d.def_ 39 (d := dLMost) rfl
    exact fdO_of F
  f_LPlaceBy := by
    obtain ⟨fd, F⟩ := c.t.d.def_ 40 (d := dLPlaceBy) rfl
    exact fdO_of F
  f_LNumberBy := by
    obtain ⟨fd, F⟩ := c.t.d.def_ 41 (d := dLNumberBy) rfl
    exact fdO_of F
  f_LItemBy := by
    obtain ⟨fd, F⟩ := c.t.d.def_ 42 (d := dLItemBy) rfl
    exact fdO_of F
  f_LLinesBy := by
    obtain ⟨fd, F⟩ := c.t.d.def_ 43 (d := dLLinesBy) rfl
    exact fdO_of F
  f_LDeedBy := by
    obtain ⟨fd, F⟩ := c.t.d.def_ 44 (d := dLDeedBy) rfl
    exact fdO_of F
  f_LRefusal := by
    obtain ⟨fd, F⟩ := c.t.d.def_ 45 (d := dLRefusal) rfl
    exact fdO_of F
  f_LTurned := by
    obtain ⟨fd, F⟩ := c.t.d.def_ 46 (d := dLTurned) rfl
    exact fdO_of F
  f_LStep := by
    obtain ⟨fd, F⟩ := c.t.d.def_ 47 (d := dLStep) rfl
    exact fdO_of F
  f_LHanded := by
    obtain ⟨fd, F⟩ := c.t.d.def_ 48 (d := dLHanded) rfl
    exact fdO_of F
  f_LTried := by
    obtain ⟨fd, F⟩ := c.t.d.def_ 49 (d := dLTried) rfl
    exact fdO_of F
  f_LPairsAlike := by
    obtain ⟨fd, F⟩ := c.t.d.def_ 50 (d := dLPairsAlike) rfl
    exact fdO_of F
  f_LPartsAlike := by
    obtain ⟨fd, F⟩ := c.t.d.def_ 51 (d := dLPartsAlike) rfl
    exact fdO_of F
  f_LDeedAlike := by
    obtain ⟨fd, F⟩ := c.t.d.def_ 52 (d := dLDeedAlike) rfl
    exact fdO_of F
  f_LAheadWhole := by
    obtain ⟨fd, F⟩ := c.t.d.def_ 53 (d := dLAheadWhole) rfl
    exact fdO_of F
  f_LIsTriple := by
    obtain ⟨fd, F⟩ := c.t.d.def_ 54 (d := dLIsTriple) rfl
    exact fdO_of F
  f_LMatchedWell := by
    obtain ⟨fd, F⟩ := c.t.d.def_ 55 (d := dLMatchedWell) rfl
    exact fdO_of F
  f_LRowsAlike := by
    obtain ⟨fd, F⟩ := c.t.d.def_ 56 (d := dLRowsAlike) rfl
    exact fdO_of F
  f_LLinesTold := by
    obtain ⟨fd, F⟩ := c.t.d.def_ 57 (d := dLLinesTold) rfl
    exact fdO_of F
  f_LStands := by
    obtain ⟨fd, F⟩ := c.t.d.def_ 58 (d := dLStands) rfl
    exact fdO_of F
  f_LModelOf := by
    obtain ⟨fd, F⟩ := c.t.d.def_ 59 (d := dLModelOf) rfl
    exact fdO_of F
  f_LStandsBy := by
    obtain ⟨fd, F⟩ := c.t.d.def_ 60 (d := dLStandsBy) rfl
    exact fdO_of F
  f_LBack := by
    obtain ⟨fd, F⟩ := c.t.d.def_ 61 (d := dLBack) rfl
    exact fdO_of F
  f_LOfOneClass := by
    obtain ⟨fd, F⟩ := c.t.d.def_ 62 (d := dLOfOneClass) rfl
    exact fdO_of F
  f_LNothing := by
    obtain ⟨fd, F⟩ := c.t.d.def_ 63 (d := dLNothing) rfl
    exact fdO_of F
  f_LDone := by
    obtain ⟨fd, F⟩ := c.t.d.def_ 64 (d := dLDone) rfl
    exact fdO_of F
  f_LPaidFirst := by
    obtain ⟨fd, F⟩ := c.t.d.def_ 65 (d := dLPaidFirst) rfl
    exact fdO_of F
  f_Law := by
    obtain ⟨fd, F⟩ := c.t.d.def_ 66 (d := dLaw) rfl
    exact fdO_of F
  kd := by
    have e : ts.map (fun t => He.dicW K (t.1 K)) = ts.map fun t => some (He.keysIn w.params t.2) := congrArg (fun z : He.AlT => z.2) c.t
    have e1 : He.dicW K (He.ga K "PARTS") = some (He.keysIn w.params (parts.map (·.1))) := (List.cons.inj e).1
    exact kd_of e1
  kv := (He.ba c.more).1
  xv := (He.ba c.more).2
theorem room_any {k : Nat} {A : Around} (h : Room k A) : Room k A := h
/-! ### rules of our own over the layer -/
theorem pe_gc {X : Cx} {x : Str} {v : V} {pos : Pos} (hg : Gl X x) (hm : ∃ u, X.mg x = some u ∧ RelV v u) (hd : (x == ("__debug__" : Str)) = false := by decide) : PE X (.Name x pos) (tC v) := by
  obtain ⟨u, h, r⟩ := hm
  exact pe_glob hg h r hd
/-! ### readings from the left: one lemma a form -/
section
variable {σ : L2.St} {H : Hp} {Q : VK} {QB : Bool → Hp → Prop} {D : Ends} {K : PySem.W.Frag}
theorem r_seq {t u : TS} (h : t { D with nx := u D } σ H) : tSeq t u D σ H := h
/-- the ways behind a statement are joined: P holds behind it -/
theorem r_join {t u : TS} (P : L2.St → Hp → Prop) (h2 : ∀ σ' H', P σ' H' → u D σ' H') (h1 : ∀ N : L2.St → Hp → Prop, (∀ σ' H', P σ' H' → N σ' H') → t { D with nx := N } σ H) : tSeq t u D σ H := h1 (u D) h2
/-- a test, by what it tells -/
theorem r_ifj {c : TT} {t u : TS} (P : Bool → Hp → Prop) (h2 : ∀ b H', P b H' → if b = true then t D σ H' else u D σ H') (h1 : ∀ QB' : Bool → Hp → Prop, (∀ b H', P b H' → QB' b H') → c σ H QB') : tIfS c t u D σ H := h1 _ h2
theorem r_asg {te : TE} {i : Nat} (h : te σ H fun x H1 => D.nx (σ.set i (some x)) H1) : tAsg te (gName i) D σ H := h
theorem r_gn {i : Nat} {v : V} {R : L2.St → Hp → Prop} (h : R (σ.set i (some v)) H) : gName i v σ H R := h
theorem r_ret {te : TE} (h : te σ H D.rt) : tRet te D σ H := h
theorem r_retN (h : D.rt .non H) : tRetN D σ H := h
theorem r_drop {te : TE} (h : te σ H fun _ H1 => D.nx σ H1) : tDrop te D σ H := h
theorem r_ifs {c : TT} {t u : TS} (h : c σ H fun b H1 => if b = true then t D σ H1 else u D σ H1) : tIfS c t u D σ H := h
theorem r_next (h : D.nx σ H) : tNext D σ H := h
theorem r_var {i : Nat} {v : V} (e : σ[i]? = some (some v)) (h : Q v H) : tVar i σ H Q := ⟨v, e, h⟩
theorem r_c {v : V} (h : Q v H) : tC v σ H Q := h
theorem r_op {r : R2} {ta tb : TE} (h : ta σ H fun x H1 => tb σ H1 fun y H2 => r x y H2 Q) : tOp r ta tb σ H Q := h
theorem r_un {r : V → Hp → VK → Prop} {ta : TE} (h : ta σ H fun x H1 => r x H1 Q) : tUn r ta σ H Q := h
theorem r_U {g : Int → V} {i : Int} (h : Q (g i) H) : rU g (.int i) H Q := ⟨i, rfl, h⟩
theorem r_I0 {g : Int → Int → V} {i j : Int} (h : Q (g i j) H) : rI0 g (.int i) (.int j) H Q := ⟨i, j, rfl, rfl, h⟩
theorem r_I {C : Int → Int → Prop} {g : Int → Int → V} {i j : Int} (c : C i j) (h : Q (g i j) H) : rI C g (.int i) (.int j) H Q := ⟨i, j, rfl, rfl, c, h⟩
theorem r_eqI {i j : Int} (h : Q (.bl (decide (i = j))) H) : rEq (.int i) (.int j) H Q := by
  refine ⟨rfl, ?_⟩
  have e : decide (V.int i = V.int j) = decide (i = j) := by simp
  rw [e]
  exact h
theorem r_neI {i j : Int} (h : Q (.bl (!decide (i = j))) H) : rNe (.int i) (.int j) H Q := by
  refine ⟨rfl, ?_⟩
  have e : decide (V.int i = V.int j) = decide (i = j) := by simp
  rw [e]
  exact h
theorem r_eqS {i j : Str} (h : Q (.bl (decide (i = j))) H) : rEq (.str i) (.str j) H Q := by
  refine ⟨rfl, ?_⟩
  have e : decide (V.str i = V.str j) = decide (i = j) := by simp
  rw [e]
  exact h
theorem r_neS {i j : Str} (h : Q (.bl (!decide (i = j))) H) : rNe (.str i) (.str j) H Q := by
  refine ⟨rfl, ?_⟩
  have e : decide (V.str i = V.str j) = decide (i = j) := by simp
  rw [e]
  exact h
theorem r_test {t : TE} (h : t σ H fun x H1 => ∃ k, x = V.bl k ∧ QB k H1) : tTest t σ H QB := h
theorem r_tB {t : TE} (h : t σ H fun x H1 => ∃ k, x = V.bl k ∧ QB k H1) : tB t σ H QB := h
theorem r_exb {b : Bool} {P : Bool → Prop} (h : P b) : ∃ k, V.bl b = V.bl k ∧ P k := ⟨b, rfl, h⟩
theorem r_and {t u : TT} (h : t σ H fun c H1 => if c = true then u σ H1 QB else QB false H1) : tAnd t u σ H QB := h
theorem r_or {t u : TT} (h : t σ H fun c H1 => if c = true then QB true H1 else u σ H1 QB) : tOr t u σ H QB := h
theorem r_not {t : TT} (h : t σ H fun c H1 => QB (!c) H1) : tNot t σ H QB := h
theorem r_andV {ta tb : TE} (h : ta σ H fun x H1 => ∃ c, x = V.bl c ∧ if c = true then tb σ H1 Q else Q (.bl false) H1) : tAndV ta tb σ H Q := h
theorem r_orV {ta tb : TE} (h : ta σ H fun x H1 => ∃ c, x = V.bl c ∧ if c = true then Q (.bl true) H1 else tb σ H1 Q) : tOrV ta tb σ H Q := h
theorem r_notV {ta : TE} (h : ta σ H fun x H1 => ∃ c, x = V.bl c ∧ Q (.bl (!c)) H1) : tNotV ta σ H Q := h
theorem r_ifE {t : TT} {ta tb : TE} (h : t σ H fun c H1 => if c = true then ta σ H1 Q else tb σ H1 Q) : tIf t ta tb σ H Q := h
theorem r_nil {QA : List V → Hp → Prop} (h : QA [] H) : tNil σ H QA := h
theorem r_cons {te : TE} {ta : TA} {QA : List V → Hp → Prop} (h : te σ H fun x H1 => ta σ H1 fun xs H2 => QA (x :: xs) H2) : tCons te ta σ H QA := h
theorem r_cb {r : List V → Hp → VK → Prop} {t : TA} (h : t σ H fun vs H1 => r vs H1 Q) : tCB r t σ H Q := h
theorem r_tup {t : TA} (h : t σ H fun xs H1 => xs.length ≤ sizeLine ∧ ∀ p, H1 p = none → Q (.ref p) (upd H1 p (.tup xs))) : tTup t σ H Q := h
theorem r_lst {t : TA} (h : t σ H fun xs H1 => xs.length ≤ sizeLine ∧ ∀ p, H1 p = none → Q (.ref p) (upd H1 p (.lst xs))) : tLst t σ H Q := h
theorem r_mk {xs : List V} {P : Addr → Prop} (hl : xs.length ≤ 100) (h : ∀ p, P p) : xs.length ≤ sizeLine ∧ ∀ p, P p := ⟨Nat.le_trans hl (by rw [sizeLine_eq]; decide), h⟩
theorem r_call {sp : Sp} {E : XK} {t : TA} (h : t σ H fun vs H1 => sp (vs ++ []) H1 Q E) : tCall sp [] E t σ H Q := h
theorem r_callS {sp : Sp} {E : L2.St → XK} {t : TA} (h : t σ H fun vs H1 => sp vs H1 Q (E σ)) : tCallS sp E t σ H Q := h
theorem r_meth {C : Addr} {m : Str} {sp : Sp} {E : XK} {ta : TE} {t : TA} (h : ta σ H fun x H1 => ∃ a dx fs, x = V.ref a ∧ H1 a = some (.ins C dx fs) ∧ fs.lookup m = none ∧ t σ H1 fun vs H2 => sp (x :: (vs ++ [])) H2 Q E) :
    tMeth C m sp [] E ta t σ H Q := h
theorem r_m {C : Addr} {m : Str} {a dx : Addr} {fs : List (Str × V)} {P : Prop} (ho : H a = some (.ins C dx fs)) (hn : fs.lookup m = none) (h : P) : ∃ a' dx' fs', V.ref a = V.ref a' ∧ H a' = some (.ins C dx' fs') ∧ fs'.lookup m = none ∧ P :=
  ⟨a, dx, fs, rfl, ho, hn, h⟩
theorem r_fld {ta : TE} {f : Str} (h : ta σ H fun x H1 => ∃ a C dx fs v, x = V.ref a ∧ H1 a = some (.ins C dx fs) ∧ Cls K C ∧ NoAttr K C f ∧ fs.lookup f = some v ∧ Q v H1) : tFld K ta f σ H Q := h
theorem r_f {f : Str} {a C dx : Addr} {fs : List (Str × V)} {v : V} {P : V → Prop} (ho : H a = some (.ins C dx fs)) (hc : Cls K C) (hn : NoAttr K C f) (hl : fs.lookup f = some v) (h : P v) :
    ∃ a' C' dx' fs' v', V.ref a = V.ref a' ∧ H a' = some (.ins C' dx' fs') ∧ Cls K C' ∧ NoAttr K C' f ∧ fs'.lookup f = some v' ∧ P v' := ⟨a, C, dx, fs, v, rfl, ho, hc, hn, hl, h⟩
theorem r_sfld {ta tv : TE} {f : Str} (h : tv σ H fun y H1 => ta σ H1 fun x H2 => ∃ a C dx fs, x = V.ref a ∧ H2 a = some (.ins C dx fs) ∧ Cls K C ∧ NoAttr K C f ∧ fs.length < 1000 ∧ D.nx σ (upd H2 a (.ins C dx (putF f y fs)))) :
    sFld K ta tv f D σ H := h
theorem r_sf {f : Str} {y : V} {a C dx : Addr} {fs gs : List (Str × V)} {P : Hp → Prop} (ho : H a = some (.ins C dx fs)) (hc : Cls K C) (hn : NoAttr K C f) (hp : putF f y fs = gs) (hl : fs.length ≤ 20) (h : P (upd H a (.ins C dx gs))) :
    ∃ a' C' dx' fs', V.ref a = V.ref a' ∧ H a' = some (.ins C' dx' fs') ∧ Cls K C' ∧ NoAttr K C' f ∧ fs'.length < 1000 ∧ P (upd H a' (.ins C' dx' (putF f y fs'))) :=
  ⟨a, C, dx, fs, rfl, ho, hc, hn, Nat.lt_of_le_of_lt hl (by decide), by rw [hp]; exact h⟩
theorem r_ixT {a : Addr} {xs : List V} {i : Int} {v : V} (h : SqT K H a xs) (e : atI xs i = some v) (q : Q v H) : rIxT K (.ref a) (.int i) H Q := ⟨a, xs, i, v, rfl, rfl, h, e, q⟩
theorem r_ixL {a : Addr} {xs : List V} {i : Int} {v : V} (h : SqL K H a xs) (e : atI xs i = some v) (q : Q v H) : rIxL K (.ref a) (.int i) H Q := ⟨a, xs, i, v, rfl, rfl, h, e, q⟩
theorem r_chain {r r' : R2} {ta tb tc : TE} (h : ta σ H fun x H1 => tb σ H1 fun y H2 => r x y H2 fun z H3 => ∃ k, z = V.bl k ∧ (if k = true then tc σ H3 fun w H4 => r' y w H4 Q else Q (.bl false) H3)) : tChain r r' ta tb tc σ H Q := h
theorem r_itd {p : Prop} [Decidable p] {A B : Prop} (h1 : p → A) (h2 : ¬ p → B) : if decide p = true then A else B := by
  by_cases h : p
  · rw [decide_eq_true h, if_pos rfl]; exact h1 h
  · rw [decide_eq_false h, if_neg (by decide)]; exact h2 h
theorem r_itn {p : Prop} [Decidable p] {A B : Prop} (h1 : ¬ p → A) (h2 : p → B) : if (!decide p) = true then A else B := by
  by_cases h : p
  · rw [decide_eq_true h, if_neg (by decide)]; exact h2 h
  · rw [decide_eq_false h, if_pos (show (!false) = true from rfl)]; exact h1 h
theorem r_itb {b : Bool} {A B : Prop} (h1 : b = true → A) (h2 : b = false → B) : if b = true then A else B := by
  cases b with
  | true => rw [if_pos rfl]; exact h1 rfl
  | false => rw [if_neg (by decide)]; exact h2 rfl
theorem r_ity {p : Prop} [Decidable p] {A B : Prop} (hp : p) (h : A) : if decide p = true then A else B := by
  rw [decide_eq_true hp, if_pos rfl]; exact h
theorem r_itz {p : Prop} [Decidable p] {A B : Prop} (hp : ¬ p) (h : B) : if decide p = true then A else B := by
  rw [decide_eq_false hp, if_neg (by decide)]; exact h
theorem r_itT {A B : Prop} (h : A) : if true = true then A else B := h
theorem r_itF {A B : Prop} (h : B) : if false = true then A else B := by
  rw [if_neg (by decide)]; exact h
theorem r_itnT {A B : Prop} (h : B) : if (!true) = true then A else B := by
  rw [if_neg (by decide)]; exact h
theorem r_itnF {A B : Prop} (h : A) : if (!false) = true then A else B := by
  rw [if_pos (by decide)]; exact h
theorem r_make {C : Addr} {sp : Sp} {E : XK} {t : TA} (h : t σ H fun vs H1 => ∀ x dx, H1 x = none → H1 dx = none → dx ≠ x → sp (.ref x :: (vs ++ [])) (upd (upd H1 dx (.own x)) x (.ins C dx [])) (fun v H2 => v = .non ∧ Q (.ref x) H2) E) : tMake C sp [] E t σ H Q := h
theorem r_bm {T : String} {r : V → List V → Hp → VK → Prop} {to : TE} {t : TA} (h : to σ H fun x H1 => tyV K T x H1 ∧ t σ H1 fun xs H2 => r x xs H2 Q) : tBM K T r to t σ H Q := h
theorem r_tyL {p : Addr} {xs : List V} {P : Prop} (h : SqL K H p xs) (q : P) : tyV K "list" (.ref p) H ∧ P := ⟨.inl ⟨rfl, xs, h⟩, q⟩
theorem r_app {l : Addr} {xs : List V} {y : V} (h : H l = some (.lst xs)) (hz : xs.length < sizeLine) (q : Q .non (upd H l (.lst (xs ++ [y])))) : rAppend (.ref l) [y] H Q := ⟨l, xs, y, rfl, rfl, h, hz, q⟩
theorem r_yes (h : QB true H) : tYes σ H QB := h
theorem r_raise {cls : Value} {W : WX} (h : W cls none σ H) : (fun (_ : Ends) (σ : L2.St) (H : Hp) => (fun (_ : L2.St) (H : Hp) (Q : XK) => Q cls none H) σ H fun cls d H' => W cls d σ H') D σ H := h
end
theorem atI_get {α : Type} {xs : List α} {i : Int} {j : Nat} {v : α} (e : i = (j : Int)) (h : xs[j]? = some v) : atI xs i = some v := by
  subst e
  have hl : j < xs.length := (List.getElem?_eq_some_iff.mp h).1
  unfold atI ixN
  rw [if_pos (by omega), if_pos (by omega)]
  simpa using h
theorem lk_hit {a : Str} {v : V} {r : List (Str × V)} : List.lookup a ((a, v) :: r) = some v := by simp [List.lookup]
theorem lk_miss {a b : Str} {v : V} {r : List (Str × V)} (h : ¬ a = b) : List.lookup a ((b, v) :: r) = List.lookup a r := by
  have e : (a == b) = false := by simpa using h
  simp [List.lookup, e]
theorem pf_hit {a : Str} {v u : V} {r : List (Str × V)} : putF a v ((a, u) :: r) = (a, v) :: r := by
  show (if a = a then (a, v) :: r else _) = _
  rw [if_pos rfl]
theorem pf_miss {a b : Str} {v u : V} {r : List (Str × V)} (h : ¬ b = a) : putF a v ((b, u) :: r) = (b, u) :: putF a v r := by
  show (if b = a then _ else (b, u) :: putF a v r) = _
  rw [if_neg h]
theorem pf_nil {a : Str} {v : V} : putF a v [] = [(a, v)] := rfl
/-- all but S is as it was; tuples always -/
structure But (S : Addr → Prop) (H H' : Hp) : Prop where
  keep : ∀ a o, H a = some o → ¬ S a → H' a = some o
  tup : ∀ a xs, H a = some (.tup xs) → H' a = some (.tup xs)
theorem But.refl {S : Addr → Prop} {H : Hp} : But S H H := ⟨fun _ _ h _ => h, fun _ _ h => h⟩
theorem But.trans {S : Addr → Prop} {H H1 H2 : Hp} (a : But S H H1) (b : But S H1 H2) : But S H H2 := ⟨fun x o h n => b.keep x o (a.keep x o h n) n, fun x o h => b.tup x o (a.tup x o h)⟩
theorem But.of {S : Addr → Prop} {H H' : Hp} (h : Same H H') : But S H H' := ⟨fun x o e _ => h x o e, fun x o e => h x _ e⟩
theorem But.mono {S S' : Addr → Prop} {H H' : Hp} (h : But S H H') (m : ∀ a, S a → S' a) : But S' H H' := ⟨fun x o e n => h.keep x o e fun z => n (m x z), h.tup⟩
theorem But.ins {S : Addr → Prop} {H : Hp} {a C dx : Addr} {fs : List (Str × V)} {o : HO} (ha : H a = some (.ins C dx fs)) (h : S a) : But S H (L2.upd H a o) :=
  ⟨fun x u e n => by rw [upd_ne (fun z => n (by rw [z]; exact h))]; exact e, fun x u e => by rw [upd_ne (ne_of e ha (by intro q; cases q))]; exact e⟩
theorem But.lst {S : Addr → Prop} {H : Hp} {a : Addr} {xs : List V} {o : HO} (ha : H a = some (.lst xs)) (h : S a) : But S H (L2.upd H a o) :=
  ⟨fun x u e n => by rw [upd_ne (fun z => n (by rw [z]; exact h))]; exact e, fun x u e => by rw [upd_ne (ne_of e ha (by intro q; cases q))]; exact e⟩
theorem same_upd {H : Hp} {a : Addr} {o : HO} (h : H a = none) : Same H (L2.upd H a o) := fun x u e => by
  rw [upd_ne (ne_of_none e h)]; exact e
/-- a new address may change -/
theorem But.new {S : Addr → Prop} {H H1 : Hp} {a : Addr} {o : HO} (b : But S H H1) (h : H a = none) : But S H (L2.upd H1 a o) :=
  ⟨fun x u e n => by rw [upd_ne (ne_of_none e h)]; exact b.keep x u e n, fun x u e => by rw [upd_ne (ne_of_none e h)]; exact b.tup x u e⟩
theorem But.same {H H' : Hp} (h : But (fun _ => False) H H') : Same H H' := fun x o e => h.keep x o e id
theorem But.mut {S S' : Addr → Prop} {H H1 H2 : Hp} (b : But S H H1) (c : But S' H1 H2) (m : ∀ a, S' a → S a ∨ H a = none) : But S H H2 :=
  ⟨fun x u e n => c.keep x u (b.keep x u e n) fun z => (m x z).elim n fun q => (by rw [q] at e; cases e), fun x u e => c.tup x u (b.tup x u e)⟩
theorem sz5 {n : Nat} (h : n ≤ 100000) : n ≤ sizeLine := Nat.le_trans h (by rw [sizeLine_eq]; decide)
theorem sz5l {n : Nat} (h : n < 100000) : n < sizeLine := Nat.lt_of_lt_of_le h (by rw [sizeLine_eq]; decide)
/-! ### comprehensions -/
theorem wipe1 {σ : L2.St} {j : Nat} {x : V} : wipe ((wipe σ [j]).set j (some x)) [j] = wipe σ [j] := by
  show ((σ.set j none).set j (some x)).set j none = σ.set j none
  simp
theorem take_snoc {α : Type} : ∀ {l : List α} {i : Nat} {x : α}, l[i]? = some x → l.take (i + 1) = l.take i ++ [x]
  | [], i, x, h => by simp at h
  | a :: l, 0, x, h => by
    have e : a = x := Option.some.inj h
    subst e
    rfl
  | a :: l, i + 1, x, h => by
    have ih := take_snoc (l := l) (i := i) (x := x) h
    show a :: l.take (i + 1) = a :: l.take i ++ [x]
    rw [ih]
    rfl
/-- what a comprehension's walk asks -/
def Lcs (J : It) (g : TG) (tt : TT) (te : TE) (vs : List Nat) (σ : L2.St) (H1 : Hp) (Q : VK) : Prop := ∀ D, H1 D = none → ∃ W : Nat → Nat → Hp → Prop, (∃ m, W 0 m (L2.upd H1 D (.lst []))) ∧ ∀ i m H, W i m H →
  (J.stop i H ∧ Q (.ref D) H) ∨ (J.go i H ∧ ∃ Nx : Hp → Prop, (∀ H', Nx H' → ∃ m', m' < m ∧ W (i + 1) m' H') ∧ ∀ x H', J.yld i H x H' → g x (wipe σ vs) H' fun σ2 H2 => wipe σ2 vs = wipe σ vs ∧ tt σ2 H2 fun b H3 =>
    if b = true then te σ2 H3 fun y H4 => ∃ acc, H4 D = some (.lst acc) ∧ acc.length < sizeLine ∧ Nx (L2.upd H4 D (.lst (acc ++ [y]))) else Nx H3)
theorem r_lcl {K : PySem.W.Frag} {tl te : TE} {g : TG} {tt : TT} {vs : List Nat} {σ : L2.St} {H : Hp} {Q : VK} (h : tl σ H fun x H1 => ∃ a, x = V.ref a ∧ (∃ xs, SqL K H1 a xs) ∧ Lcs (Itl K a) g tt te vs σ H1 Q) : tLc (iList K tl) g tt te vs σ H Q := h
theorem r_lct {K : PySem.W.Frag} {tl te : TE} {g : TG} {tt : TT} {vs : List Nat} {σ : L2.St} {H : Hp} {Q : VK} (h : tl σ H fun x H1 => ∃ a, x = V.ref a ∧ (∃ xs, SqT K H1 a xs) ∧ Lcs (Itt K a) g tt te vs σ H1 Q) : tLc (iTup K tl) g tt te vs σ H Q := h
theorem r_lcr {ta : TA} {te : TE} {g : TG} {tt : TT} {vs : List Nat} {σ : L2.St} {H : Hp} {Q : VK} (h : ta σ H fun us H1 => ∃ j : Int, us = [V.int j] ∧ -(2 ^ 62) ≤ j ∧ j < 2 ^ 62 ∧ Lcs (Itr 0 j.toNat) g tt te vs σ H1 Q) : tLc (iRng1 ta) g tt te vs σ H Q := h
/-- a comprehension whose elements leave what stands: by the list of its values -/
theorem lcp_list {K : PySem.W.Frag} {te : TE} {j : Nat} {σ : L2.St} {H1 : Hp} {Q : VK} {a : Addr} {xs ys : List V} (hs : SqL K H1 a xs) (hl : ys.length = xs.length) (hz : xs.length ≤ 100000)
    (he : ∀ (i : Nat) (x y : V) (H' : Hp) (R : VK), xs[i]? = some x → ys[i]? = some y → Same H1 H' → (∀ H'', Same H' H'' → R y H'') → te ((wipe σ [j]).set j (some x)) H' R)
    (k : ∀ (D : Addr) (H' : Hp), H1 D = none → Same H1 H' → H' D = some (.lst ys) → Q (.ref D) H') : ∃ a', V.ref a = V.ref a' ∧ (∃ xs, SqL K H1 a' xs) ∧ Lcs (Itl K a') (gName j) tYes te [j] σ H1 Q := by
  refine ⟨a, rfl, ⟨xs, hs⟩, fun D hD => ?_⟩
  refine lc_list (K := K) (a := a) (xs := xs) (fun i H' => Same H1 H' ∧ H' D = some (.lst (ys.take i))) ⟨same_upd hD, upd_same⟩ (fun i H' _ p => p.1.seq hs) ?_ ?_
  · rintro i x H' hi ⟨s, e⟩
    have hi2 : i < ys.length := by rw [hl]; exact (List.getElem?_eq_some_iff.mp hi).1
    have ey : ys[i]? = some ys[i] := List.getElem?_eq_getElem hi2
    refine ⟨wipe1, r_yes (r_itT ?_)⟩
    refine he i x _ H' _ hi ey s fun H'' s2 => ⟨_, s2 _ _ e, ?_, ?_, ?_⟩
    · refine sz5l ?_
      rw [List.length_take]
      omega
    · exact fun b o q => by
        rw [upd_ne (ne_of_none q hD)]
        exact s2 _ _ (s _ _ q)
    · rw [upd_same, take_snoc ey]
  · rintro H' ⟨s, e⟩
    refine k D H' hD s ?_
    rw [e, List.take_of_length_le (by omega)]
/-- .. whose elements are told by a relation that leans on tuples alone -/
theorem lcp_rel {K : PySem.W.Frag} {te : TE} {j : Nat} {σ : L2.St} {H1 : Hp} {Q : VK} {a : Addr} {xs : List V} {α : Type} {R : Hp → V → α → Prop} {zs : List α} (hs : SqL K H1 a xs) (hl : zs.length = xs.length) (hz : xs.length ≤ 100000)
    (stab : ∀ H H' v z, R H v z → (∀ b ys, H b = some (.tup ys) → H' b = some (.tup ys)) → R H' v z)
    (he : ∀ (i : Nat) (x : V) (z : α) (H' : Hp) (W : VK), xs[i]? = some x → zs[i]? = some z → Same H1 H' → (∀ y H'', Same H' H'' → R H'' y z → W y H'') → te ((wipe σ [j]).set j (some x)) H' W)
    (k : ∀ (D : Addr) (H' : Hp) (acc : List V), H1 D = none → Same H1 H' → H' D = some (.lst acc) → Paired (R H') acc zs → Q (.ref D) H') : ∃ a', V.ref a = V.ref a' ∧ (∃ xs, SqL K H1 a' xs) ∧ Lcs (Itl K a') (gName j) tYes te [j] σ H1 Q := by
  refine ⟨a, rfl, ⟨xs, hs⟩, fun D hD => ?_⟩
  refine lc_list (K := K) (a := a) (xs := xs) (fun i H' => Same H1 H' ∧ ∃ acc, H' D = some (.lst acc) ∧ Paired (R H') acc (zs.take i)) ⟨same_upd hD, [], upd_same, .nil⟩ (fun i H' _ p => p.1.seq hs) ?_ ?_
  · rintro i x H' hi ⟨s, acc, e, pr⟩
    have hi1 : i < xs.length := (List.getElem?_eq_some_iff.mp hi).1
    have hi2 : i < zs.length := by rw [hl]; exact hi1
    have ez : zs[i]? = some zs[i] := List.getElem?_eq_getElem hi2
    refine ⟨wipe1, r_yes (r_itT ?_)⟩
    refine he i x _ H' _ hi ez s fun y H'' s2 r => ⟨acc, s2 _ _ e, ?_, ?_, acc ++ [y], upd_same, ?_⟩
    · have := pr.length
      rw [List.length_take] at this
      refine sz5l ?_
      omega
    · exact fun b o q => by
        rw [upd_ne (ne_of_none q hD)]
        exact s2 _ _ (s _ _ q)
    · have up : ∀ b ys, H'' b = some (.tup ys) → L2.upd H'' D (.lst (acc ++ [y])) b = some (.tup ys) := fun b ys q => by
        rw [upd_ne (ne_of q (s2 _ _ e) (by intro z; cases z))]
        exact q
      rw [take_snoc ez]
      exact Paired.snoc (Paired.mapP pr fun _ _ q => stab _ _ _ _ q fun b ys w => up b ys (s2 _ _ w)) (stab _ _ _ _ r up)
  · rintro H' ⟨s, acc, e, pr⟩
    rw [List.take_of_length_le (by omega)] at pr
    exact k D H' acc hD s e pr
/-- .. over a range -/
theorem lcp_range {te : TE} {j : Nat} {σ : L2.St} {H1 : Hp} {Q : VK} {n : Int} {ys : List V} (hl : ys.length = n.toNat) (hz : n ≤ 100000) (hn : -100000 ≤ n)
    (he : ∀ (i : Nat) (y : V) (H' : Hp) (R : VK), ys[i]? = some y → Same H1 H' → (∀ H'', Same H' H'' → R y H'') → te ((wipe σ [j]).set j (some (.int (i : Int)))) H' R)
    (k : ∀ (D : Addr) (H' : Hp), H1 D = none → Same H1 H' → H' D = some (.lst ys) → Q (.ref D) H') : ∃ m : Int, [V.int n] = [V.int m] ∧ -(2 ^ 62) ≤ m ∧ m < 2 ^ 62 ∧ Lcs (Itr 0 m.toNat) (gName j) tYes te [j] σ H1 Q := by
  refine ⟨n, rfl, by omega, by omega, fun D hD => ?_⟩
  refine lc_range (lo := 0) (n := n.toNat) (fun i H' => Same H1 H' ∧ H' D = some (.lst (ys.take i))) ⟨same_upd hD, upd_same⟩ ?_ ?_
  · rintro i H' hi ⟨s, e⟩
    have hi2 : i < ys.length := by rw [hl]; exact hi
    have ey : ys[i]? = some ys[i] := List.getElem?_eq_getElem hi2
    refine ⟨wipe1, r_yes (r_itT ?_)⟩
    rw [Int.zero_add]
    refine he i _ H' _ ey s fun H'' s2 => ⟨_, s2 _ _ e, ?_, ?_, ?_⟩
    · refine sz5l ?_
      rw [List.length_take]
      omega
    · exact fun b o q => by
        rw [upd_ne (ne_of_none q hD)]
        exact s2 _ _ (s _ _ q)
    · rw [upd_same, take_snoc ey]
  · rintro H' ⟨s, e⟩
    refine k D H' hD s ?_
    rw [e, List.take_of_length_le (by omega)]
/-! ### what a for's walk asks -/
def Fors (J : It) (g : TG) (tb : TS) (D : Ends) (σ : L2.St) (H1 : Hp) : Prop := ∃ W : Nat → Nat → L2.St → Hp → Prop, (∃ m, W 0 m σ H1) ∧ ∀ i m σ H, W i m σ H →
  (J.stop i H ∧ D.nx σ H) ∨ (J.go i H ∧ ∃ N : L2.St → Hp → Prop, (∀ σ' H', N σ' H' → ∃ m', m' < m ∧ W (i + 1) m' σ' H') ∧ ∀ x H', J.yld i H x H' → g x σ H' fun σ2 H2 => tb { D with nx := N, ct := N, bk := D.nx } σ2 H2)
theorem r_forl {K : PySem.W.Frag} {tl : TE} {g : TG} {tb : TS} {D : Ends} {σ : L2.St} {H : Hp} (h : tl σ H fun x H1 => ∃ a, x = V.ref a ∧ (∃ xs, SqL K H1 a xs) ∧ Fors (Itl K a) g tb D σ H1) : tFor (iList K tl) g tb D σ H := h
theorem r_fort {K : PySem.W.Frag} {tl : TE} {g : TG} {tb : TS} {D : Ends} {σ : L2.St} {H : Hp} (h : tl σ H fun x H1 => ∃ a, x = V.ref a ∧ (∃ xs, SqT K H1 a xs) ∧ Fors (Itt K a) g tb D σ H1) : tFor (iTup K tl) g tb D σ H := h
theorem r_fors {te : TE} {g : TG} {tb : TS} {D : Ends} {σ : L2.St} {H : Hp} (h : te σ H fun v H1 => ∃ x, v = V.str x ∧ Fors (Its x) g tb D σ H1) : tFor (iStr te) g tb D σ H := h
theorem r_forr {ta : TA} {g : TG} {tb : TS} {D : Ends} {σ : L2.St} {H : Hp} (h : ta σ H fun us H1 => ∃ j : Int, us = [V.int j] ∧ -(2 ^ 62) ≤ j ∧ j < 2 ^ 62 ∧ Fors (Itr 0 j.toNat) g tb D σ H1) : tFor (iRng1 ta) g tb D σ H := h
theorem r_forr2 {ta : TA} {g : TG} {tb : TS} {D : Ends} {σ : L2.St} {H : Hp} (h : ta σ H fun us H1 => ∃ i j : Int, us = [V.int i, V.int j] ∧ (-(2 ^ 62) ≤ i ∧ i < 2 ^ 62 ∧ -(2 ^ 62) ≤ j ∧ j < 2 ^ 62) ∧ Fors (Itr i (j - i).toNat) g tb D σ H1) : tFor (iRng2 ta) g tb D σ H := h
theorem pf_m {a b : Str} {v u : V} {r s : List (Str × V)} (h : ¬ b = a) (e : putF a v r = s) : putF a v ((b, u) :: r) = (b, u) :: s := by
  rw [pf_miss h, e]
theorem lk_m {a b : Str} {v u : V} {r : List (Str × V)} (h : ¬ a = b) (e : List.lookup a r = some u) : List.lookup a ((b, v) :: r) = some u := (lk_miss h).trans e
theorem lk_n {a b : Str} {v : V} {r : List (Str × V)} (h : ¬ a = b) (e : List.lookup a r = none) : List.lookup a ((b, v) :: r) = none := (lk_miss h).trans e
/-! ### the data of the program -/
structure Ln where
  item : Str
  ordered : Int
  cents : Int
  pack : Int
  sent : Int
  home : Int
  again : Int
  credited : Int
def lnF (l : Ln) : List (Str × V) := [("item", .str l.item), ("ordered", .int l.ordered), ("cents", .int l.cents), ("pack", .int l.pack), ("sent", .int l.sent), ("home", .int l.home), ("again", .int l.again), ("credited", .int l.credited)]
def odF (ll : Addr) (m : Int) (lm : Addr) : List (Str × V) := [("lines", .ref ll), ("money", .int m), ("marks", .ref lm)]
def bkF (e t : Addr) : List (Str × V) := [("each", .ref e), ("trail", .ref t)]
/-! ### a method that may raise, called in a try -/
def tMX (C : Addr) (m : Str) (sp : Sp) (E : L2.St → XK) (ta : TE) (t : TA) : TE := fun σ H Q => ta σ H fun x H1 => ∃ a dx fs, x = V.ref a ∧ H1 a = some (.ins C dx fs) ∧ fs.lookup m = none ∧ t σ H1 fun vs H2 => sp (x :: vs) H2 Q (E σ)
theorem pe_mX {X : Cx} {CX : CXT} {k : Nat} {f C : Addr} {fd : FuncData} {ps : List Str} {sp : Sp} {E : L2.St → XK} {m : Str} {pos apos : Pos} {e o : Expr} {es : List Expr} {ta : TE} {t : TA} {pl : Sem Bool}
    (ho : PE X o ta) (hc : Cls X.K C) (hm : Meth X.K C m f) (G : FnOk X.prog X.w X.K X.mg X.base CX k f fd ps sp) (room : Room k X.A) (bd : Binds X.K fd ps []) (pass : ∀ σ, PassesAt CX X σ (E σ)) (hargs : PA X (e :: es) t)
    (hstar : starEach (e :: es) X.env = (false, eval e X.env) :: starEach es X.env := by rfl) (hplain : (backTo pos (starEach es X.env)).any (·.1) = false := by rfl)
    (hform : eval (.Call (.Attribute o m apos) (e :: es) [] pos) X.env = (do let ov ← eval o X.env; standAt apos.atName; let (f, first) ← holding [ov] (getMethod ov m pl); callWith pos f first (backTo pos (starEach (e :: es) X.env)) (backToKw pos (keywordEach [] X.env))) := by rfl) :
    PE X (.Call (.Attribute o m apos) (e :: es) [] pos) (tMX C m sp E ta t) := by
  refine ⟨fun pins st σ H Q inv hq => ?_⟩
  refine PySem.W.methodCall_KW (pl := pl) (thn (ho.run pins st σ H _ inv hq) fun u st1 hu => ?_) hform
  obtain ⟨x, H1, inv1, rx, a, dx, fs, ex, ea, hl, q⟩ := hu
  subst ex
  obtain rfl : u = Value.ref a := rx
  refine getmeth_ok inv1 ea hc hm hl ?_
  refine PySem.W.callWith_K (first := [.ref a]) (h₀ := X.base) inv1.ok.mod.kin hm.kp (thn (hargs.run pos pins st1 σ H1 _ inv1 q) fun us st2 hv => ?_) hstar hplain
  obtain ⟨vs, H2, inv2, rv, q2⟩ := hv
  exact ⟨inv2.kIn, run_fnS (us := .ref a :: us) (vs := .ref a :: vs) G room bd (pass σ) inv2 (.cons rfl rv) q2⟩
theorem pe_mX0 {X : Cx} {CX : CXT} {k : Nat} {f C : Addr} {fd : FuncData} {ps : List Str} {sp : Sp} {E : L2.St → XK} {m : Str} {pos apos : Pos} {o : Expr} {ta : TE} {pl : Sem Bool}
    (ho : PE X o ta) (hc : Cls X.K C) (hm : Meth X.K C m f) (G : FnOk X.prog X.w X.K X.mg X.base CX k f fd ps sp) (room : Room k X.A) (bd : Binds X.K fd ps []) (pass : ∀ σ, PassesAt CX X σ (E σ))
    (hform : eval (.Call (.Attribute o m apos) [] [] pos) X.env = (do let ov ← eval o X.env; standAt apos.atName; let (f, first) ← holding [ov] (getMethod ov m pl); callWith pos f first (backTo pos (starEach [] X.env)) (backToKw pos (keywordEach [] X.env))) := by rfl) :
    PE X (.Call (.Attribute o m apos) [] [] pos) (tMX C m sp E ta tNil) := by
  refine ⟨fun pins st σ H Q inv hq => ?_⟩
  refine PySem.W.methodCall_KW (pl := pl) (thn (ho.run pins st σ H _ inv hq) fun u st1 hu => ?_) hform
  obtain ⟨x, H1, inv1, rx, a, dx, fs, ex, ea, hl, q⟩ := hu
  subst ex
  obtain rfl : u = Value.ref a := rx
  refine getmeth_ok inv1 ea hc hm hl ?_
  exact PySem.W.callWith_K0 (first := [.ref a]) inv1.kIn hm.kp (run_fnS (us := [.ref a]) (vs := [.ref a]) G room bd (pass σ) inv1 (.cons rfl .nil) q)
section
variable {σ : L2.St} {H : Hp} {Q : VK} {QB : Bool → Hp → Prop} {D : Ends} {K : PySem.W.Frag}
theorem r_mx {C : Addr} {m : Str} {sp : Sp} {E : L2.St → XK} {ta : TE} {t : TA} (h : ta σ H fun x H1 => ∃ a dx fs, x = V.ref a ∧ H1 a = some (.ins C dx fs) ∧ fs.lookup m = none ∧ t σ H1 fun vs H2 => sp (x :: vs) H2 Q (E σ)) : tMX C m sp E ta t σ H Q := h
/-! ### slices, stores, kinds -/
theorem r_sl {r : V → Option Int → Option Int → Hp → VK → Prop} {te : TE} {tl th : TO} (h : te σ H fun x H1 => tl σ H1 fun l H2 => th σ H2 fun u H3 => r x l u H3 Q) : tSl r te tl th σ H Q := h
theorem r_part {te : TE} {QO : Option Int → Hp → Prop} (h : te σ H fun x H1 => ∃ i, x = V.int i ∧ QO (some i) H1) : tPart te σ H QO := h
theorem r_nopart {QO : Option Int → Hp → Prop} (h : QO none H) : tNoPart σ H QO := h
theorem r_exi {i : Int} {P : Int → Prop} (h : P i) : ∃ j, V.int i = V.int j ∧ P j := ⟨i, rfl, h⟩
theorem r_sll {a : Addr} {xs : List V} {lo hi : Option Int} (hs : SqL K H a xs) (k : ∀ p, H p = none → Q (.ref p) (upd H p (.lst (cutV xs lo hi)))) : rSlL K (.ref a) lo hi H Q := ⟨a, xs, rfl, hs, k⟩
theorem r_asgS {te to ti : TE} (h : te σ H fun x H1 => to σ H1 fun o H2 => ti σ H2 fun i H3 => rSetL o i x H3 fun H4 => D.nx σ H4) : tAsg te (gSub to ti rSetL) D σ H := h
theorem r_setL {p : Addr} {xs : List V} {i : Int} {j : Nat} {v : V} {R : Hp → Prop} (h : H p = some (.lst xs)) (e : i = (j : Int)) (hj : j < xs.length) (q : R (upd H p (.lst (xs.set j v)))) : rSetL (.ref p) (.int i) v H R :=
  ⟨p, xs, i, j, rfl, rfl, h, by unfold ixN; rw [e, if_pos (by omega), if_pos (by omega)]; simp, q⟩
theorem r_isi {x : V} {t : Value} {n : String} {b : Bool} (ty : TyOf K H x t) (hk : PySem.W.kitOne K t (.type n) = some b) (q : Q (.bl b) H) : rIsi K [x, .ty n] H Q := ⟨x, .ty n, t, .type n, b, rfl, .ty n, .base ty, hk, q⟩
theorem r_is_int_int {i : Int} (q : Q (.bl true) H) : rIsi K [.int i, .ty "int"] H Q := r_isi (.int i) (kit_ty (by decide +kernel)) q
theorem r_is_int_bool {i : Int} (q : Q (.bl false) H) : rIsi K [.int i, .ty "bool"] H Q := r_isi (.int i) (kit_ty (by decide +kernel)) q
theorem r_is_int_str {i : Int} (q : Q (.bl false) H) : rIsi K [.int i, .ty "str"] H Q := r_isi (.int i) (kit_ty (by decide +kernel)) q
theorem r_is_str_str {i : Str} (q : Q (.bl true) H) : rIsi K [.str i, .ty "str"] H Q := r_isi (.str i) (kit_ty (by decide +kernel)) q
theorem r_is_str_int {i : Str} (q : Q (.bl false) H) : rIsi K [.str i, .ty "int"] H Q := r_isi (.str i) (kit_ty (by decide +kernel)) q
theorem r_is_str_list {i : Str} (q : Q (.bl false) H) : rIsi K [.str i, .ty "list"] H Q := r_isi (.str i) (kit_ty (by decide +kernel)) q
theorem r_is_lst_list {a : Addr} {xs : List V} (h : H a = some (.lst xs)) (q : Q (.bl true) H) : rIsi K [.ref a, .ty "list"] H Q := r_isi (.lst h) (kit_ty (by decide +kernel)) q
theorem r_is_lst_str {a : Addr} {xs : List V} (h : H a = some (.lst xs)) (q : Q (.bl false) H) : rIsi K [.ref a, .ty "str"] H Q := r_isi (.lst h) (kit_ty (by decide +kernel)) q
theorem r_is_tup_tuple {a : Addr} {xs : List V} (h : H a = some (.tup xs)) (q : Q (.bl true) H) : rIsi K [.ref a, .ty "tuple"] H Q := r_isi (.tup h) (kit_ty (by decide +kernel)) q
end
theorem cut_from {xs : List V} {k : Nat} : cutV xs (some (k : Int)) none = xs.drop k := by
  unfold cutV
  rw [HT.sIx_nat, HT.sIx_none]
  by_cases h : k ≤ xs.length
  · rw [Nat.min_eq_left h, List.take_of_length_le (by simp)]
  · rw [Nat.min_eq_right (by omega), List.drop_of_length_le (Nat.le_refl _), List.drop_of_length_le (by omega)]
    simp

/-! ### readings with the kernel's own name (in a comprehension's block) -/
section
variable {X : Cx} {K : PySem.W.Frag}
theorem ix_listK (e : X.K = K) : IxR X (rIxL K) := by subst e; exact ix_list
theorem ix_tupK (e : X.K = K) : IxR X (rIxT K) := by subst e; exact ix_tup
theorem op_eqDK (e : X.K = K) (hu : X.A.units + 64 < cLine) : OpR X (compareOp .Eq) (rEqD K) := by subst e; exact op_eqD hu
theorem op_neDK (e : X.K = K) (hu : X.A.units + 64 < cLine) : OpR X (compareOp .NotEq) (rNeD K) := by subst e; exact op_neD hu
theorem call_lenK (e : X.K = K) : CallR X (.builtin "len") (fun xs H Q => ∃ p ys, xs = [.ref p] ∧ (SqL K H p ys ∨ SqT K H p ys) ∧ Q (.int ys.length) H) := by subst e; exact call_len_seq
theorem call_listK (e : X.K = K) : CallR X (.type "list") (fun xs H Q => ∃ p ys, xs = [.ref p] ∧ (SqL K H p ys ∨ SqT K H p ys) ∧ ∀ l, H l = none → Q (.ref l) (upd H l (.lst ys))) := by subst e; exact call_list_of
theorem fldK {E : Expr} {ta : TE} {f : Str} (e : X.K = K) (h : PE X E (tFld X.K ta f)) : PE X E (tFld K ta f) := by subst e; exact h
theorem bmK {E : Expr} {T : String} {r : V → List V → Hp → VK → Prop} {to : TE} {t : TA} (e : X.K = K) (h : PE X E (tBM X.K T r to t)) : PE X E (tBM K T r to t) := by subst e; exact h
end
/-! ### data that is compared -/
def dOf : V → PyData
  | .non => .none
  | .bl b => .bool b
  | .int i => .int i
  | .str z => .str z
  | _ => .none
/-- an int, or a text -/
def Sc (v : V) : Prop := (∃ i, v = .int i) ∨ ∃ z, v = .str z ∧ PyData.strOk z = true
theorem Sc.int {i : Int} : Sc (.int i) := .inl ⟨i, rfl⟩
theorem Sc.dp {K : PySem.W.Frag} {H : Hp} {v : V} (h : Sc v) : Dp K H v (dOf v) := by
  rcases h with ⟨i, rfl⟩ | ⟨z, rfl, _⟩
  · exact .int i
  · exact .str z
theorem Sc.lay {v : V} (h : Sc v) : PyData.canLay0 (dOf v) = true ∧ PyData.depth (dOf v) = 0 := by
  rcases h with ⟨i, rfl⟩ | ⟨z, rfl, hz⟩
  · exact ⟨by simp only [dOf, PyData.canLay0], by simp only [dOf, PyData.depth]⟩
  · exact ⟨by simp only [dOf, PyData.canLay0]; exact hz, by simp only [dOf, PyData.depth]⟩
theorem Sc.eqv {v u : V} (h : Sc v) (g : Sc u) : PyData.eqv (dOf v) (dOf u) = decide (v = u) := by
  rcases h with ⟨i, rfl⟩ | ⟨z, rfl, _⟩ <;> rcases g with ⟨j, rfl⟩ | ⟨y, rfl, _⟩
  · simp [dOf, PyData.eqv, Bool.beq_eq_decide_eq]
  · simp [dOf, PyData.eqv]
  · simp [dOf, PyData.eqv]
  · simp [dOf, PyData.eqv, Bool.beq_eq_decide_eq]
def Scs (vs : List V) : Prop := ∀ v, v ∈ vs → Sc v
theorem Scs.nil : Scs [] := fun _ h => by cases h
theorem Scs.cons {v : V} {vs : List V} (h : Sc v) (g : Scs vs) : Scs (v :: vs) := fun u hu => by
  rcases List.mem_cons.mp hu with e | e
  · rw [e]; exact h
  · exact g u e
theorem Scs.dp {K : PySem.W.Frag} {H : Hp} : ∀ {vs : List V}, Scs vs → DpAll K H vs (vs.map dOf)
  | [], _ => .nil
  | v :: vs, h => .cons (h v List.mem_cons_self).dp (Scs.dp fun u hu => h u (List.mem_cons_of_mem _ hu))
theorem Scs.lay : ∀ {vs : List V}, Scs vs → PyData.canLayAll0 (vs.map dOf) = true ∧ PyData.depthAll (vs.map dOf) = 0
  | [], _ => ⟨by simp only [List.map_nil, PyData.canLayAll0], by simp only [List.map_nil, PyData.depthAll]⟩
  | v :: vs, h => by
    obtain ⟨a, b⟩ := (h v List.mem_cons_self).lay
    obtain ⟨c, d⟩ := Scs.lay (vs := vs) fun u hu => h u (List.mem_cons_of_mem _ hu)
    refine ⟨?_, ?_⟩
    · simp only [List.map_cons, PyData.canLayAll0, a, c, Bool.and_self]
    · simp only [List.map_cons, PyData.depthAll, b, d]; rfl
theorem Scs.eqv : ∀ {vs us : List V}, Scs vs → Scs us → PyData.eqvAll (vs.map dOf) (us.map dOf) = decide (vs = us)
  | [], [], _, _ => by simp [PyData.eqvAll]
  | [], u :: us, _, _ => by simp [PyData.eqvAll]
  | v :: vs, [], _, _ => by simp [PyData.eqvAll]
  | v :: vs, u :: us, h, g => by
    have ih := Scs.eqv (vs := vs) (us := us) (fun u hu => h u (List.mem_cons_of_mem _ hu)) fun u hu => g u (List.mem_cons_of_mem _ hu)
    simp only [List.map_cons, PyData.eqvAll, ih, (h v List.mem_cons_self).eqv (g u List.mem_cons_self)]
    simp
/-- a tuple of such -/
def dTup (r : List V) : PyData := .tuple (r.map dOf)
theorem dTup_dp {K : PySem.W.Frag} {H : Hp} {a : Addr} {r : List V} (h : SqT K H a r) (s : Scs r) : Dp K H (.ref a) (dTup r) := .tup h s.dp
theorem dTup_lay {r : List V} (s : Scs r) : PyData.canLay0 (dTup r) = true ∧ PyData.depth (dTup r) = 1 := by
  obtain ⟨a, b⟩ := s.lay
  exact ⟨by simp only [dTup, PyData.canLay0]; exact a, by simp only [dTup, PyData.depth, b]⟩
theorem dTup_shaped {r : List V} (s : Scs r) : SeqAt.shaped (dTup r) = true := by
  obtain ⟨a, b⟩ := dTup_lay s
  unfold SeqAt.shaped
  rw [a, b]
  rfl
theorem dTup_eqv {r q : List V} (s : Scs r) (t : Scs q) : PyData.eqv (dTup r) (dTup q) = decide (r = q) := by
  show PyData.eqv (.tuple _) (.tuple _) = _
  simp only [PyData.eqv]
  exact s.eqv t
/-- a list of such tuples -/
def dRows (rs : List (List V)) : PyData := .list (rs.map dTup)
def TupAt (H : Hp) (v : V) (r : List V) : Prop := ∃ t, v = .ref t ∧ H t = some (.tup r)
def Rws (rs : List (List V)) : Prop := ∀ r, r ∈ rs → Scs r
theorem dRows_all {K : PySem.W.Frag} {H : Hp} : ∀ {xs : List V} {rs : List (List V)}, Paired (TupAt H) xs rs → Rws rs → DpAll K H xs (rs.map dTup)
  | _, _, .nil, _ => .nil
  | _, _, .cons ⟨t, e, h⟩ r, s => by
    subst e
    exact .cons (dTup_dp (SqT.of h) (s _ List.mem_cons_self)) (dRows_all r fun q hq => s q (List.mem_cons_of_mem _ hq))
theorem dRows_dp {K : PySem.W.Frag} {H : Hp} {a : Addr} {xs : List V} {rs : List (List V)} (h : SqL K H a xs) (p : Paired (TupAt H) xs rs) (s : Rws rs) : Dp K H (.ref a) (dRows rs) := .lst h (dRows_all p s)
theorem dRows_lay0 : ∀ {rs : List (List V)}, Rws rs → PyData.canLayAll0 (rs.map dTup) = true ∧ PyData.depthAll (rs.map dTup) ≤ 1
  | [], _ => ⟨by simp only [List.map_nil, PyData.canLayAll0], by simp only [List.map_nil, PyData.depthAll]; omega⟩
  | r :: rs, h => by
    obtain ⟨a, b⟩ := dTup_lay (h r List.mem_cons_self)
    obtain ⟨c, d⟩ := dRows_lay0 (rs := rs) fun u hu => h u (List.mem_cons_of_mem _ hu)
    refine ⟨?_, ?_⟩
    · simp only [List.map_cons, PyData.canLayAll0, a, c, Bool.and_self]
    · simp only [List.map_cons, PyData.depthAll, b]; omega
theorem dRows_lay {rs : List (List V)} (s : Rws rs) : PyData.canLay0 (dRows rs) = true ∧ PyData.depth (dRows rs) ≤ 2 := by
  obtain ⟨a, b⟩ := dRows_lay0 s
  exact ⟨by simp only [dRows, PyData.canLay0]; exact a, by simp only [dRows, PyData.depth]; omega⟩
theorem dRows_shaped {rs : List (List V)} (s : Rws rs) : SeqAt.shaped (dRows rs) = true := by
  obtain ⟨a, b⟩ := dRows_lay s
  unfold SeqAt.shaped
  rw [a, decide_eq_true (by omega)]
  rfl
theorem dRows_eqv0 : ∀ {rs qs : List (List V)}, Rws rs → Rws qs → PyData.eqvAll (rs.map dTup) (qs.map dTup) = decide (rs = qs)
  | [], [], _, _ => by simp [PyData.eqvAll]
  | [], u :: us, _, _ => by simp [PyData.eqvAll]
  | v :: vs, [], _, _ => by simp [PyData.eqvAll]
  | v :: vs, u :: us, h, g => by
    have ih := dRows_eqv0 (rs := vs) (qs := us) (fun u hu => h u (List.mem_cons_of_mem _ hu)) fun u hu => g u (List.mem_cons_of_mem _ hu)
    simp only [List.map_cons, PyData.eqvAll, ih, dTup_eqv (h v List.mem_cons_self) (g u List.mem_cons_self)]
    simp
theorem dRows_eqv {rs qs : List (List V)} (s : Rws rs) (t : Rws qs) : PyData.eqv (dRows rs) (dRows qs) = decide (rs = qs) := by
  show PyData.eqv (.list _) (.list _) = _
  simp only [PyData.eqv]
  exact dRows_eqv0 s t
section
variable {H : Hp} {Q : VK} {K : PySem.W.Frag}
theorem r_neTT {a b : Addr} {r q : List V} (h : SqT K H a r) (g : SqT K H b q) (s : Scs r) (t : Scs q) (k : Q (.bl (!decide (r = q))) H) : rNeD K (.ref a) (.ref b) H Q :=
  ⟨_, _, dTup_dp h s, dTup_dp g t, dTup_shaped s, dTup_shaped t, by rw [dTup_eqv s t]; exact k⟩
theorem r_eqTT {a b : Addr} {r q : List V} (h : SqT K H a r) (g : SqT K H b q) (s : Scs r) (t : Scs q) (k : Q (.bl (decide (r = q))) H) : rEqD K (.ref a) (.ref b) H Q :=
  ⟨_, _, dTup_dp h s, dTup_dp g t, dTup_shaped s, dTup_shaped t, by rw [dTup_eqv s t]; exact k⟩
theorem r_neRR {a b : Addr} {xs ys : List V} {r q : List (List V)} (h : SqL K H a xs) (g : SqL K H b ys) (ph : Paired (TupAt H) xs r) (pg : Paired (TupAt H) ys q) (s : Rws r) (t : Rws q) (k : Q (.bl (!decide (r = q))) H) : rNeD K (.ref a) (.ref b) H Q :=
  ⟨_, _, dRows_dp h ph s, dRows_dp g pg t, dRows_shaped s, dRows_shaped t, by rw [dRows_eqv s t]; exact k⟩
theorem r_eqRR {a b : Addr} {xs ys : List V} {r q : List (List V)} (h : SqL K H a xs) (g : SqL K H b ys) (ph : Paired (TupAt H) xs r) (pg : Paired (TupAt H) ys q) (s : Rws r) (t : Rws q) (k : Q (.bl (decide (r = q))) H) : rEqD K (.ref a) (.ref b) H Q :=
  ⟨_, _, dRows_dp h ph s, dRows_dp g pg t, dRows_shaped s, dRows_shaped t, by rw [dRows_eqv s t]; exact k⟩
theorem sc_shaped {v : V} (s : Sc v) : SeqAt.shaped (dOf v) = true := by
  obtain ⟨a, b⟩ := s.lay
  unfold SeqAt.shaped
  rw [a, b]
  rfl
theorem r_neSS {x y : V} (s : Sc x) (t : Sc y) (k : Q (.bl (!decide (x = y))) H) : rNeD K x y H Q := ⟨_, _, s.dp, t.dp, sc_shaped s, sc_shaped t, by rw [s.eqv t]; exact k⟩
theorem r_eqSS {x y : V} (s : Sc x) (t : Sc y) (k : Q (.bl (decide (x = y))) H) : rEqD K x y H Q := ⟨_, _, s.dp, t.dp, sc_shaped s, sc_shaped t, by rw [s.eqv t]; exact k⟩
theorem r_neRS {a : Addr} {xs : List V} {r : List (List V)} {y : V} (h : SqL K H a xs) (ph : Paired (TupAt H) xs r) (s : Rws r) (t : Sc y) (k : Q (.bl true) H) : rNeD K (.ref a) y H Q :=
  ⟨_, _, dRows_dp h ph s, t.dp, dRows_shaped s, sc_shaped t, by
    have e : PyData.eqv (dRows r) (dOf y) = false := by
      rcases t with ⟨i, rfl⟩ | ⟨z, rfl, _⟩ <;> simp [dRows, dOf, PyData.eqv]
    rw [e]; exact k⟩
end
theorem lk_Line_item (l : Ln) : List.lookup ("item" : Str) (lnF l) = some (.str l.item) := by
  unfold lnF
  exact lk_hit
theorem lk_Line_ordered (l : Ln) : List.lookup ("ordered" : Str) (lnF l) = some (.int l.ordered) := by
  unfold lnF
  exact lk_m (by decide +kernel) (lk_hit)
theorem pt_Line_ordered (l : Ln) (z : Int) : putF "ordered" (.int z) (lnF l) = lnF { l with ordered := z } := by
  unfold lnF
  exact pf_m (by decide +kernel) (pf_hit)
theorem lk_Line_cents (l : Ln) : List.lookup ("cents" : Str) (lnF l) = some (.int l.cents) := by
  unfold lnF
  exact lk_m (by decide +kernel) (lk_m (by decide +kernel) (lk_hit))
theorem pt_Line_cents (l : Ln) (z : Int) : putF "cents" (.int z) (lnF l) = lnF { l with cents := z } := by
  unfold lnF
  exact pf_m (by decide +kernel) (pf_m (by decide +kernel) (pf_hit))
theorem lk_Line_pack (l : Ln) : List.lookup ("pack" : Str) (lnF l) = some (.int l.pack) := by
  unfold lnF
  exact lk_m (by decide +kernel) (lk_m (by decide +kernel) (lk_m (by decide +kernel) (lk_hit)))
theorem pt_Line_pack (l : Ln) (z : Int) : putF "pack" (.int z) (lnF l) = lnF { l with pack := z } := by
  unfold lnF
  exact pf_m (by decide +kernel) (pf_m (by decide +kernel) (pf_m (by decide +kernel) (pf_hit)))
theorem lk_Line_sent (l : Ln) : List.lookup ("sent" : Str) (lnF l) = some (.int l.sent) := by
  unfold lnF
  exact lk_m (by decide +kernel) (lk_m (by decide +kernel) (lk_m (by decide +kernel) (lk_m (by decide +kernel) (lk_hit))))
theorem pt_Line_sent (l : Ln) (z : Int) : putF "sent" (.int z) (lnF l) = lnF { l with sent := z } := by
  unfold lnF
  exact pf_m (by decide +kernel) (pf_m (by decide +kernel) (pf_m (by decide +kernel) (pf_m (by decide +kernel) (pf_hit))))
theorem lk_Line_home (l : Ln) : List.lookup ("home" : Str) (lnF l) = some (.int l.home) := by
  unfold lnF
  exact lk_m (by decide +kernel) (lk_m (by decide +kernel) (lk_m (by decide +kernel) (lk_m (by decide +kernel) (lk_m (by decide +kernel) (lk_hit)))))
theorem pt_Line_home (l : Ln) (z : Int) : putF "home" (.int z) (lnF l) = lnF { l with home := z } := by
  unfold lnF
  exact pf_m (by decide +kernel) (pf_m (by decide +kernel) (pf_m (by decide +kernel) (pf_m (by decide +kernel) (pf_m (by decide +kernel) (pf_hit)))))
theorem lk_Line_again (l : Ln) : List.lookup ("again" : Str) (lnF l) = some (.int l.again) := by
  unfold lnF
  exact lk_m (by decide +kernel) (lk_m (by decide +kernel) (lk_m (by decide +kernel) (lk_m (by decide +kernel) (lk_m (by decide +kernel) (lk_m (by decide +kernel) (lk_hit))))))
theorem pt_Line_again (l : Ln) (z : Int) : putF "again" (.int z) (lnF l) = lnF { l with again := z } := by
  unfold lnF
  exact pf_m (by decide +kernel) (pf_m (by decide +kernel) (pf_m (by decide +kernel) (pf_m (by decide +kernel) (pf_m (by decide +kernel) (pf_m (by decide +kernel) (pf_hit))))))
theorem lk_Line_credited (l : Ln) : List.lookup ("credited" : Str) (lnF l) = some (.int l.credited) := by
  unfold lnF
  exact lk_m (by decide +kernel) (lk_m (by decide +kernel) (lk_m (by decide +kernel) (lk_m (by decide +kernel) (lk_m (by decide +kernel) (lk_m (by decide +kernel) (lk_m (by decide +kernel) (lk_hit)))))))
theorem pt_Line_credited (l : Ln) (z : Int) : putF "credited" (.int z) (lnF l) = lnF { l with credited := z } := by
  unfold lnF
  exact pf_m (by decide +kernel) (pf_m (by decide +kernel) (pf_m (by decide +kernel) (pf_m (by decide +kernel) (pf_m (by decide +kernel) (pf_m (by decide +kernel) (pf_m (by decide +kernel) (pf_hit)))))))
theorem no_Line_kept (l : Ln) : List.lookup ("kept" : Str) (lnF l) = none := by
  unfold lnF
  exact lk_n (by decide +kernel) (lk_n (by decide +kernel) (lk_n (by decide +kernel) (lk_n (by decide +kernel) (lk_n (by decide +kernel) (lk_n (by decide +kernel) (lk_n (by decide +kernel) (lk_n (by decide +kernel) (rfl))))))))
theorem no_Line_to_come (l : Ln) : List.lookup ("to_come" : Str) (lnF l) = none := by
  unfold lnF
  exact lk_n (by decide +kernel) (lk_n (by decide +kernel) (lk_n (by decide +kernel) (lk_n (by decide +kernel) (lk_n (by decide +kernel) (lk_n (by decide +kernel) (lk_n (by decide +kernel) (lk_n (by decide +kernel) (rfl))))))))
theorem no_Line_kept_worth (l : Ln) : List.lookup ("kept_worth" : Str) (lnF l) = none := by
  unfold lnF
  exact lk_n (by decide +kernel) (lk_n (by decide +kernel) (lk_n (by decide +kernel) (lk_n (by decide +kernel) (lk_n (by decide +kernel) (lk_n (by decide +kernel) (lk_n (by decide +kernel) (lk_n (by decide +kernel) (rfl))))))))
theorem no_Line_charge (l : Ln) : List.lookup ("charge" : Str) (lnF l) = none := by
  unfold lnF
  exact lk_n (by decide +kernel) (lk_n (by decide +kernel) (lk_n (by decide +kernel) (lk_n (by decide +kernel) (lk_n (by decide +kernel) (lk_n (by decide +kernel) (lk_n (by decide +kernel) (lk_n (by decide +kernel) (rfl))))))))
theorem no_Line_deliver (l : Ln) : List.lookup ("deliver" : Str) (lnF l) = none := by
  unfold lnF
  exact lk_n (by decide +kernel) (lk_n (by decide +kernel) (lk_n (by decide +kernel) (lk_n (by decide +kernel) (lk_n (by decide +kernel) (lk_n (by decide +kernel) (lk_n (by decide +kernel) (lk_n (by decide +kernel) (rfl))))))))
theorem no_Line_bring (l : Ln) : List.lookup ("bring" : Str) (lnF l) = none := by
  unfold lnF
  exact lk_n (by decide +kernel) (lk_n (by decide +kernel) (lk_n (by decide +kernel) (lk_n (by decide +kernel) (lk_n (by decide +kernel) (lk_n (by decide +kernel) (lk_n (by decide +kernel) (lk_n (by decide +kernel) (rfl))))))))
theorem no_Line_reduce (l : Ln) : List.lookup ("reduce" : Str) (lnF l) = none := by
  unfold lnF
  exact lk_n (by decide +kernel) (lk_n (by decide +kernel) (lk_n (by decide +kernel) (lk_n (by decide +kernel) (lk_n (by decide +kernel) (lk_n (by decide +kernel) (lk_n (by decide +kernel) (lk_n (by decide +kernel) (rfl))))))))
theorem no_Line_numbers (l : Ln) : List.lookup ("numbers" : Str) (lnF l) = none := by
  unfold lnF
  exact lk_n (by decide +kernel) (lk_n (by decide +kernel) (lk_n (by decide +kernel) (lk_n (by decide +kernel) (lk_n (by decide +kernel) (lk_n (by decide +kernel) (lk_n (by decide +kernel) (lk_n (by decide +kernel) (rfl))))))))
theorem lk_Order_lines (ll : Addr) (m : Int) (lm : Addr) : List.lookup ("lines" : Str) (odF ll m lm) = some (.ref ll) := by
  unfold odF
  exact lk_hit
theorem pt_Order_lines (ll : Addr) (m : Int) (lm : Addr) (z : Addr) : putF "lines" (.ref z) (odF ll m lm) = odF z m lm := by
  unfold odF
  exact pf_hit
theorem lk_Order_money (ll : Addr) (m : Int) (lm : Addr) : List.lookup ("money" : Str) (odF ll m lm) = some (.int m) := by
  unfold odF
  exact lk_m (by decide +kernel) (lk_hit)
theorem pt_Order_money (ll : Addr) (m : Int) (lm : Addr) (z : Int) : putF "money" (.int z) (odF ll m lm) = odF ll z lm := by
  unfold odF
  exact pf_m (by decide +kernel) (pf_hit)
theorem lk_Order_marks (ll : Addr) (m : Int) (lm : Addr) : List.lookup ("marks" : Str) (odF ll m lm) = some (.ref lm) := by
  unfold odF
  exact lk_m (by decide +kernel) (lk_m (by decide +kernel) (lk_hit))
theorem pt_Order_marks (ll : Addr) (m : Int) (lm : Addr) (z : Addr) : putF "marks" (.ref z) (odF ll m lm) = odF ll m z := by
  unfold odF
  exact pf_m (by decide +kernel) (pf_m (by decide +kernel) (pf_hit))
theorem no_Order_owing (ll : Addr) (m : Int) (lm : Addr) : List.lookup ("owing" : Str) (odF ll m lm) = none := by
  unfold odF
  exact lk_n (by decide +kernel) (lk_n (by decide +kernel) (lk_n (by decide +kernel) (rfl)))
theorem no_Order_line_of (ll : Addr) (m : Int) (lm : Addr) : List.lookup ("line_of" : Str) (odF ll m lm) = none := by
  unfold odF
  exact lk_n (by decide +kernel) (lk_n (by decide +kernel) (lk_n (by decide +kernel) (rfl)))
theorem no_Order_need_over (ll : Addr) (m : Int) (lm : Addr) : List.lookup ("need_over" : Str) (odF ll m lm) = none := by
  unfold odF
  exact lk_n (by decide +kernel) (lk_n (by decide +kernel) (lk_n (by decide +kernel) (rfl)))
theorem no_Order_turn_line (ll : Addr) (m : Int) (lm : Addr) : List.lookup ("turn_line" : Str) (odF ll m lm) = none := by
  unfold odF
  exact lk_n (by decide +kernel) (lk_n (by decide +kernel) (lk_n (by decide +kernel) (rfl)))
theorem no_Order_take (ll : Addr) (m : Int) (lm : Addr) : List.lookup ("take" : Str) (odF ll m lm) = none := by
  unfold odF
  exact lk_n (by decide +kernel) (lk_n (by decide +kernel) (lk_n (by decide +kernel) (rfl)))
theorem no_Order_mark (ll : Addr) (m : Int) (lm : Addr) : List.lookup ("mark" : Str) (odF ll m lm) = none := by
  unfold odF
  exact lk_n (by decide +kernel) (lk_n (by decide +kernel) (lk_n (by decide +kernel) (rfl)))
theorem lk_Book_each (e t : Addr) : List.lookup ("each" : Str) (bkF e t) = some (.ref e) := by
  unfold bkF
  exact lk_hit
theorem pt_Book_each (e t : Addr) (z : Addr) : putF "each" (.ref z) (bkF e t) = bkF z t := by
  unfold bkF
  exact pf_hit
theorem lk_Book_trail (e t : Addr) : List.lookup ("trail" : Str) (bkF e t) = some (.ref t) := by
  unfold bkF
  exact lk_m (by decide +kernel) (lk_hit)
theorem pt_Book_trail (e t : Addr) (z : Addr) : putF "trail" (.ref z) (bkF e t) = bkF e z := by
  unfold bkF
  exact pf_m (by decide +kernel) (pf_hit)
theorem no_Book_order_of (e t : Addr) : List.lookup ("order_of" : Str) (bkF e t) = none := by
  unfold bkF
  exact lk_n (by decide +kernel) (lk_n (by decide +kernel) (rfl))
theorem no_Book_do (e t : Addr) : List.lookup ("do" : Str) (bkF e t) = none := by
  unfold bkF
  exact lk_n (by decide +kernel) (lk_n (by decide +kernel) (rfl))
theorem no_Book_begin (e t : Addr) : List.lookup ("begin" : Str) (bkF e t) = none := by
  unfold bkF
  exact lk_n (by decide +kernel) (lk_n (by decide +kernel) (rfl))
theorem no_Book_shift (e t : Addr) : List.lookup ("shift" : Str) (bkF e t) = none := by
  unfold bkF
  exact lk_n (by decide +kernel) (lk_n (by decide +kernel) (rfl))
theorem no_Book_one (e t : Addr) : List.lookup ("one" : Str) (bkF e t) = none := by
  unfold bkF
  exact lk_n (by decide +kernel) (lk_n (by decide +kernel) (rfl))
theorem no_Book_need_number (e t : Addr) : List.lookup ("need_number" : Str) (bkF e t) = none := by
  unfold bkF
  exact lk_n (by decide +kernel) (lk_n (by decide +kernel) (rfl))
theorem no_Book_undo (e t : Addr) : List.lookup ("undo" : Str) (bkF e t) = none := by
  unfold bkF
  exact lk_n (by decide +kernel) (lk_n (by decide +kernel) (rfl))
theorem no_Book_orders (e t : Addr) : List.lookup ("orders" : Str) (bkF e t) = none := by
  unfold bkF
  exact lk_n (by decide +kernel) (lk_n (by decide +kernel) (rfl))
theorem no_Book_told (e t : Addr) : List.lookup ("told" : Str) (bkF e t) = none := by
  unfold bkF
  exact lk_n (by decide +kernel) (lk_n (by decide +kernel) (rfl))
theorem no_Book_paid (e t : Addr) : List.lookup ("paid" : Str) (bkF e t) = none := by
  unfold bkF
  exact lk_n (by decide +kernel) (lk_n (by decide +kernel) (rfl))
theorem no_Book_owed (e t : Addr) : List.lookup ("owed" : Str) (bkF e t) = none := by
  unfold bkF
  exact lk_n (by decide +kernel) (lk_n (by decide +kernel) (rfl))
theorem no_Book_rows (e t : Addr) : List.lookup ("rows" : Str) (bkF e t) = none := by
  unfold bkF
  exact lk_n (by decide +kernel) (lk_n (by decide +kernel) (rfl))
theorem no_Book_settled (e t : Addr) : List.lookup ("settled" : Str) (bkF e t) = none := by
  unfold bkF
  exact lk_n (by decide +kernel) (lk_n (by decide +kernel) (rfl))
theorem no_Book_net (e t : Addr) : List.lookup ("net" : Str) (bkF e t) = none := by
  unfold bkF
  exact lk_n (by decide +kernel) (lk_n (by decide +kernel) (rfl))
abbrev N_Worth : List Str := ["pieces", "cents", "pack"]
abbrev P_Worth : List Str := ["pieces", "cents", "pack"]
theorem sc_Worth : FnScope N_Worth P_Worth (defScope sWorth) := ⟨rfl, rfl, rfl, by decide +kernel, rfl, by decide +kernel, by decide +kernel⟩
abbrev N_IsItem : List Str := ["item", "letter"]
abbrev P_IsItem : List Str := ["item"]
theorem sc_IsItem : FnScope N_IsItem P_IsItem (defScope sIsItem) := ⟨rfl, rfl, rfl, by decide +kernel, rfl, by decide +kernel, by decide +kernel⟩
abbrev N_CheckLine : List Str := ["told"]
abbrev P_CheckLine : List Str := ["told"]
theorem sc_CheckLine : FnScope N_CheckLine P_CheckLine (defScope sCheckLine) := ⟨rfl, rfl, rfl, by decide +kernel, rfl, by decide +kernel, by decide +kernel⟩
abbrev N_LineInit : List Str := ["self", "told"]
abbrev P_LineInit : List Str := ["self", "told"]
theorem sc_LineInit : FnScope N_LineInit P_LineInit (defScope sLineInit) := ⟨rfl, rfl, rfl, by decide +kernel, rfl, by decide +kernel, by decide +kernel⟩
abbrev N_LineKept : List Str := ["self"]
abbrev P_LineKept : List Str := ["self"]
theorem sc_LineKept : FnScope N_LineKept P_LineKept (defScope sLineKept) := ⟨rfl, rfl, rfl, by decide +kernel, rfl, by decide +kernel, by decide +kernel⟩
abbrev N_LineToCome : List Str := ["self"]
abbrev P_LineToCome : List Str := ["self"]
theorem sc_LineToCome : FnScope N_LineToCome P_LineToCome (defScope sLineToCome) := ⟨rfl, rfl, rfl, by decide +kernel, rfl, by decide +kernel, by decide +kernel⟩
abbrev N_LineKeptWorth : List Str := ["self"]
abbrev P_LineKeptWorth : List Str := ["self"]
theorem sc_LineKeptWorth : FnScope N_LineKeptWorth P_LineKeptWorth (defScope sLineKeptWorth) := ⟨rfl, rfl, rfl, by decide +kernel, rfl, by decide +kernel, by decide +kernel⟩
abbrev N_LineCharge : List Str := ["self"]
abbrev P_LineCharge : List Str := ["self"]
theorem sc_LineCharge : FnScope N_LineCharge P_LineCharge (defScope sLineCharge) := ⟨rfl, rfl, rfl, by decide +kernel, rfl, by decide +kernel, by decide +kernel⟩
abbrev N_LineDeliver : List Str := ["self", "pieces"]
abbrev P_LineDeliver : List Str := ["self", "pieces"]
theorem sc_LineDeliver : FnScope N_LineDeliver P_LineDeliver (defScope sLineDeliver) := ⟨rfl, rfl, rfl, by decide +kernel, rfl, by decide +kernel, by decide +kernel⟩
abbrev N_LineBring : List Str := ["self", "pieces", "anew"]
abbrev P_LineBring : List Str := ["self", "pieces", "anew"]
theorem sc_LineBring : FnScope N_LineBring P_LineBring (defScope sLineBring) := ⟨rfl, rfl, rfl, by decide +kernel, rfl, by decide +kernel, by decide +kernel⟩
abbrev N_LineReduce : List Str := ["self", "cents"]
abbrev P_LineReduce : List Str := ["self", "cents"]
theorem sc_LineReduce : FnScope N_LineReduce P_LineReduce (defScope sLineReduce) := ⟨rfl, rfl, rfl, by decide +kernel, rfl, by decide +kernel, by decide +kernel⟩
abbrev N_LineNumbers : List Str := ["self"]
abbrev P_LineNumbers : List Str := ["self"]
theorem sc_LineNumbers : FnScope N_LineNumbers P_LineNumbers (defScope sLineNumbers) := ⟨rfl, rfl, rfl, by decide +kernel, rfl, by decide +kernel, by decide +kernel⟩
abbrev N_Matched : List Str := ["changes", "k", "debts", "covers", "found", "i", "j", "got", "used", "lacking", "left", "part"]
abbrev P_Matched : List Str := ["changes"]
theorem sc_Matched : FnScope N_Matched P_Matched (defScope sMatched) := ⟨rfl, rfl, rfl, by decide +kernel, rfl, by decide +kernel, by decide +kernel⟩
abbrev N_OrderInit : List Str := ["self", "lines", "told"]
abbrev P_OrderInit : List Str := ["self", "lines"]
theorem sc_OrderInit : FnScope N_OrderInit P_OrderInit (defScope sOrderInit) := ⟨rfl, rfl, rfl, by decide +kernel, rfl, by decide +kernel, by decide +kernel⟩
abbrev N_OrderOwing : List Str := ["self", "line"]
abbrev P_OrderOwing : List Str := ["self"]
theorem sc_OrderOwing : FnScope N_OrderOwing P_OrderOwing (defScope sOrderOwing) := ⟨rfl, rfl, rfl, by decide +kernel, rfl, by decide +kernel, by decide +kernel⟩
abbrev N_OrderLineOf : List Str := ["self", "place"]
abbrev P_OrderLineOf : List Str := ["self", "place"]
theorem sc_OrderLineOf : FnScope N_OrderLineOf P_OrderLineOf (defScope sOrderLineOf) := ⟨rfl, rfl, rfl, by decide +kernel, rfl, by decide +kernel, by decide +kernel⟩
abbrev N_OrderNeedOver : List Str := ["self", "cents"]
abbrev P_OrderNeedOver : List Str := ["self", "cents"]
theorem sc_OrderNeedOver : FnScope N_OrderNeedOver P_OrderNeedOver (defScope sOrderNeedOver) := ⟨rfl, rfl, rfl, by decide +kernel, rfl, by decide +kernel, by decide +kernel⟩
abbrev N_OrderTurnLine : List Str := ["self", "word", "place", "number", "line"]
abbrev P_OrderTurnLine : List Str := ["self", "word", "place", "number"]
theorem sc_OrderTurnLine : FnScope N_OrderTurnLine P_OrderTurnLine (defScope sOrderTurnLine) := ⟨rfl, rfl, rfl, by decide +kernel, rfl, by decide +kernel, by decide +kernel⟩
abbrev N_OrderTake : List Str := ["self", "cents"]
abbrev P_OrderTake : List Str := ["self", "cents"]
theorem sc_OrderTake : FnScope N_OrderTake P_OrderTake (defScope sOrderTake) := ⟨rfl, rfl, rfl, by decide +kernel, rfl, by decide +kernel, by decide +kernel⟩
abbrev N_OrderMark : List Str := ["self", "word", "ahead", "change"]
abbrev P_OrderMark : List Str := ["self", "word", "ahead"]
theorem sc_OrderMark : FnScope N_OrderMark P_OrderMark (defScope sOrderMark) := ⟨rfl, rfl, rfl, by decide +kernel, rfl, by decide +kernel, by decide +kernel⟩
abbrev N_Own : List Str := ["deed", "line"]
abbrev P_Own : List Str := ["deed"]
theorem sc_Own : FnScope N_Own P_Own (defScope sOwn) := ⟨rfl, rfl, rfl, by decide +kernel, rfl, by decide +kernel, by decide +kernel⟩
abbrev N_BookInit : List Str := ["self"]
abbrev P_BookInit : List Str := ["self"]
theorem sc_BookInit : FnScope N_BookInit P_BookInit (defScope sBookInit) := ⟨rfl, rfl, rfl, by decide +kernel, rfl, by decide +kernel, by decide +kernel⟩
abbrev N_BookOrderOf : List Str := ["self", "number"]
abbrev P_BookOrderOf : List Str := ["self", "number"]
theorem sc_BookOrderOf : FnScope N_BookOrderOf P_BookOrderOf (defScope sBookOrderOf) := ⟨rfl, rfl, rfl, by decide +kernel, rfl, by decide +kernel, by decide +kernel⟩
abbrev N_BookDo : List Str := ["self", "deed", "changes"]
abbrev P_BookDo : List Str := ["self", "deed"]
theorem sc_BookDo : FnScope N_BookDo P_BookDo (defScope sBookDo) := ⟨rfl, rfl, rfl, by decide +kernel, rfl, by decide +kernel, by decide +kernel⟩
abbrev N_BookBegin : List Str := ["self", "lines", "told"]
abbrev P_BookBegin : List Str := ["self", "lines"]
theorem sc_BookBegin : FnScope N_BookBegin P_BookBegin (defScope sBookBegin) := ⟨rfl, rfl, rfl, by decide +kernel, rfl, by decide +kernel, by decide +kernel⟩
abbrev N_BookShift : List Str := ["self", "deed", "first", "other", "ahead"]
abbrev P_BookShift : List Str := ["self", "deed"]
theorem sc_BookShift : FnScope N_BookShift P_BookShift (defScope sBookShift) := ⟨rfl, rfl, rfl, by decide +kernel, rfl, by decide +kernel, by decide +kernel⟩
abbrev N_BookOne : List Str := ["self", "deed", "order", "number", "ahead"]
abbrev P_BookOne : List Str := ["self", "deed"]
theorem sc_BookOne : FnScope N_BookOne P_BookOne (defScope sBookOne) := ⟨rfl, rfl, rfl, by decide +kernel, rfl, by decide +kernel, by decide +kernel⟩
abbrev N_BookNeedNumber : List Str := ["self", "number"]
abbrev P_BookNeedNumber : List Str := ["self", "number"]
theorem sc_BookNeedNumber : FnScope N_BookNeedNumber P_BookNeedNumber (defScope sBookNeedNumber) := ⟨rfl, rfl, rfl, by decide +kernel, rfl, by decide +kernel, by decide +kernel⟩
abbrev N_BookUndo : List Str := ["self", "deeds", "deed"]
abbrev P_BookUndo : List Str := ["self"]
theorem sc_BookUndo : FnScope N_BookUndo P_BookUndo (defScope sBookUndo) := ⟨rfl, rfl, rfl, by decide +kernel, rfl, by decide +kernel, by decide +kernel⟩
abbrev N_BookOrders : List Str := ["self"]
abbrev P_BookOrders : List Str := ["self"]
theorem sc_BookOrders : FnScope N_BookOrders P_BookOrders (defScope sBookOrders) := ⟨rfl, rfl, rfl, by decide +kernel, rfl, by decide +kernel, by decide +kernel⟩
abbrev N_BookTold : List Str := ["self", "order", "line"]
abbrev P_BookTold : List Str := ["self", "order"]
theorem sc_BookTold : FnScope N_BookTold P_BookTold (defScope sBookTold) := ⟨rfl, rfl, rfl, by decide +kernel, rfl, by decide +kernel, by decide +kernel⟩
abbrev N_BookPaid : List Str := ["self", "order"]
abbrev P_BookPaid : List Str := ["self", "order"]
theorem sc_BookPaid : FnScope N_BookPaid P_BookPaid (defScope sBookPaid) := ⟨rfl, rfl, rfl, by decide +kernel, rfl, by decide +kernel, by decide +kernel⟩
abbrev N_BookOwed : List Str := ["self", "order"]
abbrev P_BookOwed : List Str := ["self", "order"]
theorem sc_BookOwed : FnScope N_BookOwed P_BookOwed (defScope sBookOwed) := ⟨rfl, rfl, rfl, by decide +kernel, rfl, by decide +kernel, by decide +kernel⟩
abbrev N_BookRows : List Str := ["self", "order"]
abbrev P_BookRows : List Str := ["self", "order"]
theorem sc_BookRows : FnScope N_BookRows P_BookRows (defScope sBookRows) := ⟨rfl, rfl, rfl, by decide +kernel, rfl, by decide +kernel, by decide +kernel⟩
abbrev N_BookSettled : List Str := ["self", "order", "mark"]
abbrev P_BookSettled : List Str := ["self", "order"]
theorem sc_BookSettled : FnScope N_BookSettled P_BookSettled (defScope sBookSettled) := ⟨rfl, rfl, rfl, by decide +kernel, rfl, by decide +kernel, by decide +kernel⟩
abbrev N_LCellAt : List Str := ["_law_script", "_law_k"]
abbrev P_LCellAt : List Str := ["_law_script", "_law_k"]
theorem sc_LCellAt : FnScope N_LCellAt P_LCellAt (defScope sLCellAt) := ⟨rfl, rfl, rfl, by decide +kernel, rfl, by decide +kernel, by decide +kernel⟩
abbrev N_LWhole : List Str := ["_law_found"]
abbrev P_LWhole : List Str := ["_law_found"]
theorem sc_LWhole : FnScope N_LWhole P_LWhole (defScope sLWhole) := ⟨rfl, rfl, rfl, by decide +kernel, rfl, by decide +kernel, by decide +kernel⟩
abbrev N_LLineWorth : List Str := ["_law_line"]
abbrev P_LLineWorth : List Str := ["_law_line"]
theorem sc_LLineWorth : FnScope N_LLineWorth P_LLineWorth (defScope sLLineWorth) := ⟨rfl, rfl, rfl, by decide +kernel, rfl, by decide +kernel, by decide +kernel⟩
abbrev N_LOwedBy : List Str := ["_law_order", "_law_line"]
abbrev P_LOwedBy : List Str := ["_law_order"]
theorem sc_LOwedBy : FnScope N_LOwedBy P_LOwedBy (defScope sLOwedBy) := ⟨rfl, rfl, rfl, by decide +kernel, rfl, by decide +kernel, by decide +kernel⟩
abbrev N_LMost : List Str := ["_law_word", "_law_at", "_law_place", "_law_orders", "_law_owed", "_law_line"]
abbrev P_LMost : List Str := ["_law_word", "_law_at", "_law_place", "_law_orders"]
theorem sc_LMost : FnScope N_LMost P_LMost (defScope sLMost) := ⟨rfl, rfl, rfl, by decide +kernel, rfl, by decide +kernel, by decide +kernel⟩
abbrev N_LPlaceBy : List Str := ["_law_cell", "_law_prime", "_law_size", "_law_some"]
abbrev P_LPlaceBy : List Str := ["_law_cell", "_law_prime", "_law_size"]
theorem sc_LPlaceBy : FnScope N_LPlaceBy P_LPlaceBy (defScope sLPlaceBy) := ⟨rfl, rfl, rfl, by decide +kernel, rfl, by decide +kernel, by decide +kernel⟩
abbrev N_LNumberBy : List Str := ["_law_cell", "_law_most_here", "_law_way"]
abbrev P_LNumberBy : List Str := ["_law_cell", "_law_most_here"]
theorem sc_LNumberBy : FnScope N_LNumberBy P_LNumberBy (defScope sLNumberBy) := ⟨rfl, rfl, rfl, by decide +kernel, rfl, by decide +kernel, by decide +kernel⟩
abbrev N_LItemBy : List Str := ["_law_cell", "_law_some", "_law_k"]
abbrev P_LItemBy : List Str := ["_law_cell"]
theorem sc_LItemBy : FnScope N_LItemBy P_LItemBy (defScope sLItemBy) := ⟨rfl, rfl, rfl, by decide +kernel, rfl, by decide +kernel, by decide +kernel⟩
abbrev N_LLinesBy : List Str := ["_law_cell", "_law_lines", "_law_many", "_law_k", "_law_more", "_law_item"]
abbrev P_LLinesBy : List Str := ["_law_cell"]
theorem sc_LLinesBy : FnScope N_LLinesBy P_LLinesBy (defScope sLLinesBy) := ⟨rfl, rfl, rfl, by decide +kernel, rfl, by decide +kernel, by decide +kernel⟩
abbrev N_LDeedBy : List Str := ["_law_cell", "_law_more", "_law_orders", "_law_words", "_law_word", "_law_at", "_law_other", "_law_size", "_law_place"]
abbrev P_LDeedBy : List Str := ["_law_cell", "_law_more", "_law_orders"]
theorem sc_LDeedBy : FnScope N_LDeedBy P_LDeedBy (defScope sLDeedBy) := ⟨rfl, rfl, rfl, by decide +kernel, rfl, by decide +kernel, by decide +kernel⟩
abbrev N_LRefusal : List Str := ["_law_deed", "_law_orders", "_law_place", "_law_number"]
abbrev P_LRefusal : List Str := ["_law_deed", "_law_orders"]
theorem sc_LRefusal : FnScope N_LRefusal P_LRefusal (defScope sLRefusal) := ⟨rfl, rfl, rfl, by decide +kernel, rfl, by decide +kernel, by decide +kernel⟩
abbrev N_LTurned : List Str := ["_law_deed", "_law_orders", "_law_number", "_law_sign", "_law_line"]
abbrev P_LTurned : List Str := ["_law_deed", "_law_orders"]
theorem sc_LTurned : FnScope N_LTurned P_LTurned (defScope sLTurned) := ⟨rfl, rfl, rfl, by decide +kernel, rfl, by decide +kernel, by decide +kernel⟩
abbrev N_LStep : List Str := ["_law_deed", "_law_orders", "_law_line", "_law_places", "_law_order", "_law_ahead", "_law_at", "_law_changes", "_law_change"]
abbrev P_LStep : List Str := ["_law_deed", "_law_orders"]
theorem sc_LStep : FnScope N_LStep P_LStep (defScope sLStep) := ⟨rfl, rfl, rfl, by decide +kernel, rfl, by decide +kernel, by decide +kernel⟩
abbrev N_LHanded : List Str := ["_law_deed"]
abbrev P_LHanded : List Str := ["_law_deed"]
theorem sc_LHanded : FnScope N_LHanded P_LHanded (defScope sLHanded) := ⟨rfl, rfl, rfl, by decide +kernel, rfl, by decide +kernel, by decide +kernel⟩
abbrev N_LTried : List Str := ["_law_book", "_law_deed"]
abbrev P_LTried : List Str := ["_law_book", "_law_deed"]
theorem sc_LTried : FnScope N_LTried P_LTried (defScope sLTried) := ⟨rfl, rfl, rfl, by decide +kernel, rfl, by decide +kernel, by decide +kernel⟩
abbrev N_LPairsAlike : List Str := ["_law_found", "_law_due", "_law_k", "_law_part"]
abbrev P_LPairsAlike : List Str := ["_law_found", "_law_due"]
theorem sc_LPairsAlike : FnScope N_LPairsAlike P_LPairsAlike (defScope sLPairsAlike) := ⟨rfl, rfl, rfl, by decide +kernel, rfl, by decide +kernel, by decide +kernel⟩
abbrev N_LPartsAlike : List Str := ["_law_found", "_law_due", "_law_part"]
abbrev P_LPartsAlike : List Str := ["_law_found", "_law_due"]
theorem sc_LPartsAlike : FnScope N_LPartsAlike P_LPartsAlike (defScope sLPartsAlike) := ⟨rfl, rfl, rfl, by decide +kernel, rfl, by decide +kernel, by decide +kernel⟩
abbrev N_LDeedAlike : List Str := ["_law_found", "_law_due", "_law_k"]
abbrev P_LDeedAlike : List Str := ["_law_found", "_law_due"]
theorem sc_LDeedAlike : FnScope N_LDeedAlike P_LDeedAlike (defScope sLDeedAlike) := ⟨rfl, rfl, rfl, by decide +kernel, rfl, by decide +kernel, by decide +kernel⟩
abbrev N_LAheadWhole : List Str := ["_law_row", "_law_parts", "_law_place", "_law_sign", "_law_k"]
abbrev P_LAheadWhole : List Str := ["_law_row", "_law_parts", "_law_place", "_law_sign"]
theorem sc_LAheadWhole : FnScope N_LAheadWhole P_LAheadWhole (defScope sLAheadWhole) := ⟨rfl, rfl, rfl, by decide +kernel, rfl, by decide +kernel, by decide +kernel⟩
abbrev N_LIsTriple : List Str := ["_law_row", "_law_one"]
abbrev P_LIsTriple : List Str := ["_law_row", "_law_one"]
theorem sc_LIsTriple : FnScope N_LIsTriple P_LIsTriple (defScope sLIsTriple) := ⟨rfl, rfl, rfl, by decide +kernel, rfl, by decide +kernel, by decide +kernel⟩
abbrev N_LMatchedWell : List Str := ["_law_row", "_law_found", "_law_cell", "_law_parts", "_law_last", "_law_one", "_law_cents", "_law_debts", "_law_covers"]
abbrev P_LMatchedWell : List Str := ["_law_row", "_law_found"]
theorem sc_LMatchedWell : FnScope N_LMatchedWell P_LMatchedWell (defScope sLMatchedWell) := ⟨rfl, rfl, rfl, by decide +kernel, rfl, by decide +kernel, by decide +kernel⟩
abbrev N_LRowsAlike : List Str := ["_law_found", "_law_due", "_law_row"]
abbrev P_LRowsAlike : List Str := ["_law_found", "_law_due"]
theorem sc_LRowsAlike : FnScope N_LRowsAlike P_LRowsAlike (defScope sLRowsAlike) := ⟨rfl, rfl, rfl, by decide +kernel, rfl, by decide +kernel, by decide +kernel⟩
abbrev N_LLinesTold : List Str := ["_law_order", "_law_line"]
abbrev P_LLinesTold : List Str := ["_law_order"]
theorem sc_LLinesTold : FnScope N_LLinesTold P_LLinesTold (defScope sLLinesTold) := ⟨rfl, rfl, rfl, by decide +kernel, rfl, by decide +kernel, by decide +kernel⟩
abbrev N_LStands : List Str := ["_law_book", "_law_orders", "_law_at"]
abbrev P_LStands : List Str := ["_law_book", "_law_orders"]
theorem sc_LStands : FnScope N_LStands P_LStands (defScope sLStands) := ⟨rfl, rfl, rfl, by decide +kernel, rfl, by decide +kernel, by decide +kernel⟩
abbrev N_LModelOf : List Str := ["_law_deeds", "_law_orders", "_law_deed"]
abbrev P_LModelOf : List Str := ["_law_deeds"]
theorem sc_LModelOf : FnScope N_LModelOf P_LModelOf (defScope sLModelOf) := ⟨rfl, rfl, rfl, by decide +kernel, rfl, by decide +kernel, by decide +kernel⟩
abbrev N_LStandsBy : List Str := ["_law_book", "_law_deeds", "_law_orders", "_law_at", "_law_found", "_law_row"]
abbrev P_LStandsBy : List Str := ["_law_book", "_law_deeds"]
theorem sc_LStandsBy : FnScope N_LStandsBy P_LStandsBy (defScope sLStandsBy) := ⟨rfl, rfl, rfl, by decide +kernel, rfl, by decide +kernel, by decide +kernel⟩
abbrev N_LBack : List Str := ["_law_book", "_law_deeds", "_law_found"]
abbrev P_LBack : List Str := ["_law_book", "_law_deeds"]
theorem sc_LBack : FnScope N_LBack P_LBack (defScope sLBack) := ⟨rfl, rfl, rfl, by decide +kernel, rfl, by decide +kernel, by decide +kernel⟩
abbrev N_LOfOneClass : List Str := ["_law_e", "_law_found"]
abbrev P_LOfOneClass : List Str := ["_law_e"]
theorem sc_LOfOneClass : FnScope N_LOfOneClass P_LOfOneClass (defScope sLOfOneClass) := ⟨rfl, rfl, rfl, by decide +kernel, rfl, by decide +kernel, by decide +kernel⟩
abbrev N_LNothing : List Str := ["_law_book", "_law_refused", "_law_e"]
abbrev P_LNothing : List Str := ["_law_book"]
theorem sc_LNothing : FnScope N_LNothing P_LNothing (defScope sLNothing) := ⟨rfl, rfl, rfl, by decide +kernel, rfl, by decide +kernel, by decide +kernel⟩
abbrev N_LDone : List Str := ["_law_book", "_law_deed", "_law_handed_here", "_law_found"]
abbrev P_LDone : List Str := ["_law_book", "_law_deed"]
theorem sc_LDone : FnScope N_LDone P_LDone (defScope sLDone) := ⟨rfl, rfl, rfl, by decide +kernel, rfl, by decide +kernel, by decide +kernel⟩
abbrev N_LPaidFirst : List Str := ["_law_book", "_law_cell", "_law_deeds", "_law_k", "_law_deed"]
abbrev P_LPaidFirst : List Str := ["_law_book", "_law_cell"]
theorem sc_LPaidFirst : FnScope N_LPaidFirst P_LPaidFirst (defScope sLPaidFirst) := ⟨rfl, rfl, rfl, by decide +kernel, rfl, by decide +kernel, by decide +kernel⟩
abbrev N_Law : List Str := ["_law_script", "_law_books", "_law_deeds", "_law_k", "_law_at", "_law_orders", "_law_deed"]
abbrev P_Law : List Str := ["_law_script"]
theorem sc_Law : FnScope N_Law P_Law (defScope sLaw) := ⟨rfl, rfl, rfl, by decide +kernel, rfl, by decide +kernel, by decide +kernel⟩
theorem Tx.b_Worth {w : World} {K : PySem.W.Frag} {mg : Str → Option Value} (T : Tx w K mg) : Binds K (fdO K dWorth.at_) P_Worth [] := T.f_Worth.bindsN fun _ _ _ _ _ _ us hl => match us, hl with | [_, _, _], _ => rfl
theorem Tx.b_IsItem {w : World} {K : PySem.W.Frag} {mg : Str → Option Value} (T : Tx w K mg) : Binds K (fdO K dIsItem.at_) P_IsItem [] := T.f_IsItem.bindsN fun _ _ _ _ _ _ us hl => match us, hl with | [_], _ => rfl
theorem Tx.b_CheckLine {w : World} {K : PySem.W.Frag} {mg : Str → Option Value} (T : Tx w K mg) : Binds K (fdO K dCheckLine.at_) P_CheckLine [] := T.f_CheckLine.bindsN fun _ _ _ _ _ _ us hl => match us, hl with | [_], _ => rfl
theorem Tx.b_LineInit {w : World} {K : PySem.W.Frag} {mg : Str → Option Value} (T : Tx w K mg) : Binds K (fdO K dLineInit.at_) P_LineInit [] := T.f_LineInit.bindsN fun _ _ _ _ _ _ us hl => match us, hl with | [_, _], _ => rfl
theorem Tx.b_LineKept {w : World} {K : PySem.W.Frag} {mg : Str → Option Value} (T : Tx w K mg) : Binds K (fdO K dLineKept.at_) P_LineKept [] := T.f_LineKept.bindsN fun _ _ _ _ _ _ us hl => match us, hl with | [_], _ => rfl
theorem Tx.b_LineToCome {w : World} {K : PySem.W.Frag} {mg : Str → Option Value} (T : Tx w K mg) : Binds K (fdO K dLineToCome.at_) P_LineToCome [] := T.f_LineToCome.bindsN fun _ _ _ _ _ _ us hl => match us, hl with | [_], _ => rfl
theorem Tx.b_LineKeptWorth {w : World} {K : PySem.W.Frag} {mg : Str → Option Value} (T : Tx w K mg) : Binds K (fdO K dLineKeptWorth.at_) P_LineKeptWorth [] := T.f_LineKeptWorth.bindsN fun _ _ _ _ _ _ us hl => match us, hl with | [_], _ => rfl
theorem Tx.b_LineCharge {w : World} {K : PySem.W.Frag} {mg : Str → Option Value} (T : Tx w K mg) : Binds K (fdO K dLineCharge.at_) P_LineCharge [] := T.f_LineCharge.bindsN fun _ _ _ _ _ _ us hl => match us, hl with | [_], _ => rfl
theorem Tx.b_LineDeliver {w : World} {K : PySem.W.Frag} {mg : Str → Option Value} (T : Tx w K mg) : Binds K (fdO K dLineDeliver.at_) P_LineDeliver [] := T.f_LineDeliver.bindsN fun _ _ _ _ _ _ us hl => match us, hl with | [_, _], _ => rfl
theorem Tx.b_LineBring {w : World} {K : PySem.W.Frag} {mg : Str → Option Value} (T : Tx w K mg) : Binds K (fdO K dLineBring.at_) P_LineBring [] := T.f_LineBring.bindsN fun _ _ _ _ _ _ us hl => match us, hl with | [_, _, _], _ => rfl
theorem Tx.b_LineReduce {w : World} {K : PySem.W.Frag} {mg : Str → Option Value} (T : Tx w K mg) : Binds K (fdO K dLineReduce.at_) P_LineReduce [] := T.f_LineReduce.bindsN fun _ _ _ _ _ _ us hl => match us, hl with | [_, _], _ => rfl
theorem Tx.b_LineNumbers {w : World} {K : PySem.W.Frag} {mg : Str → Option Value} (T : Tx w K mg) : Binds K (fdO K dLineNumbers.at_) P_LineNumbers [] := T.f_LineNumbers.bindsN fun _ _ _ _ _ _ us hl => match us, hl with | [_], _ => rfl
theorem Tx.b_Matched {w : World} {K : PySem.W.Frag} {mg : Str → Option Value} (T : Tx w K mg) : Binds K (fdO K dMatched.at_) P_Matched [] := T.f_Matched.bindsN fun _ _ _ _ _ _ us hl => match us, hl with | [_], _ => rfl
theorem Tx.b_OrderInit {w : World} {K : PySem.W.Frag} {mg : Str → Option Value} (T : Tx w K mg) : Binds K (fdO K dOrderInit.at_) P_OrderInit [] := T.f_OrderInit.bindsN fun _ _ _ _ _ _ us hl => match us, hl with | [_, _], _ => rfl
theorem Tx.b_OrderOwing {w : World} {K : PySem.W.Frag} {mg : Str → Option Value} (T : Tx w K mg) : Binds K (fdO K dOrderOwing.at_) P_OrderOwing [] := T.f_OrderOwing.bindsN fun _ _ _ _ _ _ us hl => match us, hl with | [_], _ => rfl
theorem Tx.b_OrderLineOf {w : World} {K : PySem.W.Frag} {mg : Str → Option Value} (T : Tx w K mg) : Binds K (fdO K dOrderLineOf.at_) P_OrderLineOf [] := T.f_OrderLineOf.bindsN fun _ _ _ _ _ _ us hl => match us, hl with | [_, _], _ => rfl
theorem Tx.b_OrderNeedOver {w : World} {K : PySem.W.Frag} {mg : Str → Option Value} (T : Tx w K mg) : Binds K (fdO K dOrderNeedOver.at_) P_OrderNeedOver [] := T.f_OrderNeedOver.bindsN fun _ _ _ _ _ _ us hl => match us, hl with | [_, _], _ => rfl
theorem Tx.b_OrderTurnLine {w : World} {K : PySem.W.Frag} {mg : Str → Option Value} (T : Tx w K mg) : Binds K (fdO K dOrderTurnLine.at_) P_OrderTurnLine [] := T.f_OrderTurnLine.bindsN fun _ _ _ _ _ _ us hl => match us, hl with | [_, _, _, _], _ => rfl
theorem Tx.b_OrderTake {w : World} {K : PySem.W.Frag} {mg : Str → Option Value} (T : Tx w K mg) : Binds K (fdO K dOrderTake.at_) P_OrderTake [] := T.f_OrderTake.bindsN fun _ _ _ _ _ _ us hl => match us, hl with | [_, _], _ => rfl
theorem Tx.b_OrderMark {w : World} {K : PySem.W.Frag} {mg : Str → Option Value} (T : Tx w K mg) : Binds K (fdO K dOrderMark.at_) P_OrderMark [] := T.f_OrderMark.bindsN fun _ _ _ _ _ _ us hl => match us, hl with | [_, _, _], _ => rfl
theorem Tx.b_Own {w : World} {K : PySem.W.Frag} {mg : Str → Option Value} (T : Tx w K mg) : Binds K (fdO K dOwn.at_) P_Own [] := T.f_Own.bindsN fun _ _ _ _ _ _ us hl => match us, hl with | [_], _ => rfl
theorem Tx.b_BookInit {w : World} {K : PySem.W.Frag} {mg : Str → Option Value} (T : Tx w K mg) : Binds K (fdO K dBookInit.at_) P_BookInit [] := T.f_BookInit.bindsN fun _ _ _ _ _ _ us hl => match us, hl with | [_], _ => rfl
theorem Tx.b_BookOrderOf {w : World} {K : PySem.W.Frag} {mg : Str → Option Value} (T : Tx w K mg) : Binds K (fdO K dBookOrderOf.at_) P_BookOrderOf [] := T.f_BookOrderOf.bindsN fun _ _ _ _ _ _ us hl => match us, hl with | [_, _], _ => rfl
theorem Tx.b_BookDo {w : World} {K : PySem.W.Frag} {mg : Str → Option Value} (T : Tx w K mg) : Binds K (fdO K dBookDo.at_) P_BookDo [] := T.f_BookDo.bindsN fun _ _ _ _ _ _ us hl => match us, hl with | [_, _], _ => rfl
theorem Tx.b_BookBegin {w : World} {K : PySem.W.Frag} {mg : Str → Option Value} (T : Tx w K mg) : Binds K (fdO K dBookBegin.at_) P_BookBegin [] := T.f_BookBegin.bindsN fun _ _ _ _ _ _ us hl => match us, hl with | [_, _], _ => rfl
theorem Tx.b_BookShift {w : World} {K : PySem.W.Frag} {mg : Str → Option Value} (T : Tx w K mg) : Binds K (fdO K dBookShift.at_) P_BookShift [] := T.f_BookShift.bindsN fun _ _ _ _ _ _ us hl => match us, hl with | [_, _], _ => rfl
theorem Tx.b_BookOne {w : World} {K : PySem.W.Frag} {mg : Str → Option Value} (T : Tx w K mg) : Binds K (fdO K dBookOne.at_) P_BookOne [] := T.f_BookOne.bindsN fun _ _ _ _ _ _ us hl => match us, hl with | [_, _], _ => rfl
theorem Tx.b_BookNeedNumber {w : World} {K : PySem.W.Frag} {mg : Str → Option Value} (T : Tx w K mg) : Binds K (fdO K dBookNeedNumber.at_) P_BookNeedNumber [] := T.f_BookNeedNumber.bindsN fun _ _ _ _ _ _ us hl => match us, hl with | [_, _], _ => rfl
theorem Tx.b_BookUndo {w : World} {K : PySem.W.Frag} {mg : Str → Option Value} (T : Tx w K mg) : Binds K (fdO K dBookUndo.at_) P_BookUndo [] := T.f_BookUndo.bindsN fun _ _ _ _ _ _ us hl => match us, hl with | [_], _ => rfl
theorem Tx.b_BookOrders {w : World} {K : PySem.W.Frag} {mg : Str → Option Value} (T : Tx w K mg) : Binds K (fdO K dBookOrders.at_) P_BookOrders [] := T.f_BookOrders.bindsN fun _ _ _ _ _ _ us hl => match us, hl with | [_], _ => rfl
theorem Tx.b_BookTold {w : World} {K : PySem.W.Frag} {mg : Str → Option Value} (T : Tx w K mg) : Binds K (fdO K dBookTold.at_) P_BookTold [] := T.f_BookTold.bindsN fun _ _ _ _ _ _ us hl => match us, hl with | [_, _], _ => rfl
theorem Tx.b_BookPaid {w : World} {K : PySem.W.Frag} {mg : Str → Option Value} (T : Tx w K mg) : Binds K (fdO K dBookPaid.at_) P_BookPaid [] := T.f_BookPaid.bindsN fun _ _ _ _ _ _ us hl => match us, hl with | [_, _], _ => rfl
theorem Tx.b_BookOwed {w : World} {K : PySem.W.Frag} {mg : Str → Option Value} (T : Tx w K mg) : Binds K (fdO K dBookOwed.at_) P_BookOwed [] := T.f_BookOwed.bindsN fun _ _ _ _ _ _ us hl => match us, hl with | [_, _], _ => rfl
theorem Tx.b_BookRows {w : World} {K : PySem.W.Frag} {mg : Str → Option Value} (T : Tx w K mg) : Binds K (fdO K dBookRows.at_) P_BookRows [] := T.f_BookRows.bindsN fun _ _ _ _ _ _ us hl => match us, hl with | [_, _], _ => rfl
theorem Tx.b_BookSettled {w : World} {K : PySem.W.Frag} {mg : Str → Option Value} (T : Tx w K mg) : Binds K (fdO K dBookSettled.at_) P_BookSettled [] := T.f_BookSettled.bindsN fun _ _ _ _ _ _ us hl => match us, hl with | [_, _], _ => rfl
theorem Tx.b_LCellAt {w : World} {K : PySem.W.Frag} {mg : Str → Option Value} (T : Tx w K mg) : Binds K (fdO K dLCellAt.at_) P_LCellAt [] := T.f_LCellAt.bindsN fun _ _ _ _ _ _ us hl => match us, hl with | [_, _], _ => rfl
theorem Tx.b_LWhole {w : World} {K : PySem.W.Frag} {mg : Str → Option Value} (T : Tx w K mg) : Binds K (fdO K dLWhole.at_) P_LWhole [] := T.f_LWhole.bindsN fun _ _ _ _ _ _ us hl => match us, hl with | [_], _ => rfl
theorem Tx.b_LLineWorth {w : World} {K : PySem.W.Frag} {mg : Str → Option Value} (T : Tx w K mg) : Binds K (fdO K dLLineWorth.at_) P_LLineWorth [] := T.f_LLineWorth.bindsN fun _ _ _ _ _ _ us hl => match us, hl with | [_], _ => rfl
theorem Tx.b_LOwedBy {w : World} {K : PySem.W.Frag} {mg : Str → Option Value} (T : Tx w K mg) : Binds K (fdO K dLOwedBy.at_) P_LOwedBy [] := T.f_LOwedBy.bindsN fun _ _ _ _ _ _ us hl => match us, hl with | [_], _ => rfl
theorem Tx.b_LMost {w : World} {K : PySem.W.Frag} {mg : Str → Option Value} (T : Tx w K mg) : Binds K (fdO K dLMost.at_) P_LMost [] := T.f_LMost.bindsN fun _ _ _ _ _ _ us hl => match us, hl with | [_, _, _, _], _ => rfl
theorem Tx.b_LPlaceBy {w : World} {K : PySem.W.Frag} {mg : Str → Option Value} (T : Tx w K mg) : Binds K (fdO K dLPlaceBy.at_) P_LPlaceBy [] := T.f_LPlaceBy.bindsN fun _ _ _ _ _ _ us hl => match us, hl with | [_, _, _], _ => rfl
theorem Tx.b_LNumberBy {w : World} {K : PySem.W.Frag} {mg : Str → Option Value} (T : Tx w K mg) : Binds K (fdO K dLNumberBy.at_) P_LNumberBy [] := T.f_LNumberBy.bindsN fun _ _ _ _ _ _ us hl => match us, hl with | [_, _], _ => rfl
theorem Tx.b_LItemBy {w : World} {K : PySem.W.Frag} {mg : Str → Option Value} (T : Tx w K mg) : Binds K (fdO K dLItemBy.at_) P_LItemBy [] := T.f_LItemBy.bindsN fun _ _ _ _ _ _ us hl => match us, hl with | [_], _ => rfl
theorem Tx.b_LLinesBy {w : World} {K : PySem.W.Frag} {mg : Str → Option Value} (T : Tx w K mg) : Binds K (fdO K dLLinesBy.at_) P_LLinesBy [] := T.f_LLinesBy.bindsN fun _ _ _ _ _ _ us hl => match us, hl with | [_], _ => rfl
theorem Tx.b_LDeedBy {w : World} {K : PySem.W.Frag} {mg : Str → Option Value} (T : Tx w K mg) : Binds K (fdO K dLDeedBy.at_) P_LDeedBy [] := T.f_LDeedBy.bindsN fun _ _ _ _ _ _ us hl => match us, hl with | [_, _, _], _ => rfl
theorem Tx.b_LRefusal {w : World} {K : PySem.W.Frag} {mg : Str → Option Value} (T : Tx w K mg) : Binds K (fdO K dLRefusal.at_) P_LRefusal [] := T.f_LRefusal.bindsN fun _ _ _ _ _ _ us hl => match us, hl with | [_, _], _ => rfl
theorem Tx.b_LTurned {w : World} {K : PySem.W.Frag} {mg : Str → Option Value} (T : Tx w K mg) : Binds K (fdO K dLTurned.at_) P_LTurned [] := T.f_LTurned.bindsN fun _ _ _ _ _ _ us hl => match us, hl with | [_, _], _ => rfl
theorem Tx.b_LStep {w : World} {K : PySem.W.Frag} {mg : Str → Option Value} (T : Tx w K mg) : Binds K (fdO K dLStep.at_) P_LStep [] := T.f_LStep.bindsN fun _ _ _ _ _ _ us hl => match us, hl with | [_, _], _ => rfl
theorem Tx.b_LHanded {w : World} {K : PySem.W.Frag} {mg : Str → Option Value} (T : Tx w K mg) : Binds K (fdO K dLHanded.at_) P_LHanded [] := T.f_LHanded.bindsN fun _ _ _ _ _ _ us hl => match us, hl with | [_], _ => rfl
theorem Tx.b_LTried {w : World} {K : PySem.W.Frag} {mg : Str → Option Value} (T : Tx w K mg) : Binds K (fdO K dLTried.at_) P_LTried [] := T.f_LTried.bindsN fun _ _ _ _ _ _ us hl => match us, hl with | [_, _], _ => rfl
theorem Tx.b_LPairsAlike {w : World} {K : PySem.W.Frag} {mg : Str → Option Value} (T : Tx w K mg) : Binds K (fdO K dLPairsAlike.at_) P_LPairsAlike [] := T.f_LPairsAlike.bindsN fun _ _ _ _ _ _ us hl => match us, hl with | [_, _], _ => rfl
theorem Tx.b_LPartsAlike {w : World} {K : PySem.W.Frag} {mg : Str → Option Value} (T : Tx w K mg) : Binds K (fdO K dLPartsAlike.at_) P_LPartsAlike [] := T.f_LPartsAlike.bindsN fun _ _ _ _ _ _ us hl => match us, hl with | [_, _], _ => rfl
theorem Tx.b_LDeedAlike {w : World} {K : PySem.W.Frag} {mg : Str → Option Value} (T : Tx w K mg) : Binds K (fdO K dLDeedAlike.at_) P_LDeedAlike [] := T.f_LDeedAlike.bindsN fun _ _ _ _ _ _ us hl => match us, hl with | [_, _], _ => rfl
theorem Tx.b_LAheadWhole {w : World} {K : PySem.W.Frag} {mg : Str → Option Value} (T : Tx w K mg) : Binds K (fdO K dLAheadWhole.at_) P_LAheadWhole [] := T.f_LAheadWhole.bindsN fun _ _ _ _ _ _ us hl => match us, hl with | [_, _, _, _], _ => rfl
theorem Tx.b_LIsTriple {w : World} {K : PySem.W.Frag} {mg : Str → Option Value} (T : Tx w K mg) : Binds K (fdO K dLIsTriple.at_) P_LIsTriple [] := T.f_LIsTriple.bindsN fun _ _ _ _ _ _ us hl => match us, hl with | [_, _], _ => rfl
theorem Tx.b_LMatchedWell {w : World} {K : PySem.W.Frag} {mg : Str → Option Value} (T : Tx w K mg) : Binds K (fdO K dLMatchedWell.at_) P_LMatchedWell [] := T.f_LMatchedWell.bindsN fun _ _ _ _ _ _ us hl => match us, hl with | [_, _], _ => rfl
theorem Tx.b_LRowsAlike {w : World} {K : PySem.W.Frag} {mg : Str → Option Value} (T : Tx w K mg) : Binds K (fdO K dLRowsAlike.at_) P_LRowsAlike [] := T.f_LRowsAlike.bindsN fun _ _ _ _ _ _ us hl => match us, hl with | [_, _], _ => rfl
theorem Tx.b_LLinesTold {w : World} {K : PySem.W.Frag} {mg : Str → Option Value} (T : Tx w K mg) : Binds K (fdO K dLLinesTold.at_) P_LLinesTold [] := T.f_LLinesTold.bindsN fun _ _ _ _ _ _ us hl => match us, hl with | [_], _ => rfl
theorem Tx.b_LStands {w : World} {K : PySem.W.Frag} {mg : Str → Option Value} (T : Tx w K mg) : Binds K (fdO K dLStands.at_) P_LStands [] := T.f_LStands.bindsN fun _ _ _ _ _ _ us hl => match us, hl with | [_, _], _ => rfl
theorem Tx.b_LModelOf {w : World} {K : PySem.W.Frag} {mg : Str → Option Value} (T : Tx w K mg) : Binds K (fdO K dLModelOf.at_) P_LModelOf [] := T.f_LModelOf.bindsN fun _ _ _ _ _ _ us hl => match us, hl with | [_], _ => rfl
theorem Tx.b_LStandsBy {w : World} {K : PySem.W.Frag} {mg : Str → Option Value} (T : Tx w K mg) : Binds K (fdO K dLStandsBy.at_) P_LStandsBy [] := T.f_LStandsBy.bindsN fun _ _ _ _ _ _ us hl => match us, hl with | [_, _], _ => rfl
theorem Tx.b_LBack {w : World} {K : PySem.W.Frag} {mg : Str → Option Value} (T : Tx w K mg) : Binds K (fdO K dLBack.at_) P_LBack [] := T.f_LBack.bindsN fun _ _ _ _ _ _ us hl => match us, hl with | [_, _], _ => rfl
theorem Tx.b_LOfOneClass {w : World} {K : PySem.W.Frag} {mg : Str → Option Value} (T : Tx w K mg) : Binds K (fdO K dLOfOneClass.at_) P_LOfOneClass [] := T.f_LOfOneClass.bindsN fun _ _ _ _ _ _ us hl => match us, hl with | [_], _ => rfl
theorem Tx.b_LNothing {w : World} {K : PySem.W.Frag} {mg : Str → Option Value} (T : Tx w K mg) : Binds K (fdO K dLNothing.at_) P_LNothing [] := T.f_LNothing.bindsN fun _ _ _ _ _ _ us hl => match us, hl with | [_], _ => rfl
theorem Tx.b_LDone {w : World} {K : PySem.W.Frag} {mg : Str → Option Value} (T : Tx w K mg) : Binds K (fdO K dLDone.at_) P_LDone [] := T.f_LDone.bindsN fun _ _ _ _ _ _ us hl => match us, hl with | [_, _], _ => rfl
theorem Tx.b_LPaidFirst {w : World} {K : PySem.W.Frag} {mg : Str → Option Value} (T : Tx w K mg) : Binds K (fdO K dLPaidFirst.at_) P_LPaidFirst [] := T.f_LPaidFirst.bindsN fun _ _ _ _ _ _ us hl => match us, hl with | [_, _], _ => rfl
theorem Tx.b_Law {w : World} {K : PySem.W.Frag} {mg : Str → Option Value} (T : Tx w K mg) : Binds K (fdO K dLaw.at_) P_Law [] := T.f_Law.bindsN fun _ _ _ _ _ _ us hl => match us, hl with | [_], _ => rfl
theorem runF (w : World) : HandSHeadRun.RunEq R qv hk ob 20000 names (w.withFollow "special-get-raises" false) := by
  intro os
  kernel_rfl
theorem runT (w : World) : HandSHeadRun.RunEq R qv hk ob 20000 names (w.withFollow "special-get-raises" true) := by
  intro os
  kernel_rfl
theorem run (w : World) : HandSHeadRun.RunEq R qv hk ob 20000 names w := PySem.W.byRow2 "special-get-raises" (P := fun w => HandSHeadRun.RunEq R qv hk ob 20000 names w) runF runT w
local macro_rules | `(tactic| walk_at "rd1") => `(tactic| with_reducible first
  | refine r_gn ?_ | refine r_seq ?_ | refine r_asg ?_ | refine r_ret ?_ | refine r_retN ?_ | refine r_drop ?_ | refine r_ifs ?_ | refine r_next ?_ | refine r_var rfl ?_ | refine r_c ?_ | refine r_op ?_ | refine r_un ?_
  | refine r_U ?_ | refine r_I0 ?_ | refine r_eqI ?_ | refine r_neI ?_ | refine r_eqS ?_ | refine r_neS ?_ | refine r_test ?_ | refine r_tB ?_ | refine r_exb ?_ | refine r_and ?_ | refine r_or ?_ | refine r_not ?_
  | refine r_andV ?_ | refine r_orV ?_ | refine r_notV ?_ | refine r_ifE ?_ | refine r_nil ?_ | refine r_cons ?_ | refine r_cb ?_ | refine r_tup ?_ | refine r_lst ?_ | refine r_call ?_ | refine r_callS ?_ | refine r_meth ?_ | refine r_fld ?_ | refine r_sfld ?_
  | refine r_lcl ?_ | refine r_lct ?_ | refine r_lcr ?_ | refine r_forl ?_ | refine r_fort ?_ | refine r_fors ?_ | refine r_forr ?_ | refine r_forr2 ?_
  | refine r_mx ?_ | refine r_sl ?_ | refine r_part ?_ | refine r_nopart ?_ | refine r_exi ?_ | refine r_asgS ?_ | refine r_is_int_int ?_ | refine r_is_int_bool ?_ | refine r_is_int_str ?_ | refine r_is_str_str ?_ | refine r_is_str_int ?_ | refine r_is_str_list ?_
  | refine r_make ?_ | refine r_bm ?_ | refine r_chain ?_ | refine r_itT ?_ | refine r_itF ?_ | refine r_itnT ?_ | refine r_itnF ?_)
local macro_rules | `(tactic| walk_at "rs1") => `(tactic| with_reducible first
  | refine r_gn ?_ | refine r_asg ?_ | refine r_ret ?_ | refine r_retN ?_ | refine r_drop ?_ | refine r_ifs ?_ | refine r_next ?_ | refine r_var rfl ?_ | refine r_c ?_ | refine r_op ?_ | refine r_un ?_
  | refine r_U ?_ | refine r_I0 ?_ | refine r_eqI ?_ | refine r_neI ?_ | refine r_eqS ?_ | refine r_neS ?_ | refine r_test ?_ | refine r_tB ?_ | refine r_exb ?_ | refine r_and ?_ | refine r_or ?_ | refine r_not ?_
  | refine r_andV ?_ | refine r_orV ?_ | refine r_notV ?_ | refine r_ifE ?_ | refine r_nil ?_ | refine r_cons ?_ | refine r_cb ?_ | refine r_tup ?_ | refine r_lst ?_ | refine r_call ?_ | refine r_callS ?_ | refine r_meth ?_ | refine r_fld ?_ | refine r_sfld ?_
  | refine r_lcl ?_ | refine r_lct ?_ | refine r_lcr ?_ | refine r_forl ?_ | refine r_fort ?_ | refine r_fors ?_ | refine r_forr ?_ | refine r_forr2 ?_
  | refine r_mx ?_ | refine r_sl ?_ | refine r_part ?_ | refine r_nopart ?_ | refine r_exi ?_ | refine r_asgS ?_ | refine r_is_int_int ?_ | refine r_is_int_bool ?_ | refine r_is_int_str ?_ | refine r_is_str_str ?_ | refine r_is_str_int ?_ | refine r_is_str_list ?_
  | refine r_make ?_ | refine r_bm ?_ | refine r_chain ?_ | refine r_itT ?_ | refine r_itF ?_ | refine r_itnT ?_ | refine r_itnF ?_)
local macro_rules | `(tactic| walk_at "rs") => `(tactic| repeat walk_at "rs1")
local macro_rules | `(tactic| walk_at "rd") => `(tactic| repeat walk_at "rd1")
local macro_rules | `(tactic| walk_at "pf") => `(tactic| repeat first | exact pf_nil | exact pf_hit | (apply pf_m; decide +kernel))
local macro_rules | `(tactic| walk_at "pos") => `(tactic| (first | (show (0 : Int) < _; decide) | exact ⟨by decide, by decide⟩ | omega))
local macro_rules | `(tactic| walk_at "md") => `(tactic| refine r_I (by walk_at "pos") ?_)
local macro_rules | `(tactic| walk_at "cell") => `(tactic| refine ⟨_, _, rfl, by assumption, by decide, fun _ => ?_⟩)
local macro_rules | `(tactic| walk_at "ml") => `(tactic| first | refine r_I (.inr ⟨by decide, by decide⟩) ?_ | refine r_I (.inl ⟨by decide, by decide⟩) ?_)
/-! ### prices and items -/
def spWorth (_ : PySem.W.Frag) : Sp := fun vs H Q _ => ∃ n c p : Int, vs = [.int n, .int c, .int p] ∧ (-(2 ^ 64) < c ∧ c < 2 ^ 64) ∧ (0 < p ∧ p < 1073741824) ∧ Q (.int (n * c / p)) H
theorem len_Worth {K : PySem.W.Frag} {vs : List V} {H : Hp} {Q : VK} {E : XK} (h : spWorth K vs H Q E) : vs.length = 3 := by
  obtain ⟨_, _, _, rfl, _⟩ := h; rfl
theorem ok_Worth {P : Program} {w : World} {K : PySem.W.Frag} {mg : Str → Option Value} {base : Heap} (T : Tx w K mg) : FnOk P w K mg base CX0 1 (He.fAd K dWorth.at_) (fdO K dWorth.at_) P_Worth (spWorth K) := by
  refine T.f_Worth.ok sc_Worth (fun vs H Q E h => len_Worth h) (fun cdv A outer s H vs Q E hr h => ⟨_, PSs.nox ((pss_one (ps_ret (pe_op op_fdiv (pe_op op_mul (pv 0) (pv 1)) (pv 2))))), ?_⟩)
  obtain ⟨n, c, p, rfl, hc, hp, q⟩ := h
  walk_at "rd"
  refine r_I (.inr hc) ?_
  walk_at "rd"
  exact r_I hp q
/-! ### a line -/
def LnAt (K : PySem.W.Frag) (H : Hp) (a : Addr) (l : Ln) : Prop := ∃ dx, H a = some (.ins (He.ga K "Line") dx (lnF l))
/-- the prices of a line are within their bounds -/
def Ln.ok (l : Ln) : Prop := (0 ≤ l.cents ∧ l.cents ≤ 1000000000) ∧ (1 ≤ l.pack ∧ l.pack ≤ 1000)
def Ln.kept (l : Ln) : Int := l.sent - l.home
def Ln.toCome (l : Ln) : Int := l.ordered - l.sent + l.again
def Ln.worth (l : Ln) : Int := l.kept * l.cents / l.pack
def Ln.charge (l : Ln) : Int := l.worth - l.credited
def spLn (K : PySem.W.Frag) (g : Ln → Int) : Sp := fun vs H Q _ => ∃ (a : Addr) (l : Ln), vs = [.ref a] ∧ LnAt K H a l ∧ l.ok ∧ Q (.int (g l)) H
theorem len_ln {K : PySem.W.Frag} {g : Ln → Int} {vs : List V} {H : Hp} {Q : VK} {E : XK} (h : spLn K g vs H Q E) : vs.length = 1 := by
  obtain ⟨_, _, rfl, _⟩ := h; rfl
abbrev spLineKept (K : PySem.W.Frag) := spLn K Ln.kept
abbrev spLineToCome (K : PySem.W.Frag) := spLn K Ln.toCome
abbrev spLineKeptWorth (K : PySem.W.Frag) := spLn K Ln.worth
abbrev spLineCharge (K : PySem.W.Frag) := spLn K Ln.charge
abbrev len_LineKept {K : PySem.W.Frag} {vs : List V} {H : Hp} {Q : VK} {E : XK} (h : spLineKept K vs H Q E) := len_ln h
abbrev len_LineToCome {K : PySem.W.Frag} {vs : List V} {H : Hp} {Q : VK} {E : XK} (h : spLineToCome K vs H Q E) := len_ln h
abbrev len_LineKeptWorth {K : PySem.W.Frag} {vs : List V} {H : Hp} {Q : VK} {E : XK} (h : spLineKeptWorth K vs H Q E) := len_ln h
abbrev len_LineCharge {K : PySem.W.Frag} {vs : List V} {H : Hp} {Q : VK} {E : XK} (h : spLineCharge K vs H Q E) := len_ln h
theorem ok_LineKept {P : Program} {w : World} {K : PySem.W.Frag} {mg : Str → Option Value} {base : Heap} (T : Tx w K mg) : FnOk P w K mg base CX0 1 (He.fAd K dLineKept.at_) (fdO K dLineKept.at_) P_LineKept (spLineKept K) := by
  refine T.f_LineKept.ok sc_LineKept (fun vs H Q E h => len_LineKept h) (fun cdv A outer s H vs Q E hr h => ⟨_, PSs.nox ((pss_one (ps_ret (pe_op op_sub (pe_fld (pv 0) rfl) (pe_fld (pv 0) rfl))))), ?_⟩)
  obtain ⟨a, l, rfl, ⟨dx, ha⟩, ho, q⟩ := h
  walk_at "rd"
  refine r_f ha T.cl_Line T.n_Line_sent (lk_Line_sent l) ?_
  walk_at "rd"
  refine r_f ha T.cl_Line T.n_Line_home (lk_Line_home l) ?_
  walk_at "rd"
  exact q
theorem ok_LineToCome {P : Program} {w : World} {K : PySem.W.Frag} {mg : Str → Option Value} {base : Heap} (T : Tx w K mg) : FnOk P w K mg base CX0 1 (He.fAd K dLineToCome.at_) (fdO K dLineToCome.at_) P_LineToCome (spLineToCome K) := by
  refine T.f_LineToCome.ok sc_LineToCome (fun vs H Q E h => len_LineToCome h) (fun cdv A outer s H vs Q E hr h => ⟨_, PSs.nox ((pss_one (ps_ret (pe_op op_add (pe_op op_sub (pe_fld (pv 0) rfl) (pe_fld (pv 0) rfl)) (pe_fld (pv 0) rfl))))), ?_⟩)
  obtain ⟨a, l, rfl, ⟨dx, ha⟩, ho, q⟩ := h
  walk_at "rd"
  refine r_f ha T.cl_Line T.n_Line_ordered (lk_Line_ordered l) ?_
  walk_at "rd"
  refine r_f ha T.cl_Line T.n_Line_sent (lk_Line_sent l) ?_
  walk_at "rd"
  refine r_f ha T.cl_Line T.n_Line_again (lk_Line_again l) ?_
  walk_at "rd"
  exact q
theorem ok_LineKeptWorth {P : Program} {w : World} {K : PySem.W.Frag} {mg : Str → Option Value} {base : Heap} (T : Tx w K mg) : FnOk P w K mg base CX0 2 (He.fAd K dLineKeptWorth.at_) (fdO K dLineKeptWorth.at_) P_LineKeptWorth (spLineKeptWorth K) := by
  refine T.f_LineKeptWorth.ok sc_LineKeptWorth (fun vs H Q E h => len_LineKeptWorth h) (fun cdv A outer s H vs Q E hr h => ⟨_, PSs.nox ((pss_one (ps_ret (pe_call (ok_Worth T) (hr.mono (by decide)) rfl T.g_Worth T.f_Worth.kp T.b_Worth .nil pass0 (pa_cons (pe_meth0 (pv 0) T.cl_Line T.m_Line_kept (ok_LineKept T) (hr.mono (by decide)) T.b_LineKept .nil pass0) (pa_cons (pe_fld (pv 0) rfl) (pa_cons (pe_fld (pv 0) rfl) pa_nil))))))), ?_⟩)
  obtain ⟨a, l, rfl, ⟨dx, ha⟩, ho, q⟩ := h
  walk_at "rd"
  refine r_m ha (no_Line_kept l) ?_
  walk_at "rd"
  refine ⟨a, l, rfl, ⟨dx, ha⟩, ho, ?_⟩
  walk_at "rd"
  refine r_f ha T.cl_Line T.n_Line_cents (lk_Line_cents l) ?_
  walk_at "rd"
  refine r_f ha T.cl_Line T.n_Line_pack (lk_Line_pack l) ?_
  walk_at "rd"
  obtain ⟨h1, h2⟩ := ho
  exact ⟨_, _, _, rfl, by omega, by omega, q⟩
theorem ok_LineCharge {P : Program} {w : World} {K : PySem.W.Frag} {mg : Str → Option Value} {base : Heap} (T : Tx w K mg) : FnOk P w K mg base CX0 3 (He.fAd K dLineCharge.at_) (fdO K dLineCharge.at_) P_LineCharge (spLineCharge K) := by
  refine T.f_LineCharge.ok sc_LineCharge (fun vs H Q E h => len_LineCharge h) (fun cdv A outer s H vs Q E hr h => ⟨_, PSs.nox ((pss_one (ps_ret (pe_op op_sub (pe_meth0 (pv 0) T.cl_Line T.m_Line_kept_worth (ok_LineKeptWorth T) (hr.mono (by decide)) T.b_LineKeptWorth .nil pass0) (pe_fld (pv 0) rfl))))), ?_⟩)
  obtain ⟨a, l, rfl, ⟨dx, ha⟩, ho, q⟩ := h
  walk_at "rd"
  refine r_m ha (no_Line_kept_worth l) ?_
  walk_at "rd"
  refine ⟨a, l, rfl, ⟨dx, ha⟩, ho, ?_⟩
  walk_at "rd"
  refine r_f ha T.cl_Line T.n_Line_credited (lk_Line_credited l) ?_
  walk_at "rd"
  exact q

/-! ### items, lines as they are told -/
abbrev letters : Str := "abcdefghijklmnopqrstuvwxyz"
def isItem (z : Str) : Bool := decide (∀ c ∈ z.cps.toList, c ∈ letters.cps.toList) && decide (1 ≤ z.length ∧ z.length ≤ 12)
def spIsItem (_ : PySem.W.Frag) : Sp := fun vs H Q _ => ∃ z : Str, vs = [.str z] ∧ z.length ≤ 100000 ∧ Q (.bl (isItem z)) H
theorem len_IsItem {K : PySem.W.Frag} {vs : List V} {H : Hp} {Q : VK} {E : XK} (h : spIsItem K vs H Q E) : vs.length = 1 := by
  obtain ⟨_, rfl, _⟩ := h; rfl
theorem isItem_no {z : Str} {i : Nat} {c : Nat} (h : z.cps[i]? = some c) (n : ¬ c ∈ letters.cps.toList) : isItem z = false := by
  have hm : c ∈ z.cps.toList := by
    have h2 : z.cps.toList[i]? = some c := by simpa using h
    exact List.mem_of_getElem? h2
  unfold isItem
  rw [decide_eq_false (fun q => n (q c hm))]
  rfl
theorem isItem_yes {z : Str} (h : ∀ j c, j < z.cps.size → z.cps[j]? = some c → c ∈ letters.cps.toList) : isItem z = decide (1 ≤ z.length ∧ z.length ≤ 12) := by
  unfold isItem
  rw [decide_eq_true (fun c hc => ?_)]
  · rfl
  · obtain ⟨j, hj⟩ := List.getElem?_of_mem hc
    have h2 : z.cps[j]? = some c := by simpa using hj
    exact h j c (Array.getElem?_eq_some_iff.mp h2).1 h2
theorem ok_IsItem {P : Program} {w : World} {K : PySem.W.Frag} {mg : Str → Option Value} {base : Heap} (T : Tx w K mg) : FnOk P w K mg base CX0 1 (He.fAd K dIsItem.at_) (fdO K dIsItem.at_) P_IsItem (spIsItem K) := by
  refine T.f_IsItem.ok sc_IsItem (fun vs H Q E h => len_IsItem h) (fun cdv A outer s H vs Q E hr h => ⟨_, PSs.nox ((pss_cons (ps_for PassesOwn.never rfl (pi_str (pv 0)) (pg_name (i := 1) sc_IsItem.nd rfl (Or.inl rfl)) (pss_one (ps_if (pt_cmpR op_notIn_sign (pv 1) (pe_gc rfl T.c_LETTERS) (by rfl)) (pss_one (ps_ret pe_bl)) pss_nil)))
      (pss_one (ps_ret (pe_chain op_le op_le pe_int (pe_callB call_len_str (by rfl) T.b_len (by decide +kernel) (pa_cons (pv 0) pa_nil)) (pe_gc rfl T.c_MOST_LETTERS)))))), ?_⟩)
  obtain ⟨z, rfl, hz, q⟩ := h
  walk_at "rd"
  refine ⟨z, rfl, for_it walk_str (fun i σ H' => ∃ v, σ = [some (.str z), v] ∧ H' = H ∧ ∀ j c, j < i → z.cps[j]? = some c → c ∈ letters.cps.toList) ⟨none, rfl, rfl, fun j c hj => absurd hj (Nat.not_lt_zero _)⟩ (fun _ _ _ _ _ => trivial) ?_ ?_⟩
  · rintro i x σ H1 H2 hi ⟨v, rfl, rfl, hp⟩ ⟨rfl, c, hc, rfl⟩
    walk_at "rd"
    refine ⟨c, _, rfl, rfl, ?_⟩
    walk_at "rd"
    refine r_itn (fun hn => ?_) (fun hy => ?_)
    · walk_at "rd"
      rw [isItem_no hc hn] at q
      exact q
    · walk_at "rd"
      refine ⟨_, rfl, rfl, fun j c' hj e => ?_⟩
      by_cases h : j = i
      · subst h
        rw [hc] at e
        rw [← Option.some.inj e]
        exact hy
      · exact hp j c' (by omega) e
  · rintro σ H1 ⟨v, rfl, rfl, hp⟩
    walk_at "rd"
    refine ⟨z, rfl, sz5 hz, ?_⟩
    rw [isItem_yes hp] at q
    walk_at "rd"
    refine r_itd (fun h1 => ?_) (fun h1 => ?_)
    · walk_at "rd"
      have e : decide (1 ≤ z.length ∧ z.length ≤ 12) = decide ((z.length : Int) ≤ 12) := by
        by_cases h2 : z.length ≤ 12
        · rw [decide_eq_true (by omega), decide_eq_true (by omega)]
        · rw [decide_eq_false (by omega), decide_eq_false (by omega)]
      rw [e] at q
      exact q
    · rw [decide_eq_false (by omega)] at q
      exact q
/-- a line as it is handed in -/
structure Lt where
  item : Str
  pieces : Int
  cents : Int
  pack : Int
def LtAt (H : Hp) (v : V) (t : Lt) : Prop := ∃ a, v = .ref a ∧ H a = some (.tup [.str t.item, .int t.pieces, .int t.cents, .int t.pack])
inductive Er where
  | noDeed | noLines | noItem | noNumber | fullBook | noOrder | sameOrder | noLine | tooMuch | nothingDone
  deriving DecidableEq
def Er.name : Er → Str
  | .noDeed => "NoDeed" | .noLines => "NoLines" | .noItem => "NoItem" | .noNumber => "NoNumber" | .fullBook => "FullBook"
  | .noOrder => "NoOrder" | .sameOrder => "SameOrder" | .noLine => "NoLine" | .tooMuch => "TooMuch" | .nothingDone => "NothingDone"
def numOk (t : Lt) : Prop := (1 ≤ t.pieces ∧ t.pieces ≤ 1000000) ∧ (0 ≤ t.cents ∧ t.cents ≤ 1000000000) ∧ (1 ≤ t.pack ∧ t.pack ≤ 1000)
instance (t : Lt) : Decidable (numOk t) := by unfold numOk; infer_instance
def ltCheck (t : Lt) : Option Er := if isItem t.item then (if numOk t then none else some .noNumber) else some .noItem
/-- what leaves: by the verdict -/
def Out (K : PySem.W.Frag) (r : Option Er) (ok : Prop) (E : Value → Prop) : Prop := match r with
  | none => ok
  | some e => E (.ref (He.ga K e.name))
def spCheckLine (K : PySem.W.Frag) : Sp := fun vs H Q E => ∃ (v : V) (t : Lt), vs = [v] ∧ LtAt H v t ∧ t.item.length ≤ 100000 ∧ Out K (ltCheck t) (Q .non H) fun c => E c none H
theorem len_CheckLine {K : PySem.W.Frag} {vs : List V} {H : Hp} {Q : VK} {E : XK} (h : spCheckLine K vs H Q E) : vs.length = 1 := by
  obtain ⟨_, _, rfl, _⟩ := h; rfl
theorem ok_CheckLine {P : Program} {w : World} {K : PySem.W.Frag} {mg : Str → Option Value} {base : Heap} (T : Tx w K mg) : FnOk P w K mg base (L2.CX P w) 2 (He.fAd K dCheckLine.at_) (fdO K dCheckLine.at_) P_CheckLine (spCheckLine K) := by
  refine T.f_CheckLine.ok sc_CheckLine (fun vs H Q E h => len_CheckLine h) (fun cdv A outer s H vs Q E hr h => ⟨_, ((pss_cons (ps_if (pt_not (pt_val (pe_call (ok_IsItem T) (hr.mono (by decide)) rfl T.g_IsItem T.f_IsItem.kp T.b_IsItem .nil pass0 (pa_cons (pe_ix ix_tup (pv 0) pe_int (fun _ _ => rfl)) pa_nil)))) (pss_one (ps_raise rfl (takes_of rfl rfl rfl rfl) (pmk_own PySem.F.excBase_ValueError T.x_NoItem.1 T.g_NoItem T.x_NoItem.2.1 (raises_own T.x_NoItem.2.2.1 T.x_NoItem.2.2.2) rfl))) pss_nil)
      (pss_cons (ps_if (pt_not (pt_chain op_le op_le pe_int (pe_ix ix_tup (pv 0) pe_int (fun _ _ => rfl)) (pe_gc rfl T.c_MOST_PIECES))) (pss_one (ps_raise rfl (takes_of rfl rfl rfl rfl) (pmk_own PySem.F.excBase_ValueError T.x_NoNumber.1 T.g_NoNumber T.x_NoNumber.2.1 (raises_own T.x_NoNumber.2.2.1 T.x_NoNumber.2.2.2) rfl))) pss_nil)
      (pss_one (ps_if (PW.pt (pw_or (pt_not (pt_chain op_le op_le pe_int (pe_ix ix_tup (pv 0) pe_int (fun _ _ => rfl)) (pe_gc rfl T.c_MOST_CENTS))) (pw_or1 (pt_not (pt_chain op_le op_le pe_int (pe_ix ix_tup (pv 0) pe_int (fun _ _ => rfl)) (pe_gc rfl T.c_MOST_PACK)))))) (pss_one (ps_raise rfl (takes_of rfl rfl rfl rfl) (pmk_own PySem.F.excBase_ValueError T.x_NoNumber.1 T.g_NoNumber T.x_NoNumber.2.1 (raises_own T.x_NoNumber.2.2.1 T.x_NoNumber.2.2.2) rfl))) pss_nil))))), ?_⟩)
  obtain ⟨v, t, rfl, ⟨a, rfl, ha⟩, hz, o⟩ := h
  walk_at "rd"
  refine r_ixT (SqT.of ha) (atI_get (j := 0) rfl rfl) ?_
  walk_at "rd"
  refine ⟨t.item, rfl, hz, ?_⟩
  walk_at "rd"
  unfold ltCheck at o
  cases hi : isItem t.item with
  | false =>
    rw [hi] at o
    walk_at "rd"
    exact o
  | true =>
    rw [hi, if_pos rfl] at o
    walk_at "rd"
    refine r_ixT (SqT.of ha) (atI_get (j := 1) rfl rfl) ?_
    walk_at "rd"
    have bad : ¬ numOk t → E (.ref (He.ga K "NoNumber")) none H := fun n => by
      rw [if_neg n] at o
      exact o
    refine r_itd (fun h1 => ?_) (fun h1 => ?_)
    · walk_at "rd"
      refine r_itn (fun h2 => ?_) (fun h2 => ?_)
      · exact bad fun z => h2 z.1.2
      walk_at "rd"
      refine r_ixT (SqT.of ha) (atI_get (j := 2) rfl rfl) ?_
      walk_at "rd"
      refine r_itd (fun h3 => ?_) (fun h3 => ?_)
      · walk_at "rd"
        refine r_itn (fun h4 => ?_) (fun h4 => ?_)
        · exact bad fun z => h4 z.2.1.2
        walk_at "rd"
        refine r_ixT (SqT.of ha) (atI_get (j := 3) rfl rfl) ?_
        walk_at "rd"
        refine r_itd (fun h5 => ?_) (fun h5 => ?_)
        · walk_at "rd"
          refine r_itn (fun h6 => ?_) (fun h6 => ?_)
          · exact bad fun z => h6 z.2.2.2
          walk_at "rd"
          rw [if_pos (show numOk t from ⟨⟨h1, h2⟩, ⟨h3, h4⟩, h5, h6⟩)] at o
          exact o
        · walk_at "rd"
          exact bad fun z => h5 z.2.2.1
      · walk_at "rd"
        exact bad fun z => h3 z.2.1.1
    · walk_at "rd"
      exact bad fun z => h1 z.1.1
/-! ### a line's deeds -/
def Lt.ln (t : Lt) : Ln := ⟨t.item, t.pieces, t.cents, t.pack, 0, 0, 0, 0⟩
def spLineInit (K : PySem.W.Frag) : Sp := fun vs H Q _ => ∃ (a dx : Addr) (v : V) (t : Lt), vs = [.ref a, v] ∧ H a = some (.ins (He.ga K "Line") dx []) ∧ LtAt H v t ∧ ∀ H', LnAt K H' a t.ln → But (· = a) H H' → Q .non H'
theorem len_LineInit {K : PySem.W.Frag} {vs : List V} {H : Hp} {Q : VK} {E : XK} (h : spLineInit K vs H Q E) : vs.length = 2 := by
  obtain ⟨_, _, _, _, rfl, _⟩ := h; rfl
theorem ok_LineInit {P : Program} {w : World} {K : PySem.W.Frag} {mg : Str → Option Value} {base : Heap} (T : Tx w K mg) : FnOk P w K mg base CX0 1 (He.fAd K dLineInit.at_) (fdO K dLineInit.at_) P_LineInit (spLineInit K) := by
  refine T.f_LineInit.ok sc_LineInit (fun vs H Q E h => len_LineInit h) (fun cdv A outer s H vs Q E hr h => ⟨_, PSs.nox ((pss_cons (ps_fld (pv 0) (pe_ix ix_tup (pv 1) pe_int (fun _ _ => rfl)) rfl)
      (pss_cons (ps_fld (pv 0) (pe_ix ix_tup (pv 1) pe_int (fun _ _ => rfl)) rfl)
      (pss_cons (ps_fld (pv 0) (pe_ix ix_tup (pv 1) pe_int (fun _ _ => rfl)) rfl)
      (pss_cons (ps_fld (pv 0) (pe_ix ix_tup (pv 1) pe_int (fun _ _ => rfl)) rfl)
      (pss_cons (ps_fld (pv 0) pe_int rfl)
      (pss_cons (ps_fld (pv 0) pe_int rfl)
      (pss_cons (ps_fld (pv 0) pe_int rfl)
      (pss_one (ps_fld (pv 0) pe_int rfl)))))))))), ?_⟩)
  obtain ⟨a, dx, v, t, rfl, ha, ⟨b, rfl, hb⟩, k⟩ := h
  have ab : b ≠ a := ne_of hb ha (by intro q; cases q)
  walk_at "rd"
  refine r_ixT (SqT.of hb) (atI_get (j := 0) rfl rfl) ?_
  walk_at "rd"
  refine r_sf ha T.cl_Line T.n_Line_item (by walk_at "pf") (by simp) ?_
  walk_at "rd"
  refine r_ixT (SqT.of (by rw [upd_ne ab]; exact hb)) (atI_get (j := 1) rfl rfl) ?_
  walk_at "rd"
  refine r_sf upd_same T.cl_Line T.n_Line_ordered (by walk_at "pf") (by simp) ?_
  rw [upd_upd]
  walk_at "rd"
  refine r_ixT (SqT.of (by rw [upd_ne ab]; exact hb)) (atI_get (j := 2) rfl rfl) ?_
  walk_at "rd"
  refine r_sf upd_same T.cl_Line T.n_Line_cents (by walk_at "pf") (by simp) ?_
  rw [upd_upd]
  walk_at "rd"
  refine r_ixT (SqT.of (by rw [upd_ne ab]; exact hb)) (atI_get (j := 3) rfl rfl) ?_
  walk_at "rd"
  refine r_sf upd_same T.cl_Line T.n_Line_pack (by walk_at "pf") (by simp) ?_
  rw [upd_upd]
  walk_at "rd"
  refine r_sf upd_same T.cl_Line T.n_Line_sent (by walk_at "pf") (by simp) ?_
  rw [upd_upd]
  walk_at "rd"
  refine r_sf upd_same T.cl_Line T.n_Line_home (by walk_at "pf") (by simp) ?_
  rw [upd_upd]
  walk_at "rd"
  refine r_sf upd_same T.cl_Line T.n_Line_again (by walk_at "pf") (by simp) ?_
  rw [upd_upd]
  walk_at "rd"
  refine r_sf upd_same T.cl_Line T.n_Line_credited (by walk_at "pf") (by simp) ?_
  rw [upd_upd]
  walk_at "rd"
  exact k _ ⟨dx, upd_same⟩ (But.ins ha rfl)
/-- a line's deed: refused, or the line behind it -/
def spLd (K : PySem.W.Frag) (g : Ln → Int → Option Ln) : Sp := fun vs H Q E => ∃ (a : Addr) (l : Ln) (n : Int), vs = [.ref a, .int n] ∧ LnAt K H a l ∧ l.ok ∧
  (g l n = none → E (.ref (He.ga K "TooMuch")) none H) ∧ ∀ l', g l n = some l' → ∀ H', LnAt K H' a l' → But (· = a) H H' → Q .non H'
theorem len_ld {K : PySem.W.Frag} {g : Ln → Int → Option Ln} {vs : List V} {H : Hp} {Q : VK} {E : XK} (h : spLd K g vs H Q E) : vs.length = 2 := by
  obtain ⟨_, _, _, rfl, _⟩ := h; rfl
def Ln.deliver (l : Ln) (n : Int) : Option Ln := if n > l.toCome then none else some { l with sent := l.sent + n }
def Ln.reduce (l : Ln) (n : Int) : Option Ln := if n > l.charge then none else some { l with credited := l.credited + n }
def Ln.cut (l : Ln) : Ln := { l with credited := if l.worth < l.credited then l.worth else l.credited }
def Ln.bring (anew : Bool) (l : Ln) (n : Int) : Option Ln := if n > l.kept then none else some (Ln.cut (if anew then { l with home := l.home + n, again := l.again + n } else { l with home := l.home + n }))
abbrev spLineDeliver (K : PySem.W.Frag) := spLd K Ln.deliver
abbrev spLineReduce (K : PySem.W.Frag) := spLd K Ln.reduce
abbrev len_LineDeliver {K : PySem.W.Frag} {vs : List V} {H : Hp} {Q : VK} {E : XK} (h : spLineDeliver K vs H Q E) := len_ld h
abbrev len_LineReduce {K : PySem.W.Frag} {vs : List V} {H : Hp} {Q : VK} {E : XK} (h : spLineReduce K vs H Q E) := len_ld h
theorem ok_LineDeliver {P : Program} {w : World} {K : PySem.W.Frag} {mg : Str → Option Value} {base : Heap} (T : Tx w K mg) : FnOk P w K mg base (L2.CX P w) 2 (He.fAd K dLineDeliver.at_) (fdO K dLineDeliver.at_) P_LineDeliver (spLineDeliver K) := by
  refine T.f_LineDeliver.ok sc_LineDeliver (fun vs H Q E h => len_LineDeliver h) (fun cdv A outer s H vs Q E hr h => ⟨_, ((pss_cons (ps_if (pt_cmpR op_gt (pv 1) (pe_meth0 (pv 0) T.cl_Line T.m_Line_to_come (ok_LineToCome T) (hr.mono (by decide)) T.b_LineToCome .nil pass0) (nomark _)) (pss_one (ps_raise rfl (takes_of rfl rfl rfl rfl) (pmk_own PySem.F.excBase_ValueError T.x_TooMuch.1 T.g_TooMuch T.x_TooMuch.2.1 (raises_own T.x_TooMuch.2.2.1 T.x_TooMuch.2.2.2) rfl))) pss_nil)
      (pss_one (ps_fld (pv 0) (pe_op op_add (pe_fld (pv 0) rfl) (pv 1)) rfl)))), ?_⟩)
  obtain ⟨a, l, n, rfl, ⟨dx, ha⟩, ho, no, k⟩ := h
  walk_at "rd"
  refine r_m ha (no_Line_to_come l) ?_
  walk_at "rd"
  refine ⟨a, l, rfl, ⟨dx, ha⟩, ho, ?_⟩
  walk_at "rd"
  unfold Ln.deliver at no k
  refine r_itd (fun c => ?_) (fun c => ?_)
  · rw [if_pos c] at no
    exact no rfl
  · rw [if_neg c] at k
    walk_at "rd"
    refine r_f ha T.cl_Line T.n_Line_sent (lk_Line_sent l) ?_
    walk_at "rd"
    refine r_sf ha T.cl_Line T.n_Line_sent (pt_Line_sent l _) (by show 8 ≤ 20; decide) ?_
    exact k _ rfl _ ⟨dx, upd_same⟩ (But.ins ha rfl)
theorem ok_LineReduce {P : Program} {w : World} {K : PySem.W.Frag} {mg : Str → Option Value} {base : Heap} (T : Tx w K mg) : FnOk P w K mg base (L2.CX P w) 4 (He.fAd K dLineReduce.at_) (fdO K dLineReduce.at_) P_LineReduce (spLineReduce K) := by
  refine T.f_LineReduce.ok sc_LineReduce (fun vs H Q E h => len_LineReduce h) (fun cdv A outer s H vs Q E hr h => ⟨_, ((pss_cons (ps_if (pt_cmpR op_gt (pv 1) (pe_meth0 (pv 0) T.cl_Line T.m_Line_charge (ok_LineCharge T) (hr.mono (by decide)) T.b_LineCharge .nil pass0) (nomark _)) (pss_one (ps_raise rfl (takes_of rfl rfl rfl rfl) (pmk_own PySem.F.excBase_ValueError T.x_TooMuch.1 T.g_TooMuch T.x_TooMuch.2.1 (raises_own T.x_TooMuch.2.2.1 T.x_TooMuch.2.2.2) rfl))) pss_nil)
      (pss_one (ps_fld (pv 0) (pe_op op_add (pe_fld (pv 0) rfl) (pv 1)) rfl)))), ?_⟩)
  obtain ⟨a, l, n, rfl, ⟨dx, ha⟩, ho, no, k⟩ := h
  walk_at "rd"
  refine r_m ha (no_Line_charge l) ?_
  walk_at "rd"
  refine ⟨a, l, rfl, ⟨dx, ha⟩, ho, ?_⟩
  walk_at "rd"
  unfold Ln.reduce at no k
  refine r_itd (fun c => ?_) (fun c => ?_)
  · rw [if_pos c] at no
    exact no rfl
  · rw [if_neg c] at k
    walk_at "rd"
    refine r_f ha T.cl_Line T.n_Line_credited (lk_Line_credited l) ?_
    walk_at "rd"
    refine r_sf ha T.cl_Line T.n_Line_credited (pt_Line_credited l _) (by show 8 ≤ 20; decide) ?_
    exact k _ rfl _ ⟨dx, upd_same⟩ (But.ins ha rfl)
def spLineBring (K : PySem.W.Frag) : Sp := fun vs H Q E => ∃ (b : Bool) (v : V) (n : V), vs = [v, n, .bl b] ∧ spLd K (Ln.bring b) [v, n] H Q E
theorem len_LineBring {K : PySem.W.Frag} {vs : List V} {H : Hp} {Q : VK} {E : XK} (h : spLineBring K vs H Q E) : vs.length = 3 := by
  obtain ⟨_, _, _, rfl, _⟩ := h; rfl
theorem ok_LineBring {P : Program} {w : World} {K : PySem.W.Frag} {mg : Str → Option Value} {base : Heap} (T : Tx w K mg) : FnOk P w K mg base (L2.CX P w) 3 (He.fAd K dLineBring.at_) (fdO K dLineBring.at_) P_LineBring (spLineBring K) := by
  refine T.f_LineBring.ok sc_LineBring (fun vs H Q E h => len_LineBring h) (fun cdv A outer s H vs Q E hr h => ⟨_, ((pss_cons (ps_if (pt_cmpR op_gt (pv 1) (pe_meth0 (pv 0) T.cl_Line T.m_Line_kept (ok_LineKept T) (hr.mono (by decide)) T.b_LineKept .nil pass0) (nomark _)) (pss_one (ps_raise rfl (takes_of rfl rfl rfl rfl) (pmk_own PySem.F.excBase_ValueError T.x_TooMuch.1 T.g_TooMuch T.x_TooMuch.2.1 (raises_own T.x_TooMuch.2.2.1 T.x_TooMuch.2.2.2) rfl))) pss_nil)
      (pss_cons (ps_fld (pv 0) (pe_op op_add (pe_fld (pv 0) rfl) (pv 1)) rfl)
      (pss_cons (ps_if (pt_val (pv 2)) (pss_one (ps_fld (pv 0) (pe_op op_add (pe_fld (pv 0) rfl) (pv 1)) rfl)) pss_nil)
      (pss_one (ps_fld (pv 0) (pe_callB (call_min2 rfl) (by rfl) T.b_min (by decide +kernel) (pa_cons (pe_fld (pv 0) rfl) (pa_cons (pe_meth0 (pv 0) T.cl_Line T.m_Line_kept_worth (ok_LineKeptWorth T) (hr.mono (by decide)) T.b_LineKeptWorth .nil pass0) pa_nil))) rfl)))))), ?_⟩)
  obtain ⟨anew, v, n, rfl, a, l, m, e, ⟨dx, ha⟩, ho, no, k⟩ := h
  cases e
  walk_at "rd"
  refine r_m ha (no_Line_kept l) ?_
  walk_at "rd"
  refine ⟨a, l, rfl, ⟨dx, ha⟩, ho, ?_⟩
  walk_at "rd"
  unfold Ln.bring at no k
  refine r_itd (fun c => ?_) (fun c => ?_)
  · rw [if_pos c] at no
    exact no rfl
  · rw [if_neg c] at k
    walk_at "rd"
    refine r_f ha T.cl_Line T.n_Line_home (lk_Line_home l) ?_
    walk_at "rd"
    refine r_sf ha T.cl_Line T.n_Line_home (pt_Line_home l _) (by show 8 ≤ 20; decide) ?_
    walk_at "rd"
    have fin : ∀ (l2 : Ln) (H2 : Hp), l2.ok → H2 a = some (.ins (He.ga K "Line") dx (lnF l2)) → But (· = a) H H2 → (∀ H', LnAt K H' a l2.cut → But (· = a) H H' → Q .non H') → sFld K (tVar 0)
        (tCB (fun xs H Q => ∃ i j, xs = [V.int i, V.int j] ∧ Q (V.int (if j < i then j else i)) H) (tCons (tFld K (tVar 0) "credited") (tCons (tMeth (He.ga K "Line") "kept_worth" (spLineKeptWorth K) [] E0 (tVar 0) tNil) tNil)))
        "credited" { nx := fun _ H' => Q .non H', rt := Q } (start N_LineBring [V.ref a, V.int m, V.bl anew]) H2 := by
      intro l2 H2 ok2 h2 b2 k2
      walk_at "rd"
      refine r_f h2 T.cl_Line T.n_Line_credited (lk_Line_credited l2) ?_
      walk_at "rd"
      refine r_m h2 (no_Line_kept_worth l2) ?_
      walk_at "rd"
      refine ⟨a, l2, rfl, ⟨dx, h2⟩, ok2, ?_⟩
      walk_at "rd"
      refine ⟨_, _, rfl, ?_⟩
      walk_at "rd"
      refine r_sf h2 T.cl_Line T.n_Line_credited (pt_Line_credited l2 _) (by show 8 ≤ 20; decide) ?_
      exact k2 _ ⟨dx, upd_same⟩ (b2.trans (But.ins h2 rfl))
    cases anew with
    | true =>
      walk_at "rd"
      refine r_f upd_same T.cl_Line T.n_Line_again (lk_Line_again _) ?_
      walk_at "rd"
      refine r_sf upd_same T.cl_Line T.n_Line_again (pt_Line_again _ _) (by show 8 ≤ 20; decide) ?_
      rw [upd_upd]
      exact fin { l with home := l.home + m, again := l.again + m } _ ho upd_same (But.ins ha rfl) (fun H' h1 h2 => k _ rfl H' h1 h2)
    | false =>
      refine r_itF (r_next ?_)
      exact fin { l with home := l.home + m } _ ho upd_same (But.ins ha rfl) (fun H' h1 h2 => k _ rfl H' h1 h2)
def lnTold (l : Ln) : List V := [.str l.item, .int l.ordered, .int l.sent, .int l.home, .int l.again, .int l.credited]
def spLineNumbers (K : PySem.W.Frag) : Sp := fun vs H Q _ => ∃ (a : Addr) (l : Ln), vs = [.ref a] ∧ LnAt K H a l ∧ ∀ p, H p = none → Q (.ref p) (upd H p (.tup (lnTold l)))
theorem len_LineNumbers {K : PySem.W.Frag} {vs : List V} {H : Hp} {Q : VK} {E : XK} (h : spLineNumbers K vs H Q E) : vs.length = 1 := by
  obtain ⟨_, _, rfl, _⟩ := h; rfl
theorem ok_LineNumbers {P : Program} {w : World} {K : PySem.W.Frag} {mg : Str → Option Value} {base : Heap} (T : Tx w K mg) : FnOk P w K mg base CX0 1 (He.fAd K dLineNumbers.at_) (fdO K dLineNumbers.at_) P_LineNumbers (spLineNumbers K) := by
  refine T.f_LineNumbers.ok sc_LineNumbers (fun vs H Q E h => len_LineNumbers h) (fun cdv A outer s H vs Q E hr h => ⟨_, PSs.nox ((pss_one (ps_ret (pe_tup (pa_cons (pe_fld (pv 0) rfl) (pa_cons (pe_fld (pv 0) rfl) (pa_cons (pe_fld (pv 0) rfl) (pa_cons (pe_fld (pv 0) rfl) (pa_cons (pe_fld (pv 0) rfl) (pa_cons (pe_fld (pv 0) rfl) pa_nil)))))))))), ?_⟩)
  obtain ⟨a, l, rfl, ⟨dx, ha⟩, k⟩ := h
  walk_at "rd"
  refine r_f ha T.cl_Line T.n_Line_item (lk_Line_item l) ?_
  walk_at "rd"
  refine r_f ha T.cl_Line T.n_Line_ordered (lk_Line_ordered l) ?_
  walk_at "rd"
  refine r_f ha T.cl_Line T.n_Line_sent (lk_Line_sent l) ?_
  walk_at "rd"
  refine r_f ha T.cl_Line T.n_Line_home (lk_Line_home l) ?_
  walk_at "rd"
  refine r_f ha T.cl_Line T.n_Line_again (lk_Line_again l) ?_
  walk_at "rd"
  refine r_f ha T.cl_Line T.n_Line_credited (lk_Line_credited l) ?_
  walk_at "rd"
  exact r_mk (by simp) k

/-! ### an order -/
structure Od where
  lines : List Ln
  money : Int
  marks : List (Str × Int)
/-- where an order lies -/
structure OL where
  o : Addr
  ll : Addr
  lm : Addr
  las : List Addr
def OL.foot (p : OL) (a : Addr) : Prop := a = p.o ∨ a = p.ll ∨ a = p.lm ∨ a ∈ p.las
def MkAt (H : Hp) (v : V) (m : Str × Int) : Prop := ∃ b, v = .ref b ∧ H b = some (.tup [.str m.1, .int m.2])
structure OdAt (K : PySem.W.Frag) (H : Hp) (p : OL) (o : Od) : Prop where
  ob : ∃ dx, H p.o = some (.ins (He.ga K "Order") dx (odF p.ll o.money p.lm))
  ll : H p.ll = some (.lst (p.las.map V.ref))
  len : p.las.length = o.lines.length
  ln : ∀ (i : Nat) a l, p.las[i]? = some a → o.lines[i]? = some l → LnAt K H a l
  nd : p.las.Nodup
  dif : p.ll ≠ p.lm
  lm : ∃ ts, H p.lm = some (.lst ts) ∧ Paired (MkAt H) ts o.marks
structure Od.ok (o : Od) : Prop where
  ln : ∀ l, l ∈ o.lines → l.ok
  few : o.lines.length ≤ 20
def Od.owing (o : Od) : Int := (o.lines.map Ln.charge).sum - o.money
theorem But.lnAt {K : PySem.W.Frag} {S : Addr → Prop} {H H' : Hp} {a : Addr} {l : Ln} (b : But S H H') (h : LnAt K H a l) (n : ¬ S a) : LnAt K H' a l := by
  obtain ⟨dx, e⟩ := h
  exact ⟨dx, b.keep _ _ e n⟩
theorem But.mks {S : Addr → Prop} {H H' : Hp} (b : But S H H') {ts : List V} {ms : List (Str × Int)} (h : Paired (MkAt H) ts ms) : Paired (MkAt H') ts ms :=
  Paired.mapP h fun _ _ ⟨c, e, q⟩ => ⟨c, e, b.tup _ _ q⟩
/-- an order that is left alone -/
theorem OdAt.keep {K : PySem.W.Frag} {S : Addr → Prop} {H H' : Hp} {p : OL} {o : Od} (h : OdAt K H p o) (b : But S H H') (n : ∀ a, p.foot a → ¬ S a) : OdAt K H' p o where
  ob := by
    obtain ⟨dx, e⟩ := h.ob
    exact ⟨dx, b.keep _ _ e (n _ (.inl rfl))⟩
  ll := b.keep _ _ h.ll (n _ (.inr (.inl rfl)))
  len := h.len
  ln := fun i a l e1 e2 => b.lnAt (h.ln i a l e1 e2) (n _ (.inr (.inr (.inr (List.mem_of_getElem? e1)))))
  nd := h.nd
  dif := h.dif
  lm := by
    obtain ⟨ts, e, q⟩ := h.lm
    exact ⟨ts, b.keep _ _ e (n _ (.inr (.inr (.inl rfl)))), b.mks q⟩
theorem OdAt.same {K : PySem.W.Frag} {H H' : Hp} {p : OL} {o : Od} (h : OdAt K H p o) (s : Same H H') : OdAt K H' p o := h.keep (But.of (S := fun _ => False) s) fun _ _ => id
theorem ref_at {as : List Addr} {i : Nat} {x : V} (h : (as.map V.ref)[i]? = some x) : ∃ a, as[i]? = some a ∧ x = V.ref a := by
  rw [List.getElem?_map] at h
  cases e : as[i]? with
  | none => rw [e] at h; cases h
  | some a =>
    rw [e] at h
    exact ⟨a, rfl, (Option.some.inj h).symm⟩
def spOrderOwing (K : PySem.W.Frag) : Sp := fun vs H Q _ => ∃ (p : OL) (o : Od), vs = [.ref p.o] ∧ OdAt K H p o ∧ o.ok ∧ ∀ H', Same H H' → Q (.int o.owing) H'
theorem len_OrderOwing {K : PySem.W.Frag} {vs : List V} {H : Hp} {Q : VK} {E : XK} (h : spOrderOwing K vs H Q E) : vs.length = 1 := by
  obtain ⟨_, _, rfl, _⟩ := h; rfl
theorem ok_OrderOwing {P : Program} {w : World} {K : PySem.W.Frag} {mg : Str → Option Value} {base : Heap} (T : Tx w K mg) : FnOk P w K mg base CX0 4 (He.fAd K dOrderOwing.at_) (fdO K dOrderOwing.at_) P_OrderOwing (spOrderOwing K) := by
  refine T.f_OrderOwing.ok sc_OrderOwing (fun vs H Q E h => len_OrderOwing h) (fun cdv A outer s H vs Q E hr h => ⟨_, PSs.nox ((pss_one (ps_ret (pe_op op_sub (pe_callB (cr_sum rfl) (by rfl) T.b_sum (by decide +kernel) (pa_cons (pe_lc (own := [("line", 1)]) (g := gName 1) (tt := tYes) rfl sc_OrderOwing.nd (pi_list (pe_fld (pv 0) rfl)) (blkOk_by (N := N_OrderOwing) (sc := defScope sOrderOwing) (by decide +kernel)) (fun _ _ _ _ _ => pg_name (i := 1) sc_OrderOwing.nd rfl (Or.inl rfl)) (fun _ _ _ _ _ => pts_nil) (fun _ _ _ _ _ => (pe_meth0 (pv 1) T.cl_Line T.m_Line_charge (ok_LineCharge T) (hr.mono (by decide)) T.b_LineCharge .nil pass0))) pa_nil)) (pe_fld (pv 0) rfl))))), ?_⟩)
  obtain ⟨p, o, rfl, O, ok, k⟩ := h
  obtain ⟨dx, ho⟩ := O.ob
  walk_at "rd"
  refine r_f ho T.cl_Order T.n_Order_lines (lk_Order_lines _ _ _) ?_
  refine lcp_list (ys := o.lines.map fun l => V.int l.charge) (SqL.of O.ll) (by simp [O.len]) (by have := ok.few; simp [O.len]; omega) ?_ ?_
  · intro i x y H' R ex ey s q
    obtain ⟨a, ea, rfl⟩ := ref_at ex
    rw [List.getElem?_map] at ey
    cases el : o.lines[i]? with
    | none => rw [el] at ey; cases ey
    | some l =>
      rw [el] at ey
      have e2 : V.int l.charge = y := Option.some.inj ey
      subst e2
      obtain ⟨dl, hl⟩ := O.ln i a l ea el
      walk_at "rd"
      refine r_m (s _ _ hl) (no_Line_charge l) ?_
      walk_at "rd"
      exact ⟨a, l, rfl, ⟨dl, s _ _ hl⟩, ok.ln l (List.mem_of_getElem? el), q _ (Same.refl _)⟩
  · intro D H' hD s e
    walk_at "rd"
    refine ⟨D, o.lines.map Ln.charge, rfl, SqL.of (by rw [e, List.map_map]; rfl), ?_⟩
    walk_at "rd"
    refine r_f (s _ _ ho) T.cl_Order T.n_Order_money (lk_Order_money _ _ _) ?_
    walk_at "rd"
    exact k _ s
def spOrderNeedOver (K : PySem.W.Frag) : Sp := fun vs H Q E => ∃ (p : OL) (o : Od) (n : Int), vs = [.ref p.o, .int n] ∧ OdAt K H p o ∧ o.ok ∧
  (n > -o.owing → ∀ H', Same H H' → E (.ref (He.ga K "TooMuch")) none H') ∧ (¬ n > -o.owing → ∀ H', Same H H' → Q .non H')
theorem len_OrderNeedOver {K : PySem.W.Frag} {vs : List V} {H : Hp} {Q : VK} {E : XK} (h : spOrderNeedOver K vs H Q E) : vs.length = 2 := by
  obtain ⟨_, _, _, rfl, _⟩ := h; rfl
theorem ok_OrderNeedOver {P : Program} {w : World} {K : PySem.W.Frag} {mg : Str → Option Value} {base : Heap} (T : Tx w K mg) : FnOk P w K mg base (L2.CX P w) 5 (He.fAd K dOrderNeedOver.at_) (fdO K dOrderNeedOver.at_) P_OrderNeedOver (spOrderNeedOver K) := by
  refine T.f_OrderNeedOver.ok sc_OrderNeedOver (fun vs H Q E h => len_OrderNeedOver h) (fun cdv A outer s H vs Q E hr h => ⟨_, ((pss_one (ps_if (pt_cmpR op_gt (pv 1) (pe_un un_neg (pe_meth0 (pv 0) T.cl_Order T.m_Order_owing (ok_OrderOwing T) (hr.mono (by decide)) T.b_OrderOwing .nil pass0)) (nomark _)) (pss_one (ps_raise rfl (takes_of rfl rfl rfl rfl) (pmk_own PySem.F.excBase_ValueError T.x_TooMuch.1 T.g_TooMuch T.x_TooMuch.2.1 (raises_own T.x_TooMuch.2.2.1 T.x_TooMuch.2.2.2) rfl))) pss_nil))), ?_⟩)
  obtain ⟨p, o, n, rfl, O, ok, k1, k2⟩ := h
  obtain ⟨dx, ho⟩ := O.ob
  walk_at "rd"
  refine r_m ho (no_Order_owing _ _ _) ?_
  walk_at "rd"
  refine ⟨p, o, rfl, O, ok, fun H' s => ?_⟩
  walk_at "rd"
  refine r_itd (fun c => k1 c _ s) (fun c => ?_)
  walk_at "rd"
  exact k2 c _ s
def spOrderLineOf (K : PySem.W.Frag) : Sp := fun vs H Q E => ∃ (p : OL) (o : Od) (n : Int), vs = [.ref p.o, .int n] ∧ OdAt K H p o ∧
  (¬ (0 ≤ n ∧ n < o.lines.length) → E (.ref (He.ga K "NoLine")) none H) ∧ (∀ (i : Nat) a, n = (i : Int) → p.las[i]? = some a → Q (.ref a) H)
theorem len_OrderLineOf {K : PySem.W.Frag} {vs : List V} {H : Hp} {Q : VK} {E : XK} (h : spOrderLineOf K vs H Q E) : vs.length = 2 := by
  obtain ⟨_, _, _, rfl, _⟩ := h; rfl
theorem ok_OrderLineOf {P : Program} {w : World} {K : PySem.W.Frag} {mg : Str → Option Value} {base : Heap} (T : Tx w K mg) : FnOk P w K mg base (L2.CX P w) 1 (He.fAd K dOrderLineOf.at_) (fdO K dOrderLineOf.at_) P_OrderLineOf (spOrderLineOf K) := by
  refine T.f_OrderLineOf.ok sc_OrderLineOf (fun vs H Q E h => len_OrderLineOf h) (fun cdv A outer s H vs Q E hr h => ⟨_, ((pss_cons (ps_if (pt_not (pt_chain op_le op_lt pe_int (pv 1) (pe_callB call_len_seq (by rfl) T.b_len (by decide +kernel) (pa_cons (pe_fld (pv 0) rfl) pa_nil)))) (pss_one (ps_raise rfl (takes_of rfl rfl rfl rfl) (pmk_own PySem.F.excBase_ValueError T.x_NoLine.1 T.g_NoLine T.x_NoLine.2.1 (raises_own T.x_NoLine.2.2.1 T.x_NoLine.2.2.2) rfl))) pss_nil)
      (pss_one (ps_ret (pe_ix ix_list (pe_fld (pv 0) rfl) (pv 1) (fun _ _ => rfl)))))), ?_⟩)
  obtain ⟨p, o, n, rfl, O, k1, k2⟩ := h
  obtain ⟨dx, ho⟩ := O.ob
  walk_at "rd"
  refine r_itd (fun c => ?_) (fun c => ?_)
  · walk_at "rd"
    refine r_f ho T.cl_Order T.n_Order_lines (lk_Order_lines _ _ _) ?_
    walk_at "rd"
    refine ⟨_, _, rfl, .inl (SqL.of O.ll), ?_⟩
    walk_at "rd"
    rw [List.length_map, O.len]
    refine r_itn (fun c2 => k1 fun z => c2 z.2) (fun c2 => ?_)
    walk_at "rd"
    refine r_f ho T.cl_Order T.n_Order_lines (lk_Order_lines _ _ _) ?_
    walk_at "rd"
    obtain ⟨i, rfl⟩ : ∃ i : Nat, n = (i : Int) := ⟨n.toNat, by omega⟩
    have hi : i < p.las.length := by rw [O.len]; omega
    refine r_ixL (SqL.of O.ll) (atI_get (j := i) rfl (by rw [List.getElem?_map, List.getElem?_eq_getElem hi]; rfl)) ?_
    exact k2 i _ rfl (List.getElem?_eq_getElem hi)
  · walk_at "rd"
    exact k1 fun z => c z.1
def spOrderTake (K : PySem.W.Frag) : Sp := fun vs H Q _ => ∃ (p : OL) (o : Od) (n : Int), vs = [.ref p.o, .int n] ∧ OdAt K H p o ∧
  ∀ H', OdAt K H' p { o with money := o.money + n } → But (· = p.o) H H' → Q .non H'
theorem len_OrderTake {K : PySem.W.Frag} {vs : List V} {H : Hp} {Q : VK} {E : XK} (h : spOrderTake K vs H Q E) : vs.length = 2 := by
  obtain ⟨_, _, _, rfl, _⟩ := h; rfl
theorem ln_ne {K : PySem.W.Frag} {H : Hp} {a b C dx : Addr} {l : Ln} {x y : Addr} {m : Int} (h : LnAt K H a l) (q : H b = some (.ins C dx (odF x m y))) : a ≠ b := by
  obtain ⟨d, e⟩ := h
  refine ne_of e q fun z => ?_
  injection z with _ _ z
  have z2 := congrArg List.length z
  revert z2
  show 8 = 3 → False
  decide
theorem ok_OrderTake {P : Program} {w : World} {K : PySem.W.Frag} {mg : Str → Option Value} {base : Heap} (T : Tx w K mg) : FnOk P w K mg base CX0 1 (He.fAd K dOrderTake.at_) (fdO K dOrderTake.at_) P_OrderTake (spOrderTake K) := by
  refine T.f_OrderTake.ok sc_OrderTake (fun vs H Q E h => len_OrderTake h) (fun cdv A outer s H vs Q E hr h => ⟨_, PSs.nox ((pss_one (ps_fld (pv 0) (pe_op op_add (pe_fld (pv 0) rfl) (pv 1)) rfl))), ?_⟩)
  obtain ⟨p, o, n, rfl, O, k⟩ := h
  obtain ⟨dx, ho⟩ := O.ob
  walk_at "rd"
  refine r_f ho T.cl_Order T.n_Order_money (lk_Order_money _ _ _) ?_
  walk_at "rd"
  refine r_sf ho T.cl_Order T.n_Order_money (pt_Order_money _ _ _ _) (by show 3 ≤ 20; decide) ?_
  have b : But (· = p.o) H (upd H p.o (.ins (He.ga K "Order") dx (odF p.ll (o.money + n) p.lm))) := But.ins ho rfl
  obtain ⟨ts, et, pt⟩ := O.lm
  refine k _ ⟨⟨dx, upd_same⟩, ?_, O.len, fun i a l e1 e2 => ?_, O.nd, O.dif, ts, ?_, b.mks pt⟩ b
  · exact b.keep _ _ O.ll (ne_of O.ll ho (by intro q; cases q))
  · exact b.lnAt (O.ln i a l e1 e2) (ln_ne (O.ln i a l e1 e2) ho)
  · exact b.keep _ _ et (ne_of et ho (by intro q; cases q))
def spOrderMark (K : PySem.W.Frag) : Sp := fun vs H Q _ => ∃ (p : OL) (o : Od) (w : Str) (n : Int), vs = [.ref p.o, .str w, .int n] ∧ OdAt K H p o ∧ o.ok ∧ o.marks.length < 100000 ∧
  ∀ H', OdAt K H' p { o with marks := o.marks ++ [(w, o.owing - n)] } → But (· = p.lm) H H' → Q (.int (o.owing - n)) H'
theorem len_OrderMark {K : PySem.W.Frag} {vs : List V} {H : Hp} {Q : VK} {E : XK} (h : spOrderMark K vs H Q E) : vs.length = 3 := by
  obtain ⟨_, _, _, _, rfl, _⟩ := h; rfl
theorem ok_OrderMark {P : Program} {w : World} {K : PySem.W.Frag} {mg : Str → Option Value} {base : Heap} (T : Tx w K mg) : FnOk P w K mg base CX0 5 (He.fAd K dOrderMark.at_) (fdO K dOrderMark.at_) P_OrderMark (spOrderMark K) := by
  refine T.f_OrderMark.ok sc_OrderMark (fun vs H Q E h => len_OrderMark h) (fun cdv A outer s H vs Q E hr h => ⟨_, PSs.nox ((pss_cons (ps_set (i := 3) sc_OrderMark.nd rfl (Or.inl rfl) (pe_op op_sub (pe_meth0 (pv 0) T.cl_Order T.m_Order_owing (ok_OrderOwing T) (hr.mono (by decide)) T.b_OrderOwing .nil pass0) (pv 2)))
      (pss_cons (ps_expr (pe_bm PySem.F.plainAttrs_list PySem.F.slot_list_append PySem.F.type_list_append mt_append (pe_fld (pv 0) rfl) (pa_cons (pe_tup (pa_cons (pv 1) (pa_cons (pv 3) pa_nil))) pa_nil)))
      (pss_one (ps_ret (pv 3)))))), ?_⟩)
  obtain ⟨p, o, w', n, rfl, O, ok, hz, k⟩ := h
  obtain ⟨dx, ho⟩ := O.ob
  walk_at "rd"
  refine r_m ho (no_Order_owing _ _ _) ?_
  walk_at "rd"
  refine ⟨p, o, rfl, O, ok, fun H1 s => ?_⟩
  walk_at "rd"
  refine r_f (s _ _ ho) T.cl_Order T.n_Order_marks (lk_Order_marks _ _ _) ?_
  obtain ⟨ts, et, pt⟩ := O.lm
  refine r_tyL (SqL.of (s _ _ et)) ?_
  walk_at "rd"
  refine r_mk (by simp) fun b hb => ?_
  walk_at "rd"
  have ne1 : p.lm ≠ b := ne_of_none (s _ _ et) hb
  have e1 : upd H1 b (.tup [V.str w', V.int (o.owing - n)]) p.lm = some (.lst ts) := by
    rw [upd_ne ne1]; exact s _ _ et
  refine r_app e1 (by rw [pt.length]; exact sz5l hz) ?_
  walk_at "rd"
  have s2 : Same H (upd H1 b (.tup [V.str w', V.int (o.owing - n)])) := s.trans (same_upd hb)
  have bt : But (· = p.lm) H (upd (upd H1 b (.tup [V.str w', V.int (o.owing - n)])) p.lm (.lst (ts ++ [.ref b]))) := (But.of s2).trans (But.lst e1 rfl)
  refine k _ ⟨⟨dx, ?_⟩, ?_, O.len, fun i a l h1 h2 => ?_, O.nd, O.dif, _, upd_same, ?_⟩ bt
  · exact bt.keep _ _ ho (ne_of ho et (by intro q; cases q))
  · exact bt.keep _ _ O.ll O.dif
  · obtain ⟨dl, hl⟩ := O.ln i a l h1 h2
    exact bt.lnAt ⟨dl, hl⟩ (ne_of hl et (by intro q; cases q))
  · refine Paired.snoc (bt.mks pt) ⟨b, rfl, ?_⟩
    rw [upd_ne (Ne.symm ne1)]
    exact upd_same

/-! ### an order's line is turned -/
theorem OdAt.line {K : PySem.W.Frag} {H H' : Hp} {p : OL} {o : Od} {i : Nat} {a : Addr} {l l' : Ln} (O : OdAt K H p o) (ea : p.las[i]? = some a) (el : o.lines[i]? = some l) (h : LnAt K H' a l') (b : But (· = a) H H') :
    OdAt K H' p { o with lines := o.lines.set i l' } := by
  obtain ⟨dx, ho⟩ := O.ob
  obtain ⟨da, ha⟩ := O.ln i a l ea el
  obtain ⟨ts, et, pt⟩ := O.lm
  refine ⟨⟨dx, b.keep _ _ ho (Ne.symm (ln_ne ⟨da, ha⟩ ho))⟩, b.keep _ _ O.ll (ne_of O.ll ha (by intro q; cases q)), by simp [O.len], fun j c m e1 e2 => ?_, O.nd, O.dif, ts, b.keep _ _ et (ne_of et ha (by intro q; cases q)), b.mks pt⟩
  by_cases hj : i = j
  · subst hj
    have hl : i < o.lines.length := (List.getElem?_eq_some_iff.mp el).1
    rw [ea] at e1
    cases e1
    rw [List.getElem?_set_self hl] at e2
    cases e2
    exact h
  · rw [List.getElem?_set_ne hj] at e2
    refine b.lnAt (O.ln j c m e1 e2) fun z => hj ?_
    subst z
    exact nd_ix O.nd ea e1
def Ln.turn (w : Str) (l : Ln) (n : Int) : Option Ln := if w = "deliver" then l.deliver n else if w = "credit" then l.reduce n else l.bring (decide (w = "swap")) n
def spOrderTurnLine (K : PySem.W.Frag) : Sp := fun vs H Q E => ∃ (p : OL) (o : Od) (w : Str) (i : Nat) (l : Ln) (n : Int), vs = [.ref p.o, .str w, .int (i : Int), .int n] ∧ OdAt K H p o ∧ o.ok ∧ o.lines[i]? = some l ∧
  (l.turn w n = none → E (.ref (He.ga K "TooMuch")) none H) ∧ ∀ l', l.turn w n = some l' → ∀ H', OdAt K H' p { o with lines := o.lines.set i l' } → But (· ∈ p.las) H H' → Q .non H'
theorem len_OrderTurnLine {K : PySem.W.Frag} {vs : List V} {H : Hp} {Q : VK} {E : XK} (h : spOrderTurnLine K vs H Q E) : vs.length = 4 := by
  obtain ⟨_, _, _, _, _, _, rfl, _⟩ := h; rfl
theorem ok_OrderTurnLine {P : Program} {w : World} {K : PySem.W.Frag} {mg : Str → Option Value} {base : Heap} (T : Tx w K mg) : FnOk P w K mg base (L2.CX P w) 5 (He.fAd K dOrderTurnLine.at_) (fdO K dOrderTurnLine.at_) P_OrderTurnLine (spOrderTurnLine K) := by
  refine T.f_OrderTurnLine.ok sc_OrderTurnLine (fun vs H Q E h => len_OrderTurnLine h) (fun cdv A outer s H vs Q E hr h => ⟨_, ((pss_cons (ps_set (i := 4) sc_OrderTurnLine.nd rfl (Or.inl rfl) (pe_meth (pv 0) T.cl_Order T.m_Order_line_of (ok_OrderLineOf T) (hr.mono (by decide)) T.b_OrderLineOf .nil (passes_call (takes_of rfl rfl rfl rfl) (fun _ _ _ _ h => h)) (pa_cons (pv 2) pa_nil)))
      (pss_one (ps_if (pt_cmpR op_eq (pv 1) pe_str (nomark _)) (pss_one (ps_expr (pe_meth (pv 4) T.cl_Line T.m_Line_deliver (ok_LineDeliver T) (hr.mono (by decide)) T.b_LineDeliver .nil (passes_call (takes_of rfl rfl rfl rfl) (fun _ _ _ _ h => h)) (pa_cons (pv 3) pa_nil)))) (pss_one (ps_if (pt_cmpR op_eq (pv 1) pe_str (nomark _)) (pss_one (ps_expr (pe_meth (pv 4) T.cl_Line T.m_Line_reduce (ok_LineReduce T) (hr.mono (by decide)) T.b_LineReduce .nil (passes_call (takes_of rfl rfl rfl rfl) (fun _ _ _ _ h => h)) (pa_cons (pv 3) pa_nil)))) (pss_one (ps_expr (pe_meth (pv 4) T.cl_Line T.m_Line_bring (ok_LineBring T) (hr.mono (by decide)) T.b_LineBring .nil (passes_call (takes_of rfl rfl rfl rfl) (fun _ _ _ _ h => h)) (pa_cons (pv 3) (pa_cons (pe_cmpR op_eq (pv 1) pe_str (nomark _)) pa_nil))))))))))), ?_⟩)
  obtain ⟨p, o, w', i, l, n, rfl, O, ok, el, k1, k2⟩ := h
  obtain ⟨dx, ho⟩ := O.ob
  walk_at "rd"
  refine r_m ho (no_Order_line_of _ _ _) ?_
  walk_at "rd"
  have hi : i < o.lines.length := (List.getElem?_eq_some_iff.mp el).1
  refine ⟨p, o, _, rfl, O, fun c => absurd ⟨by omega, by omega⟩ c, fun j a ej ea => ?_⟩
  have ej2 : i = j := by omega
  subst ej2
  have okl := ok.ln l (List.mem_of_getElem? el)
  obtain ⟨da, ha⟩ := O.ln i a l ea el
  walk_at "rd"
  unfold Ln.turn at k1 k2
  have mem : a ∈ p.las := List.mem_of_getElem? ea
  refine r_itd (fun c => ?_) (fun c => ?_)
  · rw [if_pos c] at k1 k2
    walk_at "rd"
    refine r_m ha (no_Line_deliver l) ?_
    walk_at "rd"
    refine ⟨a, l, n, rfl, ⟨da, ha⟩, okl, k1, fun l' e' H' h' b => ?_⟩
    exact k2 l' e' H' (O.line ea el h' b) (b.mono fun x hx => by rw [hx]; exact mem)
  · rw [if_neg c] at k1 k2
    walk_at "rd"
    refine r_itd (fun c2 => ?_) (fun c2 => ?_)
    · rw [if_pos c2] at k1 k2
      walk_at "rd"
      refine r_m ha (no_Line_reduce l) ?_
      walk_at "rd"
      refine ⟨a, l, n, rfl, ⟨da, ha⟩, okl, k1, fun l' e' H' h' b => ?_⟩
      exact k2 l' e' H' (O.line ea el h' b) (b.mono fun x hx => by rw [hx]; exact mem)
    · rw [if_neg c2] at k1 k2
      walk_at "rd"
      refine r_m ha (no_Line_bring l) ?_
      walk_at "rd"
      refine ⟨_, _, _, rfl, a, l, n, rfl, ⟨da, ha⟩, okl, k1, fun l' e' H' h' b => ?_⟩
      exact k2 l' e' H' (O.line ea el h' b) (b.mono fun x hx => by rw [hx]; exact mem)
/-! ### a new order -/
abbrev LtsAt (H : Hp) : List V → List Lt → Prop := Paired (LtAt H)
theorem Paired.get {α β : Type} {F : α → β → Prop} : ∀ {l₁ : List α} {l₂ : List β} {i : Nat} {a : α} {b : β}, Paired F l₁ l₂ → l₁[i]? = some a → l₂[i]? = some b → F a b
  | _, _, _, _, _, .nil, h, _ => by simp at h
  | _, _, 0, _, _, .cons r _, h, q => by
    cases h
    cases q
    exact r
  | _, _, i + 1, _, _, .cons _ t, h, q => Paired.get (i := i) t h q
theorem But.lt {S : Addr → Prop} {H H' : Hp} (b : But S H H') {v : V} {t : Lt} (h : LtAt H v t) : LtAt H' v t := by
  obtain ⟨a, e, q⟩ := h
  exact ⟨a, e, b.tup _ _ q⟩
theorem But.lts {S : Addr → Prop} {H H' : Hp} (b : But S H H') {vs : List V} {ts : List Lt} (h : LtsAt H vs ts) : LtsAt H' vs ts := Paired.mapP h fun _ _ q => b.lt q
theorem nodup_snoc {as : List Addr} {a : Addr} (h : as.Nodup) (n : ¬ a ∈ as) : (as ++ [a]).Nodup := by
  rw [List.nodup_append]
  refine ⟨h, by simp, fun x hx y hy => ?_⟩
  have e : y = a := by simpa using hy
  subst e
  exact fun z => n (by rw [← z]; exact hx)
def spOrderInit (K : PySem.W.Frag) : Sp := fun vs H Q _ => ∃ (a dx l : Addr) (xs : List V) (ts : List Lt), vs = [.ref a, .ref l] ∧ H a = some (.ins (He.ga K "Order") dx []) ∧ SqL K H l xs ∧ LtsAt H xs ts ∧ xs.length ≤ 100000 ∧
  ∀ (p : OL) (H' : Hp), p.o = a → OdAt K H' p ⟨ts.map Lt.ln, 0, []⟩ → (∀ b, p.foot b → b = a ∨ H b = none) → But (· = a) H H' → Q .non H'
theorem len_OrderInit {K : PySem.W.Frag} {vs : List V} {H : Hp} {Q : VK} {E : XK} (h : spOrderInit K vs H Q E) : vs.length = 2 := by
  obtain ⟨_, _, _, _, _, rfl, _⟩ := h; rfl
theorem ok_OrderInit {P : Program} {w : World} {K : PySem.W.Frag} {mg : Str → Option Value} {base : Heap} (T : Tx w K mg) : FnOk P w K mg base CX0 3 (He.fAd K dOrderInit.at_) (fdO K dOrderInit.at_) P_OrderInit (spOrderInit K) := by
  refine T.f_OrderInit.ok sc_OrderInit (fun vs H Q E h => len_OrderInit h) (fun cdv A outer s H vs Q E hr h => ⟨_, PSs.nox ((pss_cons (ps_fld (pv 0) (pe_lc (own := [("told", 2)]) (g := gName 2) (tt := tYes) rfl sc_OrderInit.nd (pi_list (pv 1)) (blkOk_by (N := N_OrderInit) (sc := defScope sOrderInit) (by decide +kernel)) (fun _ _ _ _ _ => pg_name (i := 2) sc_OrderInit.nd rfl (Or.inl rfl)) (fun _ _ _ _ _ => pts_nil) (fun _ _ _ _ _ => (pe_make T.mk_Line (ok_LineInit T) (hr.mono (by decide)) rfl T.g_Line T.b_LineInit .nil pass0 (pa_cons (pv 2) pa_nil)))) rfl)
      (pss_cons (ps_fld (pv 0) pe_int rfl)
      (pss_one (ps_fld (pv 0) (pe_lst pa_nil) rfl))))), ?_⟩)
  obtain ⟨a, dx, l, xs, ts, rfl, ha, hl, pt, hz, k⟩ := h
  walk_at "rd"
  refine ⟨l, rfl, ⟨xs, hl⟩, fun D hD => ?_⟩
  refine lc_list (K := K) (a := l) (xs := xs) (fun i H' => ∃ as : List Addr, as.length = i ∧ H' D = some (.lst (as.map V.ref)) ∧ as.Nodup ∧ Same H H' ∧ (∀ b, b ∈ as → H b = none ∧ b ≠ D) ∧
    ∀ (j : Nat) b t, as[j]? = some b → ts[j]? = some t → LnAt K H' b t.ln) ⟨[], rfl, upd_same, List.nodup_nil, same_upd hD, fun b hb => (by cases hb), fun j b t h => by simp at h⟩ (fun i H' _ ⟨_, _, _, _, s, _⟩ => s.seq hl) ?_ ?_
  · rintro i x H' hi ⟨as, hlen, hd, nd, s, fr, hln⟩
    have hi2 : i < ts.length := by rw [← pt.length]; exact (List.getElem?_eq_some_iff.mp hi).1
    have ht : LtAt H' x ts[i] := (But.of (S := fun _ => False) s).lt (Paired.get pt hi (List.getElem?_eq_getElem hi2))
    refine ⟨wipe1, r_yes (r_itT ?_)⟩
    walk_at "rd"
    intro y dy ny ndy ne
    have s1 : Same H' (upd (upd H' dy (.own y)) y (.ins (He.ga K "Line") dy [])) := fun b o e => by
      rw [upd_ne (ne_of_none e ny), upd_ne (ne_of_none e ndy)]
      exact e
    refine ⟨y, dy, x, ts[i], rfl, upd_same, (But.of (S := fun _ => False) s1).lt ht, fun H2 h2 b2 => ⟨rfl, ?_⟩⟩
    have s2 : Same H' H2 := fun b o e => b2.keep _ _ (s1 _ _ e) (ne_of_none e ny)
    have nyD : y ≠ D := Ne.symm (ne_of_none hd ny)
    have nya : ¬ y ∈ as := fun hm => by
      obtain ⟨j, hj⟩ := List.getElem?_of_mem hm
      have hj2 : j < as.length := (List.getElem?_eq_some_iff.mp hj).1
      have hjt : j < ts.length := by omega
      obtain ⟨_, q⟩ := hln j y _ hj (List.getElem?_eq_getElem hjt)
      rw [q] at ny
      cases ny
    refine ⟨_, s2 _ _ hd, ?_, as ++ [y], by simp [hlen], ?_, nodup_snoc nd nya, ?_, ?_, ?_⟩
    · refine sz5l ?_
      rw [List.length_map, hlen]
      have := (List.getElem?_eq_some_iff.mp hi).1
      omega
    · rw [upd_same, List.map_append]; rfl
    · exact fun b o e => by
        rw [upd_ne (ne_of_none e hD)]
        exact s2 _ _ (s _ _ e)
    · intro b hb
      rcases List.mem_append.mp hb with h | h
      · exact fr b h
      · have e : b = y := by simpa using h
        subst e
        exact ⟨Same.free s ny, nyD⟩
    · intro j b t e1 e2
      by_cases hj : j < as.length
      · rw [List.getElem?_append_left hj] at e1
        obtain ⟨d, q⟩ := hln j b t e1 e2
        exact ⟨d, by rw [upd_ne (fr b (List.mem_of_getElem? e1)).2]; exact s2 _ _ q⟩
      · have hj2 : j = as.length := by
          have := (List.getElem?_eq_some_iff.mp e1).1
          simp at this
          omega
        subst hj2
        rw [List.getElem?_append_right (Nat.le_refl _), Nat.sub_self] at e1
        cases e1
        rw [hlen, List.getElem?_eq_getElem hi2] at e2
        cases e2
        obtain ⟨d, q⟩ := h2
        exact ⟨d, by rw [upd_ne nyD]; exact q⟩
  · rintro H2 ⟨as, hlen, hd, nd, s, fr, hln⟩
    have Da : a ≠ D := ne_of_none ha hD
    walk_at "rd"
    refine r_sf (s _ _ ha) T.cl_Order T.n_Order_lines (by walk_at "pf") (by simp) ?_
    walk_at "rd"
    refine r_sf upd_same T.cl_Order T.n_Order_money (by walk_at "pf") (by simp) ?_
    rw [upd_upd]
    walk_at "rd"
    refine r_mk (by simp) fun M hM => ?_
    have hM2 : H2 M = none := by
      by_cases z : M = a
      · subst z
        rw [upd_same] at hM
        cases hM
      · rw [upd_ne z] at hM
        exact hM
    have aM : a ≠ M := ne_of_none (s _ _ ha) hM2
    walk_at "rd"
    refine r_sf (by rw [upd_ne aM]; exact upd_same) T.cl_Order T.n_Order_marks (by walk_at "pf") (by simp) ?_
    have DM : D ≠ M := ne_of_none hd hM2
    have b1 : But (· = a) H (upd (upd (upd H2 a (.ins (He.ga K "Order") dx [("lines", .ref D), ("money", .int 0)])) M (.lst [])) a (.ins (He.ga K "Order") dx [("lines", .ref D), ("money", .int 0), ("marks", .ref M)])) := by
      have c1 : But (· = a) H (upd H2 a (.ins (He.ga K "Order") dx [("lines", .ref D), ("money", .int 0)])) := (But.of s).trans (But.ins (s _ _ ha) rfl)
      have c2 : But (· = a) H (upd (upd H2 a (.ins (He.ga K "Order") dx [("lines", .ref D), ("money", .int 0)])) M (.lst [])) := c1.trans (But.of (same_upd hM))
      exact c2.trans (But.ins (C := He.ga K "Order") (dx := dx) (fs := [("lines", .ref D), ("money", .int 0)]) (by rw [upd_ne aM]; exact upd_same) rfl)
    refine k ⟨a, D, M, as⟩ _ rfl ⟨⟨dx, upd_same⟩, ?_, by simp [hlen, pt.length], fun i c m e1 e2 => ?_, nd, DM, [], ?_, .nil⟩ ?_ b1
    · show upd _ _ _ D = _
      rw [upd_ne (Ne.symm Da), upd_ne DM, upd_ne (Ne.symm Da)]
      exact hd
    · have e2' : (ts.map Lt.ln)[i]? = some m := e2
      rw [List.getElem?_map] at e2'
      cases et : ts[i]? with
      | none => rw [et] at e2'; cases e2'
      | some t =>
        rw [et] at e2'
        cases e2'
        obtain ⟨d, q⟩ := hln i c t e1 et
        have ca : c ≠ a := Ne.symm (ne_of_none ha (fr c (List.mem_of_getElem? e1)).1)
        have cM : c ≠ M := ne_of_none q hM2
        exact ⟨d, by rw [upd_ne ca, upd_ne cM, upd_ne ca]; exact q⟩
    · show upd _ _ _ M = _
      rw [upd_ne (Ne.symm aM)]
      exact upd_same
    · intro b hb
      rcases hb with h | h | h | h
      · exact .inl h
      · rw [h]; exact .inr hD
      · rw [h]; exact .inr (Same.free s hM2)
      · exact .inr (fr b h).1

/-! ### a book -/
inductive Dd where
  | ord (ls : List Lt)
  | ln (w : Str) (o l n : Int)
  | mo (w : Str) (o n : Int)
  | mv (o p n : Int)
structure Bk where
  each : List Od
  trail : List Dd
inductive Role where
  | no | book | each | trail | deed | ord (j : Nat)
structure Lay where
  each : Addr
  trail : Addr
  ords : List OL
  own : Addr → Role
def Dd.good : Dd → Prop
  | .ord _ => True
  | .ln w _ _ _ => w = "deliver" ∨ w = "back" ∨ w = "swap" ∨ w = "credit"
  | .mo w _ _ => w = "pay" ∨ w = "refund"
  | .mv _ _ _ => True
/-- a deed as it lies: F holds of the list of an order's lines -/
def DdAt (F : Addr → Prop) (H : Hp) (v : V) : Dd → Prop
  | .ord ls => ∃ t l xs, v = .ref t ∧ H t = some (.tup [.str "order", .ref l]) ∧ H l = some (.lst xs) ∧ F l ∧ LtsAt H xs ls
  | .ln w o l n => ∃ t, v = .ref t ∧ H t = some (.tup [.str w, .int o, .int l, .int n])
  | .mo w o n => ∃ t, v = .ref t ∧ H t = some (.tup [.str w, .int o, .int n])
  | .mv o p n => ∃ t, v = .ref t ∧ H t = some (.tup [.str "move", .int o, .int p, .int n])
theorem DdAt.imp {F F' : Addr → Prop} {H : Hp} {v : V} {d : Dd} (h : DdAt F H v d) (m : ∀ a, F a → (∃ o, H a = some o) → F' a) : DdAt F' H v d := by
  cases d with
  | ord ls => obtain ⟨t, l, xs, e, h1, h2, f, q⟩ := h; exact ⟨t, l, xs, e, h1, h2, m _ f ⟨_, h2⟩, q⟩
  | _ => exact h
theorem DdAt.keep {F S : Addr → Prop} {H H' : Hp} {v : V} {d : Dd} (h : DdAt F H v d) (b : But S H H') (n : ∀ a, F a → ¬ S a) : DdAt F H' v d := by
  cases d with
  | ord ls => obtain ⟨t, l, xs, e, h1, h2, f, q⟩ := h; exact ⟨t, l, xs, e, b.tup _ _ h1, b.keep _ _ h2 (n _ f), f, b.lts q⟩
  | ln w o l n => obtain ⟨t, e, h1⟩ := h; exact ⟨t, e, b.tup _ _ h1⟩
  | mo w o n => obtain ⟨t, e, h1⟩ := h; exact ⟨t, e, b.tup _ _ h1⟩
  | mv o p n => obtain ⟨t, e, h1⟩ := h; exact ⟨t, e, b.tup _ _ h1⟩
structure BookAt (K : PySem.W.Frag) (H : Hp) (b : Addr) (B : Bk) (L : Lay) : Prop where
  ob : ∃ dx, H b = some (.ins (He.ga K "Book") dx (bkF L.each L.trail))
  rb : L.own b = .book
  ev : H L.each = some (.lst (L.ords.map fun p => V.ref p.o))
  re : L.own L.each = .each
  tr : ∃ ts, H L.trail = some (.lst ts) ∧ Paired (DdAt (fun a => L.own a = .deed) H) ts B.trail
  rt : L.own L.trail = .trail
  len : L.ords.length = B.each.length
  od : ∀ (j : Nat) p o, L.ords[j]? = some p → B.each[j]? = some o → OdAt K H p o
  ro : ∀ (j : Nat) p, L.ords[j]? = some p → ∀ a, p.foot a → L.own a = .ord j
  dom : ∀ a, L.own a ≠ .no → ∃ o, H a = some o
structure Bk.ok (B : Bk) : Prop where
  od : ∀ o, o ∈ B.each → o.ok
  few : B.each.length ≤ 40
  mks : ∀ o, o ∈ B.each → o.marks.length ≤ B.trail.length
  good : ∀ d, d ∈ B.trail → d.good
def Lay.foot (L : Lay) (a : Addr) : Prop := L.own a ≠ .no
theorem BookAt.fresh {K : PySem.W.Frag} {H : Hp} {b : Addr} {B : Bk} {L : Lay} (h : BookAt K H b B L) {a : Addr} (e : H a = none) : L.own a = .no := by
  by_cases z : L.own a = .no
  · exact z
  · obtain ⟨o, q⟩ := h.dom a z
    rw [e] at q
    cases q
theorem BookAt.keep {K : PySem.W.Frag} {S : Addr → Prop} {H H' : Hp} {b : Addr} {B : Bk} {L : Lay} (h : BookAt K H b B L) (bt : But S H H') (n : ∀ a, L.own a ≠ .no → ¬ S a) : BookAt K H' b B L where
  ob := by
    obtain ⟨dx, e⟩ := h.ob
    exact ⟨dx, bt.keep _ _ e (n _ (by rw [h.rb]; intro q; cases q))⟩
  rb := h.rb
  ev := bt.keep _ _ h.ev (n _ (by rw [h.re]; intro q; cases q))
  re := h.re
  tr := by
    obtain ⟨ts, e, q⟩ := h.tr
    exact ⟨ts, bt.keep _ _ e (n _ (by rw [h.rt]; intro q; cases q)), Paired.mapP q fun _ _ z => z.keep bt fun a f => n a (by rw [f]; intro q; cases q)⟩
  rt := h.rt
  len := h.len
  od := fun j p o e1 e2 => (h.od j p o e1 e2).keep bt fun a f => n a (by rw [h.ro j p e1 a f]; intro q; cases q)
  ro := h.ro
  dom := fun a z => by
    obtain ⟨o, e⟩ := h.dom a z
    exact ⟨o, bt.keep _ _ e (n a z)⟩
theorem BookAt.same {K : PySem.W.Frag} {H H' : Hp} {b : Addr} {B : Bk} {L : Lay} (h : BookAt K H b B L) (s : Same H H') : BookAt K H' b B L := h.keep (But.of (S := fun _ => False) s) fun _ _ => id
/-- one order is changed -/
theorem BookAt.one {K : PySem.W.Frag} {H H' : Hp} {b : Addr} {B : Bk} {L : Lay} {j : Nat} {p : OL} {o' : Od} (h : BookAt K H b B L) (hp : L.ords[j]? = some p) (O : OdAt K H' p o') (bt : But p.foot H H')
    (dm : ∀ a, p.foot a → ∃ o, H' a = some o) : BookAt K H' b { B with each := B.each.set j o' } L := by
  have n : ∀ a, L.own a ≠ .ord j → ¬ p.foot a := fun a z f => z (h.ro j p hp a f)
  refine ⟨?_, h.rb, bt.keep _ _ h.ev (n _ (by rw [h.re]; intro q; cases q)), h.re, ?_, h.rt, by simp [h.len], fun i q o e1 e2 => ?_, h.ro, fun a z => ?_⟩
  · obtain ⟨dx, e⟩ := h.ob
    exact ⟨dx, bt.keep _ _ e (n _ (by rw [h.rb]; intro q; cases q))⟩
  · obtain ⟨ts, e, q⟩ := h.tr
    exact ⟨ts, bt.keep _ _ e (n _ (by rw [h.rt]; intro q; cases q)), Paired.mapP q fun _ _ z => z.keep bt fun a f => n a (by rw [f]; intro q; cases q)⟩
  · by_cases hj : j = i
    · subst hj
      rw [hp] at e1
      cases e1
      have hl : j < B.each.length := by rw [← h.len]; exact (List.getElem?_eq_some_iff.mp hp).1
      have e2' : (B.each.set j o')[j]? = some o := e2
      rw [List.getElem?_set_self hl] at e2'
      cases e2'
      exact O
    · have e2' : (B.each.set j o')[i]? = some o := e2
      rw [List.getElem?_set_ne hj] at e2'
      refine (h.od i q o e1 e2').keep bt fun a f => n a ?_
      rw [h.ro i q e1 a f]
      intro z
      cases z
      exact hj rfl
  · by_cases f : p.foot a
    · exact dm a f
    · obtain ⟨o, e⟩ := h.dom a z
      exact ⟨o, bt.keep _ _ e f⟩
theorem OdAt.dom {K : PySem.W.Frag} {H : Hp} {p : OL} {o : Od} (O : OdAt K H p o) : ∀ a, p.foot a → ∃ u, H a = some u := by
  intro a f
  rcases f with f | f | f | f
  · obtain ⟨dx, e⟩ := O.ob
    exact ⟨_, by rw [f]; exact e⟩
  · exact ⟨_, by rw [f]; exact O.ll⟩
  · obtain ⟨ts, e, _⟩ := O.lm
    exact ⟨_, by rw [f]; exact e⟩
  · obtain ⟨i, hi⟩ := List.getElem?_of_mem f
    have hl : i < o.lines.length := by rw [← O.len]; exact (List.getElem?_eq_some_iff.mp hi).1
    obtain ⟨dx, e⟩ := O.ln i a _ hi (List.getElem?_eq_getElem hl)
    exact ⟨_, e⟩
/-- how the heap may be behind a book's method -/
structure Mod (L L' : Lay) (H H' : Hp) : Prop where
  but : But L.foot H H'
  grow : ∀ a, L'.own a ≠ .no → L.own a ≠ .no ∨ H a = none
theorem Mod.same {L : Lay} {H H' : Hp} (s : Same H H') : Mod L L H H' := ⟨But.of s, fun _ z => .inl z⟩
theorem Mod.trans {L L1 L2 : Lay} {H H1 H2 : Hp} (a : Mod L L1 H H1) (b : Mod L1 L2 H1 H2) (back : ∀ x, H1 x = none → H x = none) : Mod L L2 H H2 where
  but := a.but.mut b.but fun x z => (a.grow x z).elim .inl .inr
  grow := fun x z => (b.grow x z).elim (fun q => a.grow x q) fun q => .inr (back x q)
/-! ### the small methods -/
def spBookOrderOf (K : PySem.W.Frag) : Sp := fun vs H Q E => ∃ (b : Addr) (B : Bk) (L : Lay) (n : Int), vs = [.ref b, .int n] ∧ BookAt K H b B L ∧
  (¬ (0 ≤ n ∧ n < B.each.length) → E (.ref (He.ga K "NoOrder")) none H) ∧ ∀ (j : Nat) p o, n = (j : Int) → L.ords[j]? = some p → B.each[j]? = some o → Q (.ref p.o) H
theorem len_BookOrderOf {K : PySem.W.Frag} {vs : List V} {H : Hp} {Q : VK} {E : XK} (h : spBookOrderOf K vs H Q E) : vs.length = 2 := by
  obtain ⟨_, _, _, _, rfl, _⟩ := h; rfl
theorem ok_BookOrderOf {P : Program} {w : World} {K : PySem.W.Frag} {mg : Str → Option Value} {base : Heap} (T : Tx w K mg) : FnOk P w K mg base (L2.CX P w) 1 (He.fAd K dBookOrderOf.at_) (fdO K dBookOrderOf.at_) P_BookOrderOf (spBookOrderOf K) := by
  refine T.f_BookOrderOf.ok sc_BookOrderOf (fun vs H Q E h => len_BookOrderOf h) (fun cdv A outer s H vs Q E hr h => ⟨_, ((pss_cons (ps_if (pt_not (pt_chain op_le op_lt pe_int (pv 1) (pe_callB call_len_seq (by rfl) T.b_len (by decide +kernel) (pa_cons (pe_fld (pv 0) rfl) pa_nil)))) (pss_one (ps_raise rfl (takes_of rfl rfl rfl rfl) (pmk_own PySem.F.excBase_ValueError T.x_NoOrder.1 T.g_NoOrder T.x_NoOrder.2.1 (raises_own T.x_NoOrder.2.2.1 T.x_NoOrder.2.2.2) rfl))) pss_nil)
      (pss_one (ps_ret (pe_ix ix_list (pe_fld (pv 0) rfl) (pv 1) (fun _ _ => rfl)))))), ?_⟩)
  obtain ⟨b, B, L, n, rfl, h, k1, k2⟩ := h
  obtain ⟨dx, hb⟩ := h.ob
  walk_at "rd"
  refine r_itd (fun c => ?_) (fun c => ?_)
  · walk_at "rd"
    refine r_f hb T.cl_Book T.n_Book_each (lk_Book_each _ _) ?_
    walk_at "rd"
    refine ⟨_, _, rfl, .inl (SqL.of h.ev), ?_⟩
    walk_at "rd"
    rw [List.length_map, h.len]
    refine r_itn (fun c2 => k1 fun z => c2 z.2) (fun c2 => ?_)
    walk_at "rd"
    refine r_f hb T.cl_Book T.n_Book_each (lk_Book_each _ _) ?_
    walk_at "rd"
    obtain ⟨j, rfl⟩ : ∃ i : Nat, n = (i : Int) := ⟨n.toNat, by omega⟩
    have hj2 : j < B.each.length := by omega
    have hj : j < L.ords.length := by rw [h.len]; exact hj2
    refine r_ixL (SqL.of h.ev) (atI_get (j := j) rfl (by rw [List.getElem?_map, List.getElem?_eq_getElem hj]; rfl)) ?_
    exact k2 j _ _ rfl (List.getElem?_eq_getElem hj) (List.getElem?_eq_getElem hj2)
  · walk_at "rd"
    exact k1 fun z => c z.1
def spBookNeedNumber (K : PySem.W.Frag) : Sp := fun vs H Q E => ∃ (v : V) (n : Int), vs = [v, .int n] ∧ (n < 1 → E (.ref (He.ga K "NoNumber")) none H) ∧ (¬ n < 1 → Q .non H)
theorem len_BookNeedNumber {K : PySem.W.Frag} {vs : List V} {H : Hp} {Q : VK} {E : XK} (h : spBookNeedNumber K vs H Q E) : vs.length = 2 := by
  obtain ⟨_, _, rfl, _⟩ := h; rfl
theorem ok_BookNeedNumber {P : Program} {w : World} {K : PySem.W.Frag} {mg : Str → Option Value} {base : Heap} (T : Tx w K mg) : FnOk P w K mg base (L2.CX P w) 1 (He.fAd K dBookNeedNumber.at_) (fdO K dBookNeedNumber.at_) P_BookNeedNumber (spBookNeedNumber K) := by
  refine T.f_BookNeedNumber.ok sc_BookNeedNumber (fun vs H Q E h => len_BookNeedNumber h) (fun cdv A outer s H vs Q E hr h => ⟨_, ((pss_one (ps_if (pt_cmpR op_lt (pv 1) pe_int (nomark _)) (pss_one (ps_raise rfl (takes_of rfl rfl rfl rfl) (pmk_own PySem.F.excBase_ValueError T.x_NoNumber.1 T.g_NoNumber T.x_NoNumber.2.1 (raises_own T.x_NoNumber.2.2.1 T.x_NoNumber.2.2.2) rfl))) pss_nil))), ?_⟩)
  obtain ⟨v, n, rfl, k1, k2⟩ := h
  walk_at "rd"
  refine r_itd (fun c => k1 c) (fun c => ?_)
  walk_at "rd"
  exact k2 c
def spOwn (_ : PySem.W.Frag) : Sp := fun vs H Q _ => ∃ (v : V) (d : Dd), vs = [v] ∧ DdAt (fun _ => True) H v d ∧ d.good ∧ (∀ ls, d = .ord ls → ls.length ≤ 100000) ∧ ∀ v' H', Same H H' → DdAt (fun a => H a = none) H' v' d → Q v' H'
theorem len_Own {K : PySem.W.Frag} {vs : List V} {H : Hp} {Q : VK} {E : XK} (h : spOwn K vs H Q E) : vs.length = 1 := by
  obtain ⟨_, _, rfl, _⟩ := h; rfl
theorem good_ord {d : Dd} (g : d.good) : (∀ w o l n, d = .ln w o l n → ¬ w = "order") ∧ ∀ w o n, d = .mo w o n → ¬ w = "order" := by
  refine ⟨fun w o l n e => ?_, fun w o n e => ?_⟩
  · subst e
    rcases g with rfl | rfl | rfl | rfl <;> decide +kernel
  · subst e
    rcases g with rfl | rfl <;> decide +kernel
theorem ok_Own {P : Program} {w : World} {K : PySem.W.Frag} {mg : Str → Option Value} {base : Heap} (T : Tx w K mg) : FnOk P w K mg base CX0 1 (He.fAd K dOwn.at_) (fdO K dOwn.at_) P_Own (spOwn K) := by
  refine T.f_Own.ok sc_Own (fun vs H Q E h => len_Own h) (fun cdv A outer s H vs Q E hr h => ⟨_, PSs.nox ((pss_cons (ps_if (pt_cmpR op_eq (pe_ix ix_tup (pv 0) pe_int (fun _ _ => rfl)) pe_str (nomark _)) (pss_one (ps_ret (pe_tup (pa_cons pe_str (pa_cons (pe_lc (own := [("line", 1)]) (g := gName 1) (tt := tYes) rfl sc_Own.nd (pi_list (pe_ix ix_tup (pv 0) pe_int (fun _ _ => rfl))) (blkOk_by (N := N_Own) (sc := defScope sOwn) (by decide +kernel)) (fun _ _ _ _ _ => pg_name (i := 1) sc_Own.nd rfl (Or.inl rfl)) (fun _ _ _ _ _ => pts_nil) (fun _ _ _ _ _ => (pv 1))) pa_nil))))) pss_nil)
      (pss_one (ps_ret (pv 0))))), ?_⟩)
  obtain ⟨v, d, rfl, hd, g, few, k⟩ := h
  cases d with
  | ord ls =>
    obtain ⟨t, l, xs, rfl, ht, hl, _, pt⟩ := hd
    walk_at "rd"
    refine r_ixT (SqT.of ht) (atI_get (j := 0) rfl rfl) ?_
    walk_at "rd"
    refine r_ity rfl ?_
    walk_at "rd"
    refine r_ixT (SqT.of ht) (atI_get (j := 1) rfl rfl) ?_
    refine lcp_list (ys := xs) (SqL.of hl) rfl (by rw [pt.length]; exact few _ rfl) (fun i x y H' R ex ey s q => ?_) (fun D H' hD s e => ?_)
    · rw [ex] at ey
      cases ey
      walk_at "rd"
      exact q _ (Same.refl _)
    · walk_at "rd"
      refine r_mk (by simp) fun t2 ht2 => ?_
      refine k _ _ (s.trans (same_upd ht2)) ⟨t2, D, xs, rfl, upd_same, by rw [upd_ne (ne_of_none e ht2)]; exact e, hD, ?_⟩
      exact (But.of (S := fun _ => False) (s.trans (same_upd ht2))).lts pt
  | ln w o l n =>
    obtain ⟨t, rfl, ht⟩ := hd
    walk_at "rd"
    refine r_ixT (SqT.of ht) (atI_get (j := 0) rfl rfl) ?_
    walk_at "rd"
    refine r_itz ((good_ord g).1 _ _ _ _ rfl) ?_
    walk_at "rd"
    exact k _ _ (Same.refl _) ⟨t, rfl, ht⟩
  | mo w o n =>
    obtain ⟨t, rfl, ht⟩ := hd
    walk_at "rd"
    refine r_ixT (SqT.of ht) (atI_get (j := 0) rfl rfl) ?_
    walk_at "rd"
    refine r_itz ((good_ord g).2 _ _ _ rfl) ?_
    walk_at "rd"
    exact k _ _ (Same.refl _) ⟨t, rfl, ht⟩
  | mv o p n =>
    obtain ⟨t, rfl, ht⟩ := hd
    walk_at "rd"
    refine r_ixT (SqT.of ht) (atI_get (j := 0) rfl rfl) ?_
    walk_at "rd"
    refine r_itz (by decide +kernel) ?_
    walk_at "rd"
    exact k _ _ (Same.refl _) ⟨t, rfl, ht⟩

/-! ### what a deed does -/
def errV (K : PySem.W.Frag) (e : Er) : Value := .ref (He.ga K e.name)
def firstErr (ls : List Lt) : Option Er := ls.findSome? ltCheck
def ordErr (n : Nat) (ls : List Lt) : Option Er := if ¬ (1 ≤ ls.length ∧ ls.length ≤ 20) then some .noLines else match firstErr ls with
  | some e => some e
  | none => if n = 40 then some .fullBook else none
def at_ {α : Type} (xs : List α) (n : Int) : Option (Nat × α) := if 0 ≤ n then (xs[n.toNat]?).map fun x => (n.toNat, x) else none
theorem at_some {α : Type} {xs : List α} {j : Nat} {x : α} (h : xs[j]? = some x) : at_ xs (j : Int) = some (j, x) := by
  unfold at_
  rw [if_pos (by omega)]
  simp [h]
theorem at_0 {α : Type} {x : α} {xs : List α} : at_ (x :: xs) 0 = some (0, x) := by
  simp [at_]
theorem at_none {α : Type} {xs : List α} {n : Int} (h : ¬ (0 ≤ n ∧ n < xs.length)) : at_ xs n = none := by
  unfold at_
  by_cases c : 0 ≤ n
  · rw [if_pos c, List.getElem?_eq_none (by omega)]; rfl
  · rw [if_neg c]
theorem at_of {α : Type} {xs : List α} {n : Int} {j : Nat} {x : α} (h : at_ xs n = some (j, x)) : n = (j : Int) ∧ xs[j]? = some x := by
  unfold at_ at h
  by_cases c : 0 ≤ n
  · rw [if_pos c] at h
    cases e : xs[n.toNat]? with
    | none => rw [e] at h; cases h
    | some y =>
      rw [e] at h
      cases h
      exact ⟨by omega, e⟩
  · rw [if_neg c] at h
    cases h
theorem at_or {α : Type} (xs : List α) (n : Int) : (at_ xs n = none ∧ ¬ (0 ≤ n ∧ n < xs.length)) ∨ ∃ (j : Nat) (x : α), n = (j : Int) ∧ xs[j]? = some x ∧ at_ xs n = some (j, x) := by
  by_cases c : 0 ≤ n ∧ n < xs.length
  · obtain ⟨j, rfl⟩ : ∃ i : Nat, n = (i : Int) := ⟨n.toNat, by omega⟩
    have hj : j < xs.length := by omega
    exact .inr ⟨j, xs[j], rfl, List.getElem?_eq_getElem hj, at_some (List.getElem?_eq_getElem hj)⟩
  · exact .inl ⟨at_none c, c⟩
def Od.pay (o : Od) (n : Int) : Od := { o with money := o.money + n }
def Od.mark (o : Od) (w : Str) (c : Int) : Od := { o with marks := o.marks ++ [(w, c)] }
abbrev Res := Except Er (List Od × List (Int × Int))
def stepLn (es : List Od) (w : Str) (o l n : Int) : Res := match at_ es o with
  | none => .error .noOrder
  | some (j, od) => match at_ od.lines l with
    | none => .error .noLine
    | some (i, x) => if n < 1 then .error .noNumber else match x.turn w n with
      | none => .error .tooMuch
      | some x' => .ok (es.set j (Od.mark { od with lines := od.lines.set i x' } w (Od.owing { od with lines := od.lines.set i x' } - od.owing)), [(o, Od.owing { od with lines := od.lines.set i x' } - od.owing)])
def stepMo (es : List Od) (w : Str) (o n : Int) : Res := match at_ es o with
  | none => .error .noOrder
  | some (j, od) => if n < 1 then .error .noNumber else if w = "pay" then .ok (es.set j (Od.mark (od.pay n) w ((od.pay n).owing - od.owing)), [(o, (od.pay n).owing - od.owing)])
    else if n > -od.owing then .error .tooMuch else .ok (es.set j (Od.mark (od.pay (-n)) w ((od.pay (-n)).owing - od.owing)), [(o, (od.pay (-n)).owing - od.owing)])
def stepMv (es : List Od) (o p n : Int) : Res := match at_ es o with
  | none => .error .noOrder
  | some (i, a) => match at_ es p with
    | none => .error .noOrder
    | some (j, b) => if o = p then .error .sameOrder else if n < 1 then .error .noNumber else if n > -a.owing then .error .tooMuch
      else .ok ((es.set i (Od.mark (a.pay (-n)) "move" ((a.pay (-n)).owing - a.owing))).set j (Od.mark (b.pay n) "move" ((b.pay n).owing - b.owing)), [(o, (a.pay (-n)).owing - a.owing), (p, (b.pay n).owing - b.owing)])
def stepOrd (es : List Od) (ls : List Lt) : Res := match ordErr es.length ls with
  | some e => .error e
  | none => .ok (es ++ [⟨ls.map Lt.ln, 0, []⟩], [])
def step (es : List Od) : Dd → Res
  | .ord ls => stepOrd es ls
  | .ln w o l n => stepLn es w o l n
  | .mo w o n => stepMo es w o n
  | .mv o p n => stepMv es o p n
/-- what a deed changed, as it is told -/
def PrAt (H : Hp) (v : V) (c : Int × Int) : Prop := ∃ t, v = .ref t ∧ H t = some (.tup [.int c.1, .int c.2])
def ChAt (H : Hp) (r : Addr) (cs : List (Int × Int)) : Prop := ∃ xs, H r = some (.lst xs) ∧ Paired (PrAt H) xs cs
theorem But.prs {S : Addr → Prop} {H H' : Hp} (b : But S H H') {xs : List V} {cs : List (Int × Int)} (h : Paired (PrAt H) xs cs) : Paired (PrAt H') xs cs := Paired.mapP h fun _ _ ⟨t, e, q⟩ => ⟨t, e, b.tup _ _ q⟩
/-! ### a new order -/
noncomputable def Lay.add (L : Lay) (p : OL) : Lay := ⟨L.each, L.trail, L.ords ++ [p], fun a => @ite _ (p.foot a) (Classical.propDecidable _) (.ord L.ords.length) (L.own a)⟩
theorem Lay.add_in {L : Lay} {p : OL} {a : Addr} (h : p.foot a) : (L.add p).own a = .ord L.ords.length := by
  exact @if_pos _ (Classical.propDecidable _) h _ _ _
theorem Lay.add_out {L : Lay} {p : OL} {a : Addr} (h : ¬ p.foot a) : (L.add p).own a = L.own a := by
  exact @if_neg _ (Classical.propDecidable _) h _ _ _
theorem BookAt.add {K : PySem.W.Frag} {H H2 : Hp} {b : Addr} {B : Bk} {L : Lay} {p : OL} {o : Od} (h : BookAt K H b B L) (hx : ∀ a, p.foot a → H a = none) (O : OdAt K H2 p o) (s : Same H H2) :
    BookAt K (upd H2 L.each (.lst ((L.ords ++ [p]).map fun p => V.ref p.o))) b { B with each := B.each ++ [o] } (L.add p) ∧ Mod L (L.add p) H (upd H2 L.each (.lst ((L.ords ++ [p]).map fun p => V.ref p.o))) := by
  have ev2 := s _ _ h.ev
  have bt : But (· = L.each) H (upd H2 L.each (.lst ((L.ords ++ [p]).map fun p => V.ref p.o))) := (But.of s).trans (But.lst ev2 rfl)
  have bt2 : But (· = L.each) H2 (upd H2 L.each (.lst ((L.ords ++ [p]).map fun p => V.ref p.o))) := But.lst ev2 rfl
  have old : ∀ a, L.own a ≠ .no → ¬ p.foot a := fun a z f => by
    obtain ⟨u, q⟩ := h.dom a z
    rw [hx a f] at q
    cases q
  have fe : ∀ a, p.foot a → ¬ a = L.each := fun a f z => by
    have q := h.ev
    rw [← z, hx a f] at q
    cases q
  have own : ∀ a, L.own a ≠ .no → (L.add p).own a = L.own a := fun a z => Lay.add_out (old a z)
  have z1 : ∀ {r : Role} {a : Addr}, L.own a = r → r ≠ .no → (L.add p).own a = r := fun {r a} e n => by
    rw [own a (by rw [e]; exact n), e]
  refine ⟨⟨?_, z1 h.rb (by intro q; cases q), upd_same, z1 h.re (by intro q; cases q), ?_, z1 h.rt (by intro q; cases q), by simp [Lay.add, h.len], fun j q u e1 e2 => ?_, fun j q e1 a f => ?_, fun a z => ?_⟩, ⟨?_, ?_⟩⟩
  · obtain ⟨dx, e⟩ := h.ob
    exact ⟨dx, bt.keep _ _ e (ne_of e h.ev (by intro q; cases q))⟩
  · obtain ⟨ts, e, q⟩ := h.tr
    refine ⟨ts, bt.keep _ _ e fun z => ?_, Paired.mapP q fun _ _ z => (z.keep bt fun a f y => ?_).imp fun a f _ => z1 f (by intro q; cases q)⟩
    · have q1 := h.rt
      have z' : L.trail = L.each := z
      rw [z', h.re] at q1
      cases q1
    · have f' : L.own a = .deed := f
      have y' : a = L.each := y
      rw [y', h.re] at f'
      cases f'
  · by_cases hj : j < L.ords.length
    · have e1' : (L.ords ++ [p])[j]? = some q := e1
      rw [List.getElem?_append_left hj] at e1'
      have e2' : (B.each ++ [o])[j]? = some u := e2
      rw [List.getElem?_append_left (by rw [← h.len]; exact hj)] at e2'
      refine (h.od j q u e1' e2').keep bt fun a f z => ?_
      have q1 := h.ro j q e1' a f
      have z' : a = L.each := z
      rw [z', h.re] at q1
      cases q1
    · have e1' : (L.ords ++ [p])[j]? = some q := e1
      have hj2 : j = L.ords.length := by
        have := (List.getElem?_eq_some_iff.mp e1').1
        simp at this
        omega
      subst hj2
      rw [List.getElem?_append_right (Nat.le_refl _), Nat.sub_self] at e1'
      cases e1'
      have e2' : (B.each ++ [o])[L.ords.length]? = some u := e2
      rw [h.len, List.getElem?_append_right (Nat.le_refl _), Nat.sub_self] at e2'
      cases e2'
      exact O.keep bt2 fun a f z => fe a f z
  · by_cases hj : j < L.ords.length
    · have e1' : (L.ords ++ [p])[j]? = some q := e1
      rw [List.getElem?_append_left hj] at e1'
      exact z1 (h.ro j q e1' a f) (by intro q; cases q)
    · have e1' : (L.ords ++ [p])[j]? = some q := e1
      have hj2 : j = L.ords.length := by
        have := (List.getElem?_eq_some_iff.mp e1').1
        simp at this
        omega
      subst hj2
      rw [List.getElem?_append_right (Nat.le_refl _), Nat.sub_self] at e1'
      cases e1'
      exact Lay.add_in f
  · by_cases f : p.foot a
    · obtain ⟨u, q⟩ := O.dom a f
      exact ⟨u, bt2.keep _ _ q (fe a f)⟩
    · rw [Lay.add_out f] at z
      by_cases y : a = L.each
      · exact ⟨_, by rw [y]; exact upd_same⟩
      · obtain ⟨u, q⟩ := h.dom a z
        exact ⟨u, bt.keep _ _ q y⟩
  · refine bt.mono fun a y => ?_
    have y' : a = L.each := y
    show L.own a ≠ .no
    rw [y', h.re]
    intro q
    cases q
  · intro a z
    by_cases f : p.foot a
    · exact .inr (hx a f)
    · rw [Lay.add_out f] at z
      exact .inl z
theorem firstErr_at {ls : List Lt} {i : Nat} {t : Lt} {e : Er} (h : ∀ (j : Nat) u, j < i → ls[j]? = some u → ltCheck u = none) (ht : ls[i]? = some t) (he : ltCheck t = some e) : firstErr ls = some e := by
  induction ls generalizing i with
  | nil => simp at ht
  | cons a l ih =>
    cases i with
    | zero =>
      cases ht
      unfold firstErr
      rw [List.findSome?_cons, he]
    | succ n =>
      have ha : ltCheck a = none := h 0 a (Nat.succ_pos _) rfl
      have q := ih (i := n) (fun j u hj hu => h (j + 1) u (by omega) (by simpa using hu)) (by simpa using ht)
      unfold firstErr at q ⊢
      rw [List.findSome?_cons, ha]
      exact q
theorem firstErr_none {ls : List Lt} (h : ∀ (j : Nat) u, j < ls.length → ls[j]? = some u → ltCheck u = none) : firstErr ls = none := by
  unfold firstErr
  rw [List.findSome?_eq_none_iff]
  intro x hx
  obtain ⟨j, hj⟩ := List.getElem?_of_mem hx
  exact h j x (List.getElem?_eq_some_iff.mp hj).1 hj
def spBookBegin (K : PySem.W.Frag) : Sp := fun vs H Q E => ∃ (b : Addr) (B : Bk) (L : Lay) (l : Addr) (xs : List V) (ls : List Lt), vs = [.ref b, .ref l] ∧ BookAt K H b B L ∧ B.each.length ≤ 40 ∧ H l = some (.lst xs) ∧ LtsAt H xs ls ∧ xs.length ≤ 100000 ∧
  (∀ t, t ∈ ls → t.item.length ≤ 100000) ∧ (∀ e, ordErr B.each.length ls = some e → E (errV K e) none H) ∧
  (ordErr B.each.length ls = none → ∀ r L' H', BookAt K H' b { B with each := B.each ++ [⟨ls.map Lt.ln, 0, []⟩] } L' → Mod L L' H H' → (∀ a, H' a = none → H a = none) → H r = none → L'.own r = .no → H' r = some (.lst []) → Q (.ref r) H')
theorem len_BookBegin {K : PySem.W.Frag} {vs : List V} {H : Hp} {Q : VK} {E : XK} (h : spBookBegin K vs H Q E) : vs.length = 2 := by
  obtain ⟨_, _, _, _, _, _, rfl, _⟩ := h; rfl
theorem ok_BookBegin {P : Program} {w : World} {K : PySem.W.Frag} {mg : Str → Option Value} {base : Heap} (T : Tx w K mg) : FnOk P w K mg base (L2.CX P w) 5 (He.fAd K dBookBegin.at_) (fdO K dBookBegin.at_) P_BookBegin (spBookBegin K) := by
  refine T.f_BookBegin.ok sc_BookBegin (fun vs H Q E h => len_BookBegin h) (fun cdv A outer s H vs Q E hr h => ⟨_, ((pss_cons (ps_if (pt_not (pt_chain op_le op_le pe_int (pe_callB call_len_seq (by rfl) T.b_len (by decide +kernel) (pa_cons (pv 1) pa_nil)) (pe_gc rfl T.c_MOST_LINES))) (pss_one (ps_raise rfl (takes_of rfl rfl rfl rfl) (pmk_own PySem.F.excBase_ValueError T.x_NoLines.1 T.g_NoLines T.x_NoLines.2.1 (raises_own T.x_NoLines.2.2.1 T.x_NoLines.2.2.2) rfl))) pss_nil)
      (pss_cons (ps_for (passes_of rfl) rfl (pi_list (pv 1)) (pg_name (i := 2) sc_BookBegin.nd rfl (Or.inl rfl)) (pss_one (ps_expr (pe_call (ok_CheckLine T) (hr.mono (by decide)) rfl T.g_CheckLine T.f_CheckLine.kp T.b_CheckLine .nil (passes_call (takes_of rfl rfl rfl rfl) (fun _ _ _ _ h => h)) (pa_cons (pv 2) pa_nil)))))
      (pss_cons (ps_if (pt_cmpR op_eq (pe_callB call_len_seq (by rfl) T.b_len (by decide +kernel) (pa_cons (pe_fld (pv 0) rfl) pa_nil)) (pe_gc rfl T.c_MOST_ORDERS) (nomark _)) (pss_one (ps_raise rfl (takes_of rfl rfl rfl rfl) (pmk_own PySem.F.excBase_ValueError T.x_FullBook.1 T.g_FullBook T.x_FullBook.2.1 (raises_own T.x_FullBook.2.2.1 T.x_FullBook.2.2.2) rfl))) pss_nil)
      (pss_cons (ps_expr (pe_bm PySem.F.plainAttrs_list PySem.F.slot_list_append PySem.F.type_list_append mt_append (pe_fld (pv 0) rfl) (pa_cons (pe_make T.mk_Order (ok_OrderInit T) (hr.mono (by decide)) rfl T.g_Order T.b_OrderInit .nil pass0 (pa_cons (pv 1) pa_nil)) pa_nil)))
      (pss_one (ps_ret (pe_lst pa_nil)))))))), ?_⟩)
  obtain ⟨b, B, L, l, xs, ls, rfl, h, hfew, hl, pt, hz, hit, kE, k⟩ := h
  obtain ⟨dx, hb⟩ := h.ob
  have len := pt.length
  walk_at "rd"
  refine ⟨_, _, rfl, .inl (SqL.of hl), ?_⟩
  walk_at "rd"
  have bad : ¬ (1 ≤ ls.length ∧ ls.length ≤ 20) → E (.ref (He.ga K "NoLines")) none H := fun n => kE .noLines (by unfold ordErr; rw [if_pos n])
  refine r_itd (fun c1 => ?_) (fun c1 => ?_)
  rotate_left
  · walk_at "rd"
    exact bad fun z => by omega
  walk_at "rd"
  refine r_itn (fun c2 => ?_) (fun c2 => ?_)
  · exact bad fun z => by omega
  walk_at "rd"
  have gl : 1 ≤ ls.length ∧ ls.length ≤ 20 := by omega
  refine ⟨l, rfl, ⟨xs, SqL.of hl⟩, for_list (K := K) (a := l) (xs := xs) (fun i σ H' => ∃ v, σ = [some (.ref b), some (.ref l), v] ∧ H' = H ∧ ∀ (j : Nat) u, j < i → ls[j]? = some u → ltCheck u = none)
    ⟨none, rfl, rfl, fun j u hj => absurd hj (Nat.not_lt_zero _)⟩ (fun i σ H' _ ⟨_, _, e, _⟩ => by rw [e]; exact SqL.of hl) ?_ ?_⟩
  · rintro i x σ H' hi ⟨v, rfl, rfl, hp⟩
    have hi2 : i < ls.length := by rw [← len]; exact (List.getElem?_eq_some_iff.mp hi).1
    have et : ls[i]? = some ls[i] := List.getElem?_eq_getElem hi2
    walk_at "rd"
    refine ⟨x, ls[i], rfl, Paired.get pt hi et, hit _ (List.mem_of_getElem? et), ?_⟩
    cases ce : ltCheck ls[i] with
    | none =>
      refine ⟨_, rfl, rfl, fun j u hj hu => ?_⟩
      by_cases hji : j = i
      · subst hji
        rw [et] at hu
        cases hu
        exact ce
      · exact hp j u (by omega) hu
    | some e =>
      refine kE e ?_
      unfold ordErr
      rw [if_neg (fun z => z gl), firstErr_at hp et ce]
  · rintro σ H' ⟨v, rfl, rfl, hp⟩
    have fe : firstErr ls = none := firstErr_none fun j u hj hu => hp j u (by rw [len]; exact hj) hu
    walk_at "rd"
    refine r_f hb T.cl_Book T.n_Book_each (lk_Book_each _ _) ?_
    walk_at "rd"
    refine ⟨_, _, rfl, .inl (SqL.of h.ev), ?_⟩
    walk_at "rd"
    rw [List.length_map, h.len]
    refine r_itd (fun c => ?_) (fun c => ?_)
    · walk_at "rd"
      refine kE .fullBook ?_
      unfold ordErr
      rw [if_neg (fun z => z gl), fe]
      show (if B.each.length = 40 then some Er.fullBook else none) = _
      rw [if_pos (by omega)]
    walk_at "rd"
    refine r_f hb T.cl_Book T.n_Book_each (lk_Book_each _ _) ?_
    refine r_tyL (SqL.of h.ev) ?_
    walk_at "rd"
    intro x dy nx ndy ne
    have s1 : Same H' (upd (upd H' dy (.own x)) x (.ins (He.ga K "Order") dy [])) := fun a u e => by
      rw [upd_ne (ne_of_none e nx), upd_ne (ne_of_none e ndy)]
      exact e
    refine ⟨x, dy, l, xs, ls, rfl, upd_same, s1.seq (SqL.of hl), (But.of (S := fun _ => False) s1).lts pt, hz, fun p H2 hpo O hfr b2 => ⟨rfl, ?_⟩⟩
    have s2 : Same H' H2 := fun a u e => b2.keep _ _ (s1 _ _ e) (ne_of_none e nx)
    walk_at "rd"
    refine r_app (s2 _ _ h.ev) (by rw [List.length_map, h.len]; refine sz5l ?_; omega) ?_
    have hfoot : ∀ a, p.foot a → H' a = none := fun a f => by
      rcases hfr a f with z | z
      · rw [z]; exact nx
      · exact Same.free s1 z
    obtain ⟨BA, MA⟩ := h.add hfoot O s2
    have e3 : (L.ords ++ [p]).map (fun p => V.ref p.o) = L.ords.map (fun p => V.ref p.o) ++ [V.ref x] := by
      rw [List.map_append, ← hpo]; rfl
    rw [e3] at BA MA
    walk_at "rd"
    refine r_mk (by simp) fun r hr => ?_
    have back : ∀ a, upd H2 L.each (.lst (L.ords.map (fun p => V.ref p.o) ++ [V.ref x])) a = none → H' a = none := fun a e => by
      by_cases z : a = L.each
      · rw [z, upd_same] at e; cases e
      · rw [upd_ne z] at e
        exact Same.free s2 e
    refine k ?_ r (L.add p) _ (BA.same (same_upd hr)) ⟨MA.but.trans (But.of (same_upd hr)), MA.grow⟩ (fun a e => back a ?_) (back r hr) (BA.fresh hr) upd_same
    · unfold ordErr
      rw [if_neg (fun z => z gl), fe]
      show (if B.each.length = 40 then some Er.fullBook else none) = none
      rw [if_neg (by omega)]
    · by_cases z : a = r
      · rw [z, upd_same] at e; cases e
      · rw [upd_ne z] at e
        exact e

/-! ### deeds of one order, moves -/
theorem turn_ok {w : Str} {l l' : Ln} {n : Int} (h : l.ok) (e : l.turn w n = some l') : l'.ok := by
  unfold Ln.turn Ln.deliver Ln.reduce Ln.bring Ln.cut at e
  obtain ⟨h1, h2⟩ := h
  repeat' split at e
  all_goals first
    | (cases e; exact ⟨h1, h2⟩)
    | cases e
theorem Od.ok.line {o : Od} {i : Nat} {l l' : Ln} {w : Str} {n : Int} (h : o.ok) (el : o.lines[i]? = some l) (e : l.turn w n = some l') : Od.ok { o with lines := o.lines.set i l' } := by
  refine ⟨fun x hx => ?_, by simpa using h.few⟩
  have hx' : x ∈ o.lines.set i l' := hx
  rcases List.mem_or_eq_of_mem_set hx' with z | z
  · exact h.ln x z
  · rw [z]
    exact turn_ok (h.ln l (List.mem_of_getElem? el)) e
theorem Od.ok.pay {o : Od} {n : Int} (h : o.ok) : (o.pay n).ok := ⟨h.ln, h.few⟩
theorem Od.ok.mark {o : Od} {w : Str} {n : Int} (h : o.ok) : (o.mark w n).ok := ⟨h.ln, h.few⟩
theorem BookAt.footOf {K : PySem.W.Frag} {H : Hp} {b : Addr} {B : Bk} {L : Lay} {j : Nat} {p : OL} (h : BookAt K H b B L) (hp : L.ords[j]? = some p) : ∀ a, p.foot a → L.foot a := fun a f => by
  show L.own a ≠ .no
  rw [h.ro j p hp a f]
  intro q
  cases q
theorem OL.foot_las {p : OL} {a : Addr} (h : a ∈ p.las) : p.foot a := .inr (.inr (.inr h))
theorem OL.foot_lm {p : OL} {a : Addr} (h : a = p.lm) : p.foot a := .inr (.inr (.inl h))
theorem OL.foot_o {p : OL} {a : Addr} (h : a = p.o) : p.foot a := .inl h
/-- what a deed of one order ends in: the pair told in a new list -/
def OneK (K : PySem.W.Frag) (b : Addr) (B : Bk) (L : Lay) (H : Hp) (r : Res) (Q : VK) (E : XK) : Prop :=
  (∀ e, r = .error e → ∀ H', Same H H' → E (errV K e) none H') ∧
  ∀ es cs, r = .ok (es, cs) → ∀ r H', BookAt K H' b { B with each := es } L → But L.foot H H' → (∀ a, H' a = none → H a = none) → H r = none → ChAt H' r cs → Q (.ref r) H'
def spBookOne (K : PySem.W.Frag) : Sp := fun vs H Q E => ∃ (b : Addr) (B : Bk) (L : Lay) (v : V) (d : Dd), vs = [.ref b, v] ∧ BookAt K H b B L ∧ B.ok ∧ B.trail.length < 100000 ∧ DdAt (fun _ => True) H v d ∧
  ((∃ w o l n, d = .ln w o l n) ∨ ∃ w o n, d = .mo w o n) ∧ OneK K b B L H (step B.each d) Q E
theorem len_BookOne {K : PySem.W.Frag} {vs : List V} {H : Hp} {Q : VK} {E : XK} (h : spBookOne K vs H Q E) : vs.length = 2 := by
  obtain ⟨_, _, _, _, _, rfl, _⟩ := h; rfl
theorem same_none {H H' : Hp} (s : Same H H') {a : Addr} (h : H' a = none) : H a = none := Same.free s h
theorem upd_none {H : Hp} {a b : Addr} {o : HO} (h : upd H a o b = none) : b ≠ a ∧ H b = none := by
  by_cases z : b = a
  · rw [z, upd_same] at h; cases h
  · rw [upd_ne z] at h
    exact ⟨z, h⟩
/-- nothing goes -/
def Stay (H H' : Hp) : Prop := ∀ a, H' a = none → H a = none
theorem But.stay {p : OL} {K : PySem.W.Frag} {H H' : Hp} {o : Od} (b : But p.foot H H') (O : OdAt K H' p o) : Stay H H' := fun a e => by
  cases q : H a with
  | none => rfl
  | some u =>
    by_cases f : p.foot a
    · obtain ⟨x, z⟩ := O.dom a f
      rw [z] at e; cases e
    · rw [b.keep _ _ q f] at e; cases e
/-- the end of a deed of one order: mark, the pair, the list -/
theorem one_end {K : PySem.W.Frag} {H H1 H2 : Hp} {b : Addr} {B : Bk} {L : Lay} {j : Nat} {p : OL} {od' : Od} {o c : Int} {Q : VK} {t r : Addr} (h : BookAt K H b B L) (hp : L.ords[j]? = some p) (s : Same H H1)
    (O : OdAt K H2 p od') (bt : But p.foot H1 H2) (ht : H2 t = none) (hr : upd H2 t (.tup [.int o, .int c]) r = none)
    (k : ∀ r H', BookAt K H' b { B with each := B.each.set j od' } L → But L.foot H H' → (∀ a, H' a = none → H a = none) → H r = none → ChAt H' r [(o, c)] → Q (.ref r) H') :
    Q (.ref r) (upd (upd H2 t (.tup [.int o, .int c])) r (.lst [.ref t])) := by
  obtain ⟨rt, r2⟩ := upd_none hr
  have h1 := h.same s
  have h2 := h1.one hp O bt O.dom
  have s3 : Same H2 (upd (upd H2 t (.tup [.int o, .int c])) r (.lst [.ref t])) := (same_upd ht).trans (same_upd hr)
  refine k r _ (h2.same s3) (((But.of s).trans (bt.mono (h1.footOf hp))).trans (But.of s3)) (fun a e => same_none s (bt.stay O a (same_none s3 e))) (same_none s (bt.stay O r r2)) ⟨[.ref t], upd_same, .cons ⟨t, rfl, ?_⟩ .nil⟩
  rw [upd_ne (Ne.symm rt)]
  exact upd_same
theorem ok_BookOne {P : Program} {w : World} {K : PySem.W.Frag} {mg : Str → Option Value} {base : Heap} (T : Tx w K mg) : FnOk P w K mg base (L2.CX P w) 6 (He.fAd K dBookOne.at_) (fdO K dBookOne.at_) P_BookOne (spBookOne K) := by
  refine T.f_BookOne.ok sc_BookOne (fun vs H Q E h => len_BookOne h) (fun cdv A outer s H vs Q E hr h => ⟨_, ((pss_cons (ps_set (i := 2) sc_BookOne.nd rfl (Or.inl rfl) (pe_meth (pv 0) T.cl_Book T.m_Book_order_of (ok_BookOrderOf T) (hr.mono (by decide)) T.b_BookOrderOf .nil (passes_call (takes_of rfl rfl rfl rfl) (fun _ _ _ _ h => h)) (pa_cons (pe_ix ix_tup (pv 1) pe_int (fun _ _ => rfl)) pa_nil)))
      (pss_cons (ps_if (pt_cmpR op_eq (pe_callB call_len_seq (by rfl) T.b_len (by decide +kernel) (pa_cons (pv 1) pa_nil)) pe_int (nomark _)) (pss_one (ps_expr (pe_meth (pv 2) T.cl_Order T.m_Order_line_of (ok_OrderLineOf T) (hr.mono (by decide)) T.b_OrderLineOf .nil (passes_call (takes_of rfl rfl rfl rfl) (fun _ _ _ _ h => h)) (pa_cons (pe_ix ix_tup (pv 1) pe_int (fun _ _ => rfl)) pa_nil)))) pss_nil)
      (pss_cons (ps_set (i := 3) sc_BookOne.nd rfl (Or.inl rfl) (pe_ix ix_tup (pv 1) (pe_op op_sub (pe_callB call_len_seq (by rfl) T.b_len (by decide +kernel) (pa_cons (pv 1) pa_nil)) pe_int) (fun _ _ => rfl)))
      (pss_cons (ps_expr (pe_meth (pv 0) T.cl_Book T.m_Book_need_number (ok_BookNeedNumber T) (hr.mono (by decide)) T.b_BookNeedNumber .nil (passes_call (takes_of rfl rfl rfl rfl) (fun _ _ _ _ h => h)) (pa_cons (pv 3) pa_nil)))
      (pss_cons (ps_set (i := 4) sc_BookOne.nd rfl (Or.inl rfl) (pe_meth0 (pv 2) T.cl_Order T.m_Order_owing (ok_OrderOwing T) (hr.mono (by decide)) T.b_OrderOwing .nil pass0))
      (pss_cons (ps_if (pt_cmpR op_eq (pe_callB call_len_seq (by rfl) T.b_len (by decide +kernel) (pa_cons (pv 1) pa_nil)) pe_int (nomark _)) (pss_one (ps_expr (pe_meth (pv 2) T.cl_Order T.m_Order_turn_line (ok_OrderTurnLine T) (hr.mono (by decide)) T.b_OrderTurnLine .nil (passes_call (takes_of rfl rfl rfl rfl) (fun _ _ _ _ h => h)) (pa_cons (pe_ix ix_tup (pv 1) pe_int (fun _ _ => rfl)) (pa_cons (pe_ix ix_tup (pv 1) pe_int (fun _ _ => rfl)) (pa_cons (pv 3) pa_nil)))))) (pss_one (ps_if (pt_cmpR op_eq (pe_ix ix_tup (pv 1) pe_int (fun _ _ => rfl)) pe_str (nomark _)) (pss_one (ps_expr (pe_meth (pv 2) T.cl_Order T.m_Order_take (ok_OrderTake T) (hr.mono (by decide)) T.b_OrderTake .nil pass0 (pa_cons (pv 3) pa_nil)))) (pss_cons (ps_expr (pe_meth (pv 2) T.cl_Order T.m_Order_need_over (ok_OrderNeedOver T) (hr.mono (by decide)) T.b_OrderNeedOver .nil (passes_call (takes_of rfl rfl rfl rfl) (fun _ _ _ _ h => h)) (pa_cons (pv 3) pa_nil)))
      (pss_one (ps_expr (pe_meth (pv 2) T.cl_Order T.m_Order_take (ok_OrderTake T) (hr.mono (by decide)) T.b_OrderTake .nil pass0 (pa_cons (pe_un un_neg (pv 3)) pa_nil))))))))
      (pss_one (ps_ret (pe_lst (pa_cons (pe_tup (pa_cons (pe_ix ix_tup (pv 1) pe_int (fun _ _ => rfl)) (pa_cons (pe_meth (pv 2) T.cl_Order T.m_Order_mark (ok_OrderMark T) (hr.mono (by decide)) T.b_OrderMark .nil pass0 (pa_cons (pe_ix ix_tup (pv 1) pe_int (fun _ _ => rfl)) (pa_cons (pv 4) pa_nil))) pa_nil))) pa_nil))))))))))), ?_⟩)
  obtain ⟨b, B, L, v, d, rfl, h, ok, hz, hd, hc, kE, k⟩ := h
  obtain ⟨dx, hb⟩ := h.ob
  rcases hc with ⟨w', o, l, n, rfl⟩ | ⟨w', o, n, rfl⟩
  · obtain ⟨t, rfl, ht⟩ := hd
    walk_at "rd"
    refine r_m hb (no_Book_order_of _ _) ?_
    walk_at "rd"
    refine r_ixT (SqT.of ht) (atI_get (j := 1) rfl rfl) ?_
    walk_at "rd"
    change (∀ e, stepLn B.each w' o l n = .error e → _) at kE
    change (∀ es cs, stepLn B.each w' o l n = .ok (es, cs) → _) at k
    unfold stepLn at kE k
    refine ⟨b, B, L, o, rfl, h, fun c => kE .noOrder (by rw [at_none c]) _ (Same.refl _), fun j p od ej ep eo => ?_⟩
    subst ej
    rw [at_some eo] at kE k
    dsimp only at kE k
    have O := h.od j p od ep eo
    obtain ⟨do_, ho⟩ := O.ob
    have oko := ok.od od (List.mem_of_getElem? eo)
    walk_at "rd"
    refine ⟨_, _, rfl, .inr (SqT.of ht), ?_⟩
    walk_at "rd"
    refine r_ity rfl ?_
    walk_at "rd"
    refine r_m ho (no_Order_line_of _ _ _) ?_
    walk_at "rd"
    refine r_ixT (SqT.of ht) (atI_get (j := 2) rfl rfl) ?_
    walk_at "rd"
    refine ⟨p, od, l, rfl, O, fun c => kE .noLine (by rw [at_none c]) _ (Same.refl _), fun i a ei ea => ?_⟩
    subst ei
    have hi : i < od.lines.length := by rw [← O.len]; exact (List.getElem?_eq_some_iff.mp ea).1
    have el : od.lines[i]? = some od.lines[i] := List.getElem?_eq_getElem hi
    rw [at_some el] at kE k
    dsimp only at kE k
    walk_at "rd"
    refine ⟨_, _, rfl, .inr (SqT.of ht), ?_⟩
    walk_at "rd"
    refine r_ixT (SqT.of ht) (atI_get (j := 3) rfl rfl) ?_
    walk_at "rd"
    refine r_m hb (no_Book_need_number _ _) ?_
    walk_at "rd"
    refine ⟨_, n, rfl, fun c => kE .noNumber (by rw [if_pos c]) _ (Same.refl _), fun c => ?_⟩
    rw [if_neg c] at kE k
    walk_at "rd"
    refine r_m ho (no_Order_owing _ _ _) ?_
    walk_at "rd"
    refine ⟨p, od, rfl, O, oko, fun H1 s1 => ?_⟩
    walk_at "rd"
    refine ⟨_, _, rfl, .inr (SqT.of (s1 _ _ ht)), ?_⟩
    walk_at "rd"
    refine r_ity rfl ?_
    walk_at "rd"
    have O1 := O.same s1
    refine r_m (s1 _ _ ho) (no_Order_turn_line _ _ _) ?_
    walk_at "rd"
    refine r_ixT (SqT.of (s1 _ _ ht)) (atI_get (j := 0) rfl rfl) ?_
    walk_at "rd"
    refine r_ixT (SqT.of (s1 _ _ ht)) (atI_get (j := 2) rfl rfl) ?_
    walk_at "rd"
    refine ⟨p, od, w', i, od.lines[i], n, rfl, O1, oko, el, fun e => kE .tooMuch (by rw [e]) _ s1, fun l' e H2 O2 b2 => ?_⟩
    rw [e] at k
    dsimp only at k
    obtain ⟨do2, ho2⟩ := O2.ob
    walk_at "rd"
    have ht2 : H2 t = some (.tup [.str w', .int (j : Int), .int (i : Int), .int n]) := b2.tup _ _ (s1 _ _ ht)
    refine r_ixT (SqT.of ht2) (atI_get (j := 1) rfl rfl) ?_
    walk_at "rd"
    refine r_m ho2 (no_Order_mark _ _ _) ?_
    walk_at "rd"
    refine r_ixT (SqT.of ht2) (atI_get (j := 0) rfl rfl) ?_
    walk_at "rd"
    have mk := ok.mks od (List.mem_of_getElem? eo)
    refine ⟨p, _, w', _, rfl, O2, oko.line el e, Nat.lt_of_le_of_lt mk hz, fun H3 O3 b3 => ?_⟩
    walk_at "rd"
    refine r_mk (by simp) fun t4 ht4 => ?_
    walk_at "rd"
    refine r_mk (by simp) fun r5 hr5 => ?_
    exact one_end h ep s1 O3 ((b2.mono fun a z => OL.foot_las z).trans (b3.mono fun a z => OL.foot_lm z)) ht4 hr5 (k _ _ rfl)
  · obtain ⟨t, rfl, ht⟩ := hd
    walk_at "rd"
    refine r_m hb (no_Book_order_of _ _) ?_
    walk_at "rd"
    refine r_ixT (SqT.of ht) (atI_get (j := 1) rfl rfl) ?_
    walk_at "rd"
    change (∀ e, stepMo B.each w' o n = .error e → _) at kE
    change (∀ es cs, stepMo B.each w' o n = .ok (es, cs) → _) at k
    unfold stepMo at kE k
    refine ⟨b, B, L, o, rfl, h, fun c => kE .noOrder (by rw [at_none c]) _ (Same.refl _), fun j p od ej ep eo => ?_⟩
    subst ej
    rw [at_some eo] at kE k
    dsimp only at kE k
    have O := h.od j p od ep eo
    obtain ⟨do_, ho⟩ := O.ob
    have oko := ok.od od (List.mem_of_getElem? eo)
    have mk := ok.mks od (List.mem_of_getElem? eo)
    walk_at "rd"
    refine ⟨_, _, rfl, .inr (SqT.of ht), ?_⟩
    walk_at "rd"
    refine r_itz (show ¬ ((3 : Nat) : Int) = 4 by decide) ?_
    walk_at "rd"
    refine ⟨_, _, rfl, .inr (SqT.of ht), ?_⟩
    walk_at "rd"
    refine r_ixT (SqT.of ht) (atI_get (j := 2) rfl rfl) ?_
    walk_at "rd"
    refine r_m hb (no_Book_need_number _ _) ?_
    walk_at "rd"
    refine ⟨_, n, rfl, fun c => kE .noNumber (by rw [if_pos c]) _ (Same.refl _), fun c => ?_⟩
    rw [if_neg c] at kE k
    walk_at "rd"
    refine r_m ho (no_Order_owing _ _ _) ?_
    walk_at "rd"
    refine ⟨p, od, rfl, O, oko, fun H1 s1 => ?_⟩
    walk_at "rd"
    refine ⟨_, _, rfl, .inr (SqT.of (s1 _ _ ht)), ?_⟩
    walk_at "rd"
    refine r_itz (show ¬ ((3 : Nat) : Int) = 4 by decide) ?_
    have O1 := O.same s1
    walk_at "rd"
    refine r_ixT (SqT.of (s1 _ _ ht)) (atI_get (j := 0) rfl rfl) ?_
    walk_at "rd"
    refine r_itd (fun cw => ?_) (fun cw => ?_)
    · rw [if_pos cw] at k
      walk_at "rd"
      refine r_m (s1 _ _ ho) (no_Order_take _ _ _) ?_
      walk_at "rd"
      refine ⟨p, od, n, rfl, O1, fun H2 O2 b2 => ?_⟩
      obtain ⟨do2, ho2⟩ := O2.ob
      walk_at "rd"
      have ht2 : H2 t = some (.tup [.str w', .int (j : Int), .int n]) := b2.tup _ _ (s1 _ _ ht)
      refine r_ixT (SqT.of ht2) (atI_get (j := 1) rfl rfl) ?_
      walk_at "rd"
      refine r_m ho2 (no_Order_mark _ _ _) ?_
      walk_at "rd"
      refine r_ixT (SqT.of ht2) (atI_get (j := 0) rfl rfl) ?_
      walk_at "rd"
      refine ⟨p, _, w', _, rfl, O2, oko.pay, Nat.lt_of_le_of_lt mk hz, fun H3 O3 b3 => ?_⟩
      walk_at "rd"
      refine r_mk (by simp) fun t4 ht4 => ?_
      walk_at "rd"
      refine r_mk (by simp) fun r5 hr5 => ?_
      exact one_end h ep s1 O3 ((b2.mono fun a z => OL.foot_o z).trans (b3.mono fun a z => OL.foot_lm z)) ht4 hr5 (k _ _ rfl)
    · rw [if_neg cw] at kE k
      walk_at "rd"
      refine r_m (s1 _ _ ho) (no_Order_need_over _ _ _) ?_
      walk_at "rd"
      refine ⟨p, od, n, rfl, O1, oko, fun c2 H2 s2 => kE .tooMuch (by rw [if_pos c2]) _ (s1.trans s2), fun c2 H2 s2 => ?_⟩
      rw [if_neg c2] at k
      walk_at "rd"
      refine r_m (s2 _ _ (s1 _ _ ho)) (no_Order_take _ _ _) ?_
      walk_at "rd"
      refine ⟨p, od, -n, rfl, O1.same s2, fun H3 O3 b3 => ?_⟩
      obtain ⟨do3, ho3⟩ := O3.ob
      walk_at "rd"
      have ht3 : H3 t = some (.tup [.str w', .int (j : Int), .int n]) := b3.tup _ _ (s2 _ _ (s1 _ _ ht))
      refine r_ixT (SqT.of ht3) (atI_get (j := 1) rfl rfl) ?_
      walk_at "rd"
      refine r_m ho3 (no_Order_mark _ _ _) ?_
      walk_at "rd"
      refine r_ixT (SqT.of ht3) (atI_get (j := 0) rfl rfl) ?_
      walk_at "rd"
      refine ⟨p, _, w', _, rfl, O3, oko.pay, Nat.lt_of_le_of_lt mk hz, fun H4 O4 b4 => ?_⟩
      walk_at "rd"
      refine r_mk (by simp) fun t4 ht4 => ?_
      walk_at "rd"
      refine r_mk (by simp) fun r5 hr5 => ?_
      exact one_end h ep (s1.trans s2) O4 ((b3.mono fun a z => OL.foot_o z).trans (b4.mono fun a z => OL.foot_lm z)) ht4 hr5 (k _ _ rfl)

/-! ### a move -/
theorem Stay.of {H H' : Hp} (s : Same H H') : Stay H H' := fun _ e => Same.free s e
theorem Stay.trans {H H1 H2 : Hp} (a : Stay H H1) (b : Stay H1 H2) : Stay H H2 := fun x e => a x (b x e)
def spBookShift (K : PySem.W.Frag) : Sp := fun vs H Q E => ∃ (b : Addr) (B : Bk) (L : Lay) (v : V) (o p n : Int), vs = [.ref b, v] ∧ BookAt K H b B L ∧ B.ok ∧ B.trail.length < 100000 ∧ DdAt (fun _ => True) H v (.mv o p n) ∧
  OneK K b B L H (stepMv B.each o p n) Q E
theorem len_BookShift {K : PySem.W.Frag} {vs : List V} {H : Hp} {Q : VK} {E : XK} (h : spBookShift K vs H Q E) : vs.length = 2 := by
  obtain ⟨_, _, _, _, _, _, _, rfl, _⟩ := h; rfl
theorem ok_BookShift {P : Program} {w : World} {K : PySem.W.Frag} {mg : Str → Option Value} {base : Heap} (T : Tx w K mg) : FnOk P w K mg base (L2.CX P w) 6 (He.fAd K dBookShift.at_) (fdO K dBookShift.at_) P_BookShift (spBookShift K) := by
  refine T.f_BookShift.ok sc_BookShift (fun vs H Q E h => len_BookShift h) (fun cdv A outer s H vs Q E hr h => ⟨_, ((pss_cons (ps_set (i := 2) sc_BookShift.nd rfl (Or.inl rfl) (pe_meth (pv 0) T.cl_Book T.m_Book_order_of (ok_BookOrderOf T) (hr.mono (by decide)) T.b_BookOrderOf .nil (passes_call (takes_of rfl rfl rfl rfl) (fun _ _ _ _ h => h)) (pa_cons (pe_ix ix_tup (pv 1) pe_int (fun _ _ => rfl)) pa_nil)))
      (pss_cons (ps_set (i := 3) sc_BookShift.nd rfl (Or.inl rfl) (pe_meth (pv 0) T.cl_Book T.m_Book_order_of (ok_BookOrderOf T) (hr.mono (by decide)) T.b_BookOrderOf .nil (passes_call (takes_of rfl rfl rfl rfl) (fun _ _ _ _ h => h)) (pa_cons (pe_ix ix_tup (pv 1) pe_int (fun _ _ => rfl)) pa_nil)))
      (pss_cons (ps_if (pt_cmpR op_eq (pe_ix ix_tup (pv 1) pe_int (fun _ _ => rfl)) (pe_ix ix_tup (pv 1) pe_int (fun _ _ => rfl)) (nomark _)) (pss_one (ps_raise rfl (takes_of rfl rfl rfl rfl) (pmk_own PySem.F.excBase_ValueError T.x_SameOrder.1 T.g_SameOrder T.x_SameOrder.2.1 (raises_own T.x_SameOrder.2.2.1 T.x_SameOrder.2.2.2) rfl))) pss_nil)
      (pss_cons (ps_expr (pe_meth (pv 0) T.cl_Book T.m_Book_need_number (ok_BookNeedNumber T) (hr.mono (by decide)) T.b_BookNeedNumber .nil (passes_call (takes_of rfl rfl rfl rfl) (fun _ _ _ _ h => h)) (pa_cons (pe_ix ix_tup (pv 1) pe_int (fun _ _ => rfl)) pa_nil)))
      (pss_cons (ps_expr (pe_meth (pv 2) T.cl_Order T.m_Order_need_over (ok_OrderNeedOver T) (hr.mono (by decide)) T.b_OrderNeedOver .nil (passes_call (takes_of rfl rfl rfl rfl) (fun _ _ _ _ h => h)) (pa_cons (pe_ix ix_tup (pv 1) pe_int (fun _ _ => rfl)) pa_nil)))
      (pss_cons (ps_set (i := 4) sc_BookShift.nd rfl (Or.inl rfl) (pe_lst (pa_cons (pe_meth0 (pv 2) T.cl_Order T.m_Order_owing (ok_OrderOwing T) (hr.mono (by decide)) T.b_OrderOwing .nil pass0) (pa_cons (pe_meth0 (pv 3) T.cl_Order T.m_Order_owing (ok_OrderOwing T) (hr.mono (by decide)) T.b_OrderOwing .nil pass0) pa_nil))))
      (pss_cons (ps_expr (pe_meth (pv 2) T.cl_Order T.m_Order_take (ok_OrderTake T) (hr.mono (by decide)) T.b_OrderTake .nil pass0 (pa_cons (pe_un un_neg (pe_ix ix_tup (pv 1) pe_int (fun _ _ => rfl))) pa_nil)))
      (pss_cons (ps_expr (pe_meth (pv 3) T.cl_Order T.m_Order_take (ok_OrderTake T) (hr.mono (by decide)) T.b_OrderTake .nil pass0 (pa_cons (pe_ix ix_tup (pv 1) pe_int (fun _ _ => rfl)) pa_nil)))
      (pss_one (ps_ret (pe_lst (pa_cons (pe_tup (pa_cons (pe_ix ix_tup (pv 1) pe_int (fun _ _ => rfl)) (pa_cons (pe_meth (pv 2) T.cl_Order T.m_Order_mark (ok_OrderMark T) (hr.mono (by decide)) T.b_OrderMark .nil pass0 (pa_cons pe_str (pa_cons (pe_ix ix_list (pv 4) pe_int (fun _ _ => rfl)) pa_nil))) pa_nil))) (pa_cons (pe_tup (pa_cons (pe_ix ix_tup (pv 1) pe_int (fun _ _ => rfl)) (pa_cons (pe_meth (pv 3) T.cl_Order T.m_Order_mark (ok_OrderMark T) (hr.mono (by decide)) T.b_OrderMark .nil pass0 (pa_cons pe_str (pa_cons (pe_ix ix_list (pv 4) pe_int (fun _ _ => rfl)) pa_nil))) pa_nil))) pa_nil)))))))))))))), ?_⟩)
  obtain ⟨b, B, L, v, o, p, n, rfl, h, ok, hz, ⟨t, rfl, ht⟩, kE, k⟩ := h
  obtain ⟨dx, hb⟩ := h.ob
  unfold stepMv at kE k
  walk_at "rd"
  refine r_m hb (no_Book_order_of _ _) ?_
  walk_at "rd"
  refine r_ixT (SqT.of ht) (atI_get (j := 1) rfl rfl) ?_
  walk_at "rd"
  refine ⟨b, B, L, o, rfl, h, fun c => kE .noOrder (by rw [at_none c]) _ (Same.refl _), fun i p1 od1 ei ep1 eo1 => ?_⟩
  subst ei
  rw [at_some eo1] at kE k
  dsimp only at kE k
  walk_at "rd"
  refine r_m hb (no_Book_order_of _ _) ?_
  walk_at "rd"
  refine r_ixT (SqT.of ht) (atI_get (j := 2) rfl rfl) ?_
  walk_at "rd"
  refine ⟨b, B, L, p, rfl, h, fun c => kE .noOrder (by rw [at_none c]) _ (Same.refl _), fun j p2 od2 ej ep2 eo2 => ?_⟩
  subst ej
  rw [at_some eo2] at kE k
  dsimp only at kE k
  walk_at "rd"
  refine r_ixT (SqT.of ht) (atI_get (j := 1) rfl rfl) ?_
  walk_at "rd"
  refine r_ixT (SqT.of ht) (atI_get (j := 2) rfl rfl) ?_
  walk_at "rd"
  refine r_itd (fun c => kE .sameOrder (by rw [if_pos c]) _ (Same.refl _)) (fun c => ?_)
  rw [if_neg c] at kE k
  have hij : i ≠ j := fun z => c (by rw [z])
  have O1 := h.od i p1 od1 ep1 eo1
  have O2 := h.od j p2 od2 ep2 eo2
  obtain ⟨d1, ho1⟩ := O1.ob
  obtain ⟨d2, ho2⟩ := O2.ob
  have ok1 := ok.od od1 (List.mem_of_getElem? eo1)
  have ok2 := ok.od od2 (List.mem_of_getElem? eo2)
  have mk1 := Nat.lt_of_le_of_lt (ok.mks od1 (List.mem_of_getElem? eo1)) hz
  have mk2 := Nat.lt_of_le_of_lt (ok.mks od2 (List.mem_of_getElem? eo2)) hz
  walk_at "rd"
  refine r_m hb (no_Book_need_number _ _) ?_
  walk_at "rd"
  refine r_ixT (SqT.of ht) (atI_get (j := 3) rfl rfl) ?_
  walk_at "rd"
  refine ⟨_, n, rfl, fun c => kE .noNumber (by rw [if_pos c]) _ (Same.refl _), fun c => ?_⟩
  rw [if_neg c] at kE k
  walk_at "rd"
  refine r_m ho1 (no_Order_need_over _ _ _) ?_
  walk_at "rd"
  refine r_ixT (SqT.of ht) (atI_get (j := 3) rfl rfl) ?_
  walk_at "rd"
  refine ⟨p1, od1, n, rfl, O1, ok1, fun c2 H2 s2 => kE .tooMuch (by rw [if_pos c2]) _ s2, fun c2 H1 s1 => ?_⟩
  rw [if_neg c2] at k
  walk_at "rd"
  refine r_m (s1 _ _ ho1) (no_Order_owing _ _ _) ?_
  walk_at "rd"
  refine ⟨p1, od1, rfl, O1.same s1, ok1, fun H2 s2 => ?_⟩
  walk_at "rd"
  have s12 := s1.trans s2
  refine r_m (s12 _ _ ho2) (no_Order_owing _ _ _) ?_
  walk_at "rd"
  refine ⟨p2, od2, rfl, O2.same s12, ok2, fun H3 s3 => ?_⟩
  walk_at "rd"
  have s13 := s12.trans s3
  refine r_mk (by simp) fun a ha => ?_
  have s14 : Same H (upd H3 a (.lst [.int od1.owing, .int od2.owing])) := s13.trans (same_upd ha)
  have h4 := h.same s14
  have la4 : upd H3 a (.lst [.int od1.owing, .int od2.owing]) a = some (.lst [.int od1.owing, .int od2.owing]) := upd_same
  have aH : H a = none := Same.free s13 ha
  have af : ∀ {q : OL} {m : Nat}, L.ords[m]? = some q → ¬ q.foot a := fun {q m} e f => by
    have z := h.ro m q e a f
    rw [h.fresh aH] at z
    cases z
  revert h4 la4 s14
  generalize upd H3 a (.lst [.int od1.owing, .int od2.owing]) = H4
  intro s14 h4 la4
  walk_at "rd"
  refine r_m (s14 _ _ ho1) (no_Order_take _ _ _) ?_
  walk_at "rd"
  refine r_ixT (SqT.of (s14 _ _ ht)) (atI_get (j := 3) rfl rfl) ?_
  walk_at "rd"
  refine ⟨p1, od1, -n, rfl, h4.od i p1 od1 ep1 eo1, fun H5 O5 b5 => ?_⟩
  have b5' : But p1.foot H4 H5 := b5.mono fun x z => OL.foot_o z
  have h5 := h4.one ep1 O5 b5' O5.dom
  have t5 := b5.tup _ _ (s14 _ _ ht)
  have la5 := b5'.keep _ _ la4 (af ep1)
  have O52 := h5.od j p2 od2 ep2 (by
    show (B.each.set i _)[j]? = _
    rw [List.getElem?_set_ne hij]; exact eo2)
  obtain ⟨d52, ho52⟩ := O52.ob
  walk_at "rd"
  refine r_m ho52 (no_Order_take _ _ _) ?_
  walk_at "rd"
  refine r_ixT (SqT.of t5) (atI_get (j := 3) rfl rfl) ?_
  walk_at "rd"
  refine ⟨p2, od2, n, rfl, O52, fun H6 O6 b6 => ?_⟩
  have b6' : But p2.foot H5 H6 := b6.mono fun x z => OL.foot_o z
  have h6 := h5.one ep2 O6 b6' O6.dom
  have t6 := b6.tup _ _ t5
  have la6 := b6'.keep _ _ la5 (af ep2)
  have li : i < B.each.length := (List.getElem?_eq_some_iff.mp eo1).1
  have lj : j < B.each.length := (List.getElem?_eq_some_iff.mp eo2).1
  have O61 := h6.od i p1 { od1 with money := od1.money + -n } ep1 (by
    show ((B.each.set i _).set j _)[i]? = _
    rw [List.getElem?_set_ne (Ne.symm hij), List.getElem?_set_self li])
  obtain ⟨d61, ho61⟩ := O61.ob
  walk_at "rd"
  refine r_ixT (SqT.of t6) (atI_get (j := 1) rfl rfl) ?_
  walk_at "rd"
  refine r_m ho61 (no_Order_mark _ _ _) ?_
  walk_at "rd"
  refine r_ixL (SqL.of la6) (atI_get (j := 0) rfl rfl) ?_
  walk_at "rd"
  refine ⟨p1, _, "move", _, rfl, O61, ok1.pay, mk1, fun H7 O7 b7 => ?_⟩
  have b7' : But p1.foot H6 H7 := b7.mono fun x z => OL.foot_lm z
  have h7 := h6.one ep1 O7 b7' O7.dom
  have t7 := b7.tup _ _ t6
  have la7 := b7'.keep _ _ la6 (af ep1)
  walk_at "rd"
  refine r_mk (by simp) fun t1 ht1 => ?_
  have s8 := same_upd (o := .tup [.int (i : Int), .int (Od.owing { od1 with money := od1.money + -n } - od1.owing)]) ht1
  have e1 : upd H7 t1 (.tup [.int (i : Int), .int (Od.owing { od1 with money := od1.money + -n } - od1.owing)]) t1 = some (.tup [.int (i : Int), .int (Od.owing { od1 with money := od1.money + -n } - od1.owing)]) := upd_same
  have h8 := h7.same s8
  revert e1 h8 s8
  generalize upd H7 t1 (.tup [.int (i : Int), .int (Od.owing { od1 with money := od1.money + -n } - od1.owing)]) = H8
  intro s8 e1 h8
  walk_at "rd"
  refine r_ixT (SqT.of (s8 _ _ t7)) (atI_get (j := 2) rfl rfl) ?_
  walk_at "rd"
  have O82 := h8.od j p2 { od2 with money := od2.money + n } ep2 (by
    show (((B.each.set i _).set j _).set i _)[j]? = _
    rw [List.getElem?_set_ne hij, List.getElem?_set_self (by simpa using lj)])
  obtain ⟨d82, ho82⟩ := O82.ob
  refine r_m ho82 (no_Order_mark _ _ _) ?_
  walk_at "rd"
  refine r_ixL (SqL.of (s8 _ _ la7)) (atI_get (j := 1) rfl rfl) ?_
  walk_at "rd"
  refine ⟨p2, _, "move", _, rfl, O82, ok2.pay, mk2, fun H9 O9 b9 => ?_⟩
  have b9' : But p2.foot H8 H9 := b9.mono fun x z => OL.foot_lm z
  have h9 := h8.one ep2 O9 b9' O9.dom
  have e9 := b9.tup _ _ e1
  walk_at "rd"
  refine r_mk (by simp) fun t2 ht2 => ?_
  walk_at "rd"
  refine r_mk (by simp) fun r hr => ?_
  obtain ⟨rt, hr9⟩ := upd_none hr
  have s10 := (same_upd (o := .tup [.int (j : Int), .int (Od.owing { od2 with money := od2.money + n } - od2.owing)]) ht2).trans (same_upd (o := .lst [.ref t1, .ref t2]) hr)
  have f1 := h.footOf ep1
  have f2 := h.footOf ep2
  have bt : But L.foot H H9 := (((((But.of s14).trans (b5'.mono f1)).trans (b6'.mono f2)).trans (b7'.mono f1)).trans (But.of s8)).trans (b9'.mono f2)
  have st : Stay H H9 := ((((Stay.of s14).trans (b5'.stay O5)).trans (b6'.stay O6)).trans (b7'.stay O7)).trans ((Stay.of s8).trans (b9'.stay O9))
  refine k _ _ rfl r _ ?_ (bt.trans (But.of s10)) (st.trans (Stay.of s10)) (st _ hr9) ⟨_, upd_same, .cons ⟨t1, rfl, s10 _ _ e9⟩ (.cons ⟨t2, rfl, ?_⟩ .nil)⟩
  · have h10 := h9.same s10
    have e : ((((B.each.set i { od1 with money := od1.money + -n }).set j { od2 with money := od2.money + n }).set i { { od1 with money := od1.money + -n } with marks := od1.marks ++ [(("move" : Str), Od.owing { od1 with money := od1.money + -n } - od1.owing)] }).set j
        { { od2 with money := od2.money + n } with marks := od2.marks ++ [(("move" : Str), Od.owing { od2 with money := od2.money + n } - od2.owing)] }) =
        (B.each.set i (Od.mark (od1.pay (-n)) "move" ((od1.pay (-n)).owing - od1.owing))).set j (Od.mark (od2.pay n) "move" ((od2.pay n).owing - od2.owing)) := by
      rw [List.set_comm _ _ hij, List.set_set, List.set_comm _ _ (Ne.symm hij), List.set_set]
      rfl
    rw [← e]
    exact h10
  · rw [upd_ne (Ne.symm rt)]
    exact upd_same

/-! ### the words of deeds -/
theorem key_at {es : List DictEntry} {w : World} {ks : List Str} (h : es.map He.keyOf = He.keysIn w.params ks) : ∀ e, e ∈ es → ∃ k t, k ∈ ks ∧ e.key = .str k t := by
  intro e he
  have hm : He.keyOf e ∈ He.keysIn w.params ks := by
    rw [← h]
    exact List.mem_map_of_mem he
  unfold He.keysIn at hm
  obtain ⟨k, hk, e1⟩ := List.mem_map.mp hm
  unfold He.keyOf at e1
  split at e1
  · rename_i x t q
    have e2 := congrArg Prod.fst (Option.some.inj e1)
    have e3 : k = x := e2
    subst e3
    exact ⟨k, t, hk, q⟩
  · cases e1
theorem lookup_mem {ks : List (Str × Int)} {z : Str} {n : Int} (h : ks.lookup z = some n) : (z, n) ∈ ks := by
  induction ks with
  | nil => cases h
  | cons a r ih =>
    obtain ⟨k, m⟩ := a
    rw [List.lookup_cons] at h
    by_cases c : z = k
    · subst c
      rw [beq_self_eq_true] at h
      cases h
      exact List.mem_cons_self
    · have q : (z == k) = false := by simpa using c
      rw [q] at h
      exact List.mem_cons_of_mem _ (ih h)
theorem lookup_no {ks : List (Str × Int)} {z : Str} (h : ks.lookup z = none) : ¬ z ∈ ks.map (·.1) := by
  induction ks with
  | nil => simp
  | cons a r ih =>
    obtain ⟨k, m⟩ := a
    rw [List.lookup_cons] at h
    by_cases c : z = k
    · subst c
      rw [beq_self_eq_true] at h
      cases h
    · have q : (z == k) = false := by simpa using c
      rw [q] at h
      intro hm
      rcases List.mem_cons.mp hm with e | e
      · exact c e
      · exact ih h e
theorem Tx.pt {w : World} {K : PySem.W.Frag} {mg : Str → Option Value} (T : Tx w K mg) (z : Str) :
    (∃ n, parts.lookup z = some n ∧ ∃ u, PySem.W.nsIn K (He.ga K "PARTS") z = some (some u) ∧ RelV (.int n) u) ∨ (parts.lookup z = none ∧ PySem.W.nsIn K (He.ga K "PARTS") z = some none) := by
  cases e : parts.lookup z with
  | some n =>
    refine .inl ⟨n, rfl, ?_⟩
    have hm : (z, He.Dv.int n) ∈ parts.map fun p => (p.1, He.Dv.int p.2) := List.mem_map.mpr ⟨(z, n), lookup_mem e, rfl⟩
    exact He.valsB_ok T.kv hm
  | none =>
    refine .inr ⟨rfl, ?_⟩
    obtain ⟨es, m, lk, lit, ky, low⟩ := T.kd
    have hk := key_at ky
    have no := lookup_no e
    unfold PySem.W.nsIn
    rw [lk]
    have f : es.toList.find? (fun e => e.key.isStr z) = none := by
      rw [List.find?_eq_none]
      intro d hd
      obtain ⟨k, t, hm, q⟩ := hk d hd
      rw [q]
      show ¬ (k == z) = true
      intro y
      have y2 : k = z := by simpa using y
      rw [← y2] at no
      exact no hm
    have g : es.toList.any (fun e => e.refKey) = false := by
      rw [List.any_eq_false]
      intro d hd
      obtain ⟨k, t, hm, q⟩ := hk d hd
      simp [DictEntry.refKey, q]
    dsimp only
    rw [f]
    dsimp only
    rw [g]
    rfl
section
variable {X : Cx} {d : Addr} {ks : List Str}
theorem op_notIn_pt (D : ∃ es n, X.K.lookup d = some ⟨.type "dict", none, .dict es n, #[]⟩ ∧ PySem.W.KeysLit X.w.params es.toList ∧ es.toList.map He.keyOf = He.keysIn X.w.params ks ∧ (d == sysModules) = false) :
    OpR X (compareOp .NotIn) (fun x y H Q => ∃ (z : Str) (r : Option Value), x = .str z ∧ y = .ref d ∧ PySem.W.nsIn X.K d z = some r ∧ Q (.bl (!r.isSome)) H) := by
  obtain ⟨es, n, h1, h2, _, h4⟩ := D
  exact op_notIn_kd ⟨h1, h2, h4⟩
end
/-- not a deed -/
def Bad (xs : List V) : Prop := xs = [] ∨ ∃ w r, xs = .str w :: r ∧ parts.lookup w ≠ some (xs.length : Int)
theorem dd_parts {d : Dd} (g : d.good) {F : Addr → Prop} {H : Hp} {v : V} (h : DdAt F H v d) : ∃ t w r, v = .ref t ∧ H t = some (.tup (.str w :: r)) ∧ parts.lookup w = some (((V.str w :: r).length : Nat) : Int) := by
  cases d with
  | ord ls =>
    obtain ⟨t, l, xs, e, ht, _⟩ := h
    exact ⟨t, _, _, e, ht, by show parts.lookup ("order" : Str) = some 2; decide +kernel⟩
  | ln w o l n =>
    obtain ⟨t, e, ht⟩ := h
    refine ⟨t, _, _, e, ht, ?_⟩
    show parts.lookup w = some 4
    rcases g with rfl | rfl | rfl | rfl <;> decide +kernel
  | mo w o n =>
    obtain ⟨t, e, ht⟩ := h
    refine ⟨t, _, _, e, ht, ?_⟩
    show parts.lookup w = some 3
    rcases g with rfl | rfl <;> decide +kernel
  | mv o p n =>
    obtain ⟨t, e, ht⟩ := h
    exact ⟨t, _, _, e, ht, by show parts.lookup ("move" : Str) = some 4; decide +kernel⟩
/-! ### the trail -/
noncomputable def Lay.log (L : Lay) (P : Addr → Prop) : Lay := ⟨L.each, L.trail, L.ords, fun a => @ite _ (P a) (Classical.propDecidable _) .deed (L.own a)⟩
theorem Lay.log_in {L : Lay} {P : Addr → Prop} {a : Addr} (h : P a) : (L.log P).own a = .deed := @if_pos _ (Classical.propDecidable _) h _ _ _
theorem Lay.log_out {L : Lay} {P : Addr → Prop} {a : Addr} (h : ¬ P a) : (L.log P).own a = L.own a := @if_neg _ (Classical.propDecidable _) h _ _ _
/-- the list that a deed holds -/
theorem DdAt.list {F : Addr → Prop} {H : Hp} {v : V} {d : Dd} (h : DdAt F H v d) : ∃ P : Addr → Prop, DdAt P H v d ∧ ∀ a, P a → F a ∧ ∃ xs, H a = some (.lst xs) := by
  cases d with
  | ord ls => obtain ⟨t, l, xs, e, h1, h2, f, q⟩ := h; exact ⟨(· = l), ⟨t, l, xs, e, h1, h2, rfl, q⟩, fun a z => by have z' : a = l := z; rw [z']; exact ⟨f, xs, h2⟩⟩
  | ln w o l n => exact ⟨fun _ => False, h, fun _ z => z.elim⟩
  | mo w o n => exact ⟨fun _ => False, h, fun _ z => z.elim⟩
  | mv o p n => exact ⟨fun _ => False, h, fun _ z => z.elim⟩
theorem BookAt.log {K : PySem.W.Frag} {H H2 : Hp} {b : Addr} {B : Bk} {L : Lay} {v : V} {d : Dd} {ts : List V} (h : BookAt K H b B L) (s : Same H H2) (hd : DdAt (fun a => H a = none) H2 v d) (ht : H2 L.trail = some (.lst ts)) :
    ∃ L', BookAt K (upd H2 L.trail (.lst (ts ++ [v]))) b { B with trail := B.trail ++ [d] } L' ∧ Mod L L' H (upd H2 L.trail (.lst (ts ++ [v]))) ∧ ∀ a, H a ≠ none → L'.own a = L.own a := by
  obtain ⟨P, hP, hF⟩ := hd.list
  have own : ∀ a, H a ≠ none → (L.log P).own a = L.own a := fun a z => Lay.log_out fun p => z (hF a p).1
  have own2 : ∀ a, L.own a ≠ .no → (L.log P).own a = L.own a := fun a z => own a fun q => z (h.fresh q)
  have z1 : ∀ {r : Role} {a : Addr}, L.own a = r → r ≠ .no → (L.log P).own a = r := fun {r a} e n => by
    rw [own2 a (by rw [e]; exact n), e]
  have bt : But (· = L.trail) H (upd H2 L.trail (.lst (ts ++ [v]))) := (But.of s).trans (But.lst ht rfl)
  have bt2 : But (· = L.trail) H2 (upd H2 L.trail (.lst (ts ++ [v]))) := But.lst ht rfl
  have nt : ∀ a, L.own a ≠ .trail → ¬ a = L.trail := fun a z y => z (by rw [y]; exact h.rt)
  obtain ⟨ts0, e0, q0⟩ := h.tr
  have ets : ts0 = ts := by
    have z := s _ _ e0
    rw [ht] at z
    cases z
    rfl
  subst ets
  refine ⟨L.log P, ⟨?_, z1 h.rb (by intro q; cases q), bt.keep _ _ h.ev (nt L.each (by rw [h.re]; intro q; cases q)), z1 h.re (by intro q; cases q), ⟨_, upd_same, ?_⟩, z1 h.rt (by intro q; cases q), h.len, fun j p o e1 e2 => ?_, fun j p e1 a f => z1 (h.ro j p e1 a f) (by intro q; cases q), fun a z => ?_⟩,
    ⟨bt.mono fun a y => ?_, fun a z => ?_⟩, own⟩
  · obtain ⟨dx, e⟩ := h.ob
    exact ⟨dx, bt.keep _ _ e (nt _ (by rw [h.rb]; intro q; cases q))⟩
  · refine Paired.snoc (Paired.mapP q0 fun _ _ z => (z.keep bt fun a f => nt a (by rw [f]; intro q; cases q)).imp fun a f _ => z1 f (by intro q; cases q)) ?_
    refine (hP.keep bt2 fun a p y => ?_).imp fun a p _ => Lay.log_in p
    have y' : a = L.trail := y
    have q := (hF a p).1
    rw [y', e0] at q
    cases q
  · exact (h.od j p o e1 e2).keep bt fun a f => nt a (by rw [h.ro j p e1 a f]; intro q; cases q)
  · by_cases p : P a
    · obtain ⟨_, xs, e⟩ := hF a p
      by_cases y : a = L.trail
      · exact ⟨_, by rw [y]; exact upd_same⟩
      · exact ⟨_, bt2.keep _ _ e y⟩
    · rw [Lay.log_out p] at z
      by_cases y : a = L.trail
      · exact ⟨_, by rw [y]; exact upd_same⟩
      · obtain ⟨o, e⟩ := h.dom a z
        exact ⟨o, bt.keep _ _ e y⟩
  · have y' : a = L.trail := y
    show L.own a ≠ .no
    rw [y', h.rt]
    intro q
    cases q
  · by_cases p : P a
    · exact .inr (hF a p).1
    · rw [Lay.log_out p] at z
      exact .inl z
/-! ### do -/
theorem set_mem {α : Type} {l : List α} {i : Nat} {a x : α} (h : x ∈ l.set i a) : x ∈ l ∨ x = a := List.mem_or_eq_of_mem_set h
theorem firstErr_ok {ls : List Lt} (h : firstErr ls = none) : ∀ t, t ∈ ls → numOk t := by
  unfold firstErr at h
  rw [List.findSome?_eq_none_iff] at h
  intro t ht
  have q := h t ht
  unfold ltCheck at q
  split at q
  · split at q
    · assumption
    · cases q
  · cases q
theorem step_ok {B : Bk} {d : Dd} {es : List Od} {cs : List (Int × Int)} (ok : B.ok) (g : d.good) (e : step B.each d = .ok (es, cs)) : Bk.ok ⟨es, B.trail ++ [d]⟩ := by
  have good : ∀ x, x ∈ B.trail ++ [d] → x.good := fun x hx => by
    rcases List.mem_append.mp hx with h | h
    · exact ok.good x h
    · have z : x = d := by simpa using h
      rw [z]; exact g
  have len : (B.trail ++ [d]).length = B.trail.length + 1 := by simp
  have up : ∀ o, o ∈ B.each → o.marks.length ≤ (B.trail ++ [d]).length := fun o h => by
    have := ok.mks o h
    omega
  have mk : ∀ {o : Od} {w : Str} {c : Int}, o.marks.length ≤ B.trail.length → (o.mark w c).marks.length ≤ (B.trail ++ [d]).length := fun {o w c} h => by
    show (o.marks ++ [(w, c)]).length ≤ _
    rw [len]
    simp
    exact h
  cases d with
  | ord ls =>
    have e' : stepOrd B.each ls = .ok (es, cs) := e
    unfold stepOrd at e'
    cases q : ordErr B.each.length ls with
    | some x => rw [q] at e'; cases e'
    | none =>
      rw [q] at e'
      cases e'
      unfold ordErr at q
      split at q
      · cases q
      rename_i hl
      have hl2 : 1 ≤ ls.length ∧ ls.length ≤ 20 := Decidable.byContradiction hl
      cases f : firstErr ls with
      | some x => rw [f] at q; cases q
      | none =>
        rw [f] at q
        have q2 : (if B.each.length = 40 then some Er.fullBook else none) = none := q
        have n40 : ¬ B.each.length = 40 := fun z => by rw [if_pos z] at q2; cases q2
        have fw := ok.few
        refine ⟨fun o ho => ?_, by show (B.each ++ [_]).length ≤ 40; simp; omega, fun o ho => ?_, good⟩
        · rcases List.mem_append.mp ho with h | h
          · exact ok.od o h
          · have z : o = ⟨ls.map Lt.ln, 0, []⟩ := by simpa using h
            subst z
            refine ⟨fun l hl => ?_, by simpa using hl2.2⟩
            obtain ⟨t, ht, rfl⟩ := List.mem_map.mp hl
            have n := firstErr_ok f t ht
            exact n.2
        · rcases List.mem_append.mp ho with h | h
          · exact up o h
          · have z : o = ⟨ls.map Lt.ln, 0, []⟩ := by simpa using h
            subst z
            exact Nat.zero_le _
  | ln w o l n =>
    have e' : stepLn B.each w o l n = .ok (es, cs) := e
    unfold stepLn at e'
    rcases at_or B.each o with ⟨q, _⟩ | ⟨j, od, rfl, eo, q⟩
    · rw [q] at e'; cases e'
    · rw [q] at e'
      dsimp only at e'
      rcases at_or od.lines l with ⟨q, _⟩ | ⟨i, x, rfl, el, q⟩
      · rw [q] at e'; cases e'
      · rw [q] at e'
        dsimp only at e'
        split at e'
        · cases e'
        cases et : x.turn w n with
        | none => rw [et] at e'; cases e'
        | some x' =>
          rw [et] at e'
          cases e'
          have mo := List.mem_of_getElem? eo
          refine ⟨fun u hu => ?_, by show (B.each.set _ _).length ≤ 40; simpa using ok.few, fun u hu => ?_, good⟩
          · rcases set_mem hu with h | h
            · exact ok.od u h
            · rw [h]; exact ((ok.od od mo).line el et).mark
          · rcases set_mem hu with h | h
            · exact up u h
            · rw [h]; exact mk (ok.mks od mo)
  | mo w o n =>
    have e' : stepMo B.each w o n = .ok (es, cs) := e
    unfold stepMo at e'
    rcases at_or B.each o with ⟨q, _⟩ | ⟨j, od, rfl, eo, q⟩
    · rw [q] at e'; cases e'
    · rw [q] at e'
      dsimp only at e'
      have mo := List.mem_of_getElem? eo
      have fin : ∀ m c, Bk.ok ⟨B.each.set j (Od.mark (od.pay m) w c), B.trail ++ [.mo w j n]⟩ := fun m c => by
        refine ⟨fun u hu => ?_, by show (B.each.set _ _).length ≤ 40; simpa using ok.few, fun u hu => ?_, good⟩
        · rcases set_mem hu with h | h
          · exact ok.od u h
          · rw [h]; exact (ok.od od mo).pay.mark
        · rcases set_mem hu with h | h
          · exact up u h
          · rw [h]; exact mk (o := od.pay m) (ok.mks od mo)
      split at e'
      · cases e'
      split at e'
      · cases e'; exact fin _ _
      split at e'
      · cases e'
      · cases e'; exact fin _ _
  | mv o p n =>
    have e' : stepMv B.each o p n = .ok (es, cs) := e
    unfold stepMv at e'
    rcases at_or B.each o with ⟨q, _⟩ | ⟨i, a, rfl, ea, q⟩
    · rw [q] at e'; cases e'
    · rw [q] at e'
      dsimp only at e'
      rcases at_or B.each p with ⟨q, _⟩ | ⟨j, b, rfl, eb, q⟩
      · rw [q] at e'; cases e'
      · rw [q] at e'
        dsimp only at e'
        have ma := List.mem_of_getElem? ea
        have mb := List.mem_of_getElem? eb
        split at e'
        · cases e'
        split at e'
        · cases e'
        split at e'
        · cases e'
        cases e'
        refine ⟨fun u hu => ?_, by show ((B.each.set _ _).set _ _).length ≤ 40; simpa using ok.few, fun u hu => ?_, good⟩
        · rcases set_mem hu with h | h
          · rcases set_mem h with h | h
            · exact ok.od u h
            · rw [h]; exact (ok.od a ma).pay.mark
          · rw [h]; exact (ok.od b mb).pay.mark
        · rcases set_mem hu with h | h
          · rcases set_mem h with h | h
            · exact up u h
            · rw [h]; exact mk (o := a.pay _) (ok.mks a ma)
          · rw [h]; exact mk (o := b.pay _) (ok.mks b mb)
/-- what a deed ends in -/
def DoK (K : PySem.W.Frag) (b : Addr) (B : Bk) (L : Lay) (H : Hp) (d : Dd) (Q : VK) (E : XK) : Prop :=
  (∀ e, step B.each d = .error e → ∀ H', Same H H' → E (errV K e) none H') ∧
  ∀ es cs, step B.each d = .ok (es, cs) → ∀ r L' H', BookAt K H' b ⟨es, B.trail ++ [d]⟩ L' → Mod L L' H H' → Stay H H' → H r = none → L'.own r = .no → ChAt H' r cs → Q (.ref r) H'
def Dd.few : Dd → Prop
  | .ord ls => ls.length ≤ 100000 ∧ ∀ t, t ∈ ls → t.item.length ≤ 100000
  | _ => True
def spBookDo (K : PySem.W.Frag) : Sp := fun vs H Q E => ∃ (b : Addr) (B : Bk) (L : Lay) (v : V), vs = [.ref b, v] ∧ BookAt K H b B L ∧ B.ok ∧ B.trail.length < 100000 ∧
  ((∃ d : Dd, DdAt (fun a => L.own a = .no) H v d ∧ d.good ∧ d.few ∧ DoK K b B L H d Q E) ∨ (∃ t xs, v = .ref t ∧ H t = some (.tup xs) ∧ Bad xs ∧ E (errV K .noDeed) none H))
theorem len_BookDo {K : PySem.W.Frag} {vs : List V} {H : Hp} {Q : VK} {E : XK} (h : spBookDo K vs H Q E) : vs.length = 2 := by
  obtain ⟨_, _, _, _, rfl, _⟩ := h; rfl
theorem ok_BookDo {P : Program} {w : World} {K : PySem.W.Frag} {mg : Str → Option Value} {base : Heap} (T : Tx w K mg) : FnOk P w K mg base (L2.CX P w) 7 (He.fAd K dBookDo.at_) (fdO K dBookDo.at_) P_BookDo (spBookDo K) := by
  refine T.f_BookDo.ok sc_BookDo (fun vs H Q E h => len_BookDo h) (fun cdv A outer s H vs Q E hr h => ⟨_, ((pss_cons (ps_if (PW.pt (pw_or (pt_cmpR op_eq (pe_callB call_len_seq (by rfl) T.b_len (by decide +kernel) (pa_cons (pv 1) pa_nil)) pe_int (nomark _)) (pw_or (pt_cmpR (op_notIn_pt T.kd) (pe_ix ix_tup (pv 1) pe_int (fun _ _ => rfl)) (pe_glob rfl T.c_PARTS (v := .ref (He.ga K "PARTS")) rfl) (by rfl)) (pw_or1 (pt_cmpR op_ne (pe_callB call_len_seq (by rfl) T.b_len (by decide +kernel) (pa_cons (pv 1) pa_nil)) (pe_ix ix_kdict (pe_glob rfl T.c_PARTS (v := .ref (He.ga K "PARTS")) rfl) (pe_ix ix_tup (pv 1) pe_int (fun _ _ => rfl)) (fun _ _ => rfl)) (nomark _)))))) (pss_one (ps_raise rfl (takes_of rfl rfl rfl rfl) (pmk_own PySem.F.excBase_ValueError T.x_NoDeed.1 T.g_NoDeed T.x_NoDeed.2.1 (raises_own T.x_NoDeed.2.2.1 T.x_NoDeed.2.2.2) rfl))) pss_nil)
      (pss_cons (ps_if (pt_cmpR op_eq (pe_ix ix_tup (pv 1) pe_int (fun _ _ => rfl)) pe_str (nomark _)) (pss_one (ps_set (i := 2) sc_BookDo.nd rfl (Or.inl rfl) (pe_meth (pv 0) T.cl_Book T.m_Book_begin (ok_BookBegin T) (hr.mono (by decide)) T.b_BookBegin .nil (passes_call (takes_of rfl rfl rfl rfl) (fun _ _ _ _ h => h)) (pa_cons (pe_ix ix_tup (pv 1) pe_int (fun _ _ => rfl)) pa_nil)))) (pss_one (ps_if (pt_cmpR op_eq (pe_ix ix_tup (pv 1) pe_int (fun _ _ => rfl)) pe_str (nomark _)) (pss_one (ps_set (i := 2) sc_BookDo.nd rfl (Or.inl rfl) (pe_meth (pv 0) T.cl_Book T.m_Book_shift (ok_BookShift T) (hr.mono (by decide)) T.b_BookShift .nil (passes_call (takes_of rfl rfl rfl rfl) (fun _ _ _ _ h => h)) (pa_cons (pv 1) pa_nil)))) (pss_one (ps_set (i := 2) sc_BookDo.nd rfl (Or.inl rfl) (pe_meth (pv 0) T.cl_Book T.m_Book_one (ok_BookOne T) (hr.mono (by decide)) T.b_BookOne .nil (passes_call (takes_of rfl rfl rfl rfl) (fun _ _ _ _ h => h)) (pa_cons (pv 1) pa_nil)))))))
      (pss_cons (ps_expr (pe_bm PySem.F.plainAttrs_list PySem.F.slot_list_append PySem.F.type_list_append mt_append (pe_fld (pv 0) rfl) (pa_cons (pe_call (ok_Own T) (hr.mono (by decide)) rfl T.g_Own T.f_Own.kp T.b_Own .nil pass0 (pa_cons (pv 1) pa_nil)) pa_nil)))
      (pss_one (ps_ret (pv 2))))))), ?_⟩)
  obtain ⟨b, B, L, v, rfl, h, ok, hz, hd⟩ := h
  obtain ⟨dx, hb⟩ := h.ob
  rcases hd with ⟨d, hd, g, few, kE, k⟩ | ⟨t, xs, rfl, ht, bad, kE⟩
  rotate_left
  · walk_at "rd"
    refine ⟨_, _, rfl, .inr (SqT.of ht), ?_⟩
    walk_at "rd"
    rcases bad with rfl | ⟨w', r, rfl, np⟩
    · refine r_ity rfl ?_
      walk_at "rd"
      exact kE
    · refine r_itz (by simp; omega) ?_
      walk_at "rd"
      refine r_ixT (SqT.of ht) (atI_get (j := 0) rfl rfl) ?_
      walk_at "rd"
      rcases T.pt w' with ⟨n, e1, u, e2, ru⟩ | ⟨e1, e2⟩
      · refine ⟨w', _, rfl, rfl, e2, ?_⟩
        walk_at "rd"
        refine r_itnT ?_
        walk_at "rd"
        refine ⟨_, _, rfl, .inr (SqT.of ht), ?_⟩
        walk_at "rd"
        refine r_ixT (SqT.of ht) (atI_get (j := 0) rfl rfl) ?_
        obtain ⟨es, m, lk, lit, ky, low⟩ := T.kd
        refine ⟨_, w', .int n, rfl, rfl, ⟨es, m, u, lk, lit, e2, ru⟩, ?_⟩
        walk_at "rd"
        refine r_itn (fun c => ?_) (fun c => absurd (by rw [e1, c]) np)
        exact kE
      · refine ⟨w', _, rfl, rfl, e2, ?_⟩
        walk_at "rd"
        exact kE
  obtain ⟨t, w', r, rfl, ht, hp⟩ := dd_parts g hd
  walk_at "rd"
  refine ⟨_, _, rfl, .inr (SqT.of ht), ?_⟩
  walk_at "rd"
  refine r_itz (by simp; omega) ?_
  walk_at "rd"
  refine r_ixT (SqT.of ht) (atI_get (j := 0) rfl rfl) ?_
  walk_at "rd"
  rcases T.pt w' with ⟨n, e1, u, e2, ru⟩ | ⟨e1, e2⟩
  rotate_left
  · rw [hp] at e1; cases e1
  have en : n = (((V.str w' :: r).length : Nat) : Int) := by
    rw [hp] at e1
    exact (Option.some.inj e1).symm
  refine ⟨w', _, rfl, rfl, e2, ?_⟩
  walk_at "rd"
  refine r_itnT ?_
  walk_at "rd"
  refine ⟨_, _, rfl, .inr (SqT.of ht), ?_⟩
  walk_at "rd"
  refine r_ixT (SqT.of ht) (atI_get (j := 0) rfl rfl) ?_
  obtain ⟨es0, m0, lk, lit, ky, low⟩ := T.kd
  refine ⟨_, w', .int n, rfl, rfl, ⟨es0, m0, u, lk, lit, e2, ru⟩, ?_⟩
  walk_at "rd"
  refine r_itn (fun c => absurd en.symm c) (fun c => ?_)
  walk_at "rd"
  refine r_ixT (SqT.of ht) (atI_get (j := 0) rfl rfl) ?_
  walk_at "rd"
  have fin : ∀ (L1 : Lay) (H1 : Hp) (es : List Od) (cs : List (Int × Int)) (x : Addr), step B.each d = .ok (es, cs) → BookAt K H1 b ⟨es, B.trail⟩ L1 → Mod L L1 H H1 → Stay H H1 → H x = none → L1.own x = .no → ChAt H1 x cs → DdAt (fun _ => True) H1 (.ref t) d →
      tSeq (tDrop (tBM K "list" rAppend (tFld K (tVar 0) "trail") (tCons (tCall (spOwn K) [] E0 (tCons (tVar 1) tNil)) tNil))) (tRet (tVar 2)) { nx := fun _ H' => Q .non H', rt := Q } [some (.ref b), some (.ref t), some (.ref x)] H1 := by
    intro L1 H1 es cs x e1 h1 m1 st hx ox ch hd1
    obtain ⟨d1, hb1⟩ := h1.ob
    obtain ⟨ts, et, pt⟩ := h1.tr
    walk_at "rd"
    refine r_f hb1 T.cl_Book T.n_Book_trail (lk_Book_trail _ _) ?_
    refine r_tyL (SqL.of et) ?_
    walk_at "rd"
    refine ⟨.ref t, d, rfl, hd1, g, fun ls q => by subst q; exact few.1, fun v3 H2 s2 hd2 => ?_⟩
    walk_at "rd"
    refine r_app (s2 _ _ et) (by rw [pt.length]; exact sz5l hz) ?_
    walk_at "rd"
    obtain ⟨L', h', m', own⟩ := h1.log s2 hd2 (s2 _ _ et)
    obtain ⟨ys, ey, py⟩ := ch
    have x1 : H1 x ≠ none := by rw [ey]; intro q; cases q
    have xt : x ≠ L1.trail := fun z => by
      rw [z, h1.rt] at ox
      cases ox
    have st2 : Stay H1 (upd H2 L1.trail (.lst (ts ++ [v3]))) := fun a e => Same.free s2 (upd_none e).2
    refine k es cs e1 x L' _ h' (m1.trans m' st) (st.trans st2) hx ?_ ⟨ys, ?_, m'.but.prs py⟩
    · rw [own x x1]; exact ox
    · rw [upd_ne xt]
      exact s2 _ _ ey
  cases d with
  | ord ls =>
    obtain ⟨t2, l, xs, et, ht2, hl, nl, pt⟩ := hd
    cases et
    rw [ht] at ht2
    cases ht2
    refine r_ity rfl ?_
    walk_at "rd"
    refine r_m hb (no_Book_begin _ _) ?_
    walk_at "rd"
    refine r_ixT (SqT.of ht) (atI_get (j := 1) rfl rfl) ?_
    walk_at "rd"
    refine ⟨b, B, L, l, xs, ls, rfl, h, ok.few, hl, pt, by rw [pt.length]; exact few.1, few.2, fun e q => kE e ?_ _ (Same.refl _), fun q r L' H' h' m' st hr ro er => ?_⟩
    · show stepOrd B.each ls = _
      unfold stepOrd
      rw [q]
    · exact fin L' H' _ _ r (by show stepOrd B.each ls = _; unfold stepOrd; rw [q]) h' m' st hr ro ⟨_, er, .nil⟩ ⟨t, l, xs, rfl, m'.but.tup _ _ ht, m'.but.keep _ _ hl (fun z => z nl), trivial, m'.but.lts pt⟩
  | ln w2 o l n =>
    obtain ⟨t2, et, ht2⟩ := hd
    cases et
    rw [ht] at ht2
    cases ht2
    refine r_itz ((good_ord g).1 _ _ _ _ rfl) ?_
    walk_at "rd"
    refine r_ixT (SqT.of ht) (atI_get (j := 0) rfl rfl) ?_
    walk_at "rd"
    refine r_itz (by rcases g with rfl | rfl | rfl | rfl <;> decide +kernel) ?_
    walk_at "rd"
    refine r_m hb (no_Book_one _ _) ?_
    walk_at "rd"
    refine ⟨b, B, L, .ref t, .ln w' o l n, rfl, h, ok, hz, ⟨t, rfl, ht⟩, .inl ⟨_, _, _, _, rfl⟩, kE, fun es cs e r H' h' bt st hr ch => ?_⟩
    exact fin L H' es cs r e h' ⟨bt, fun a z => .inl z⟩ st hr (h.fresh hr) ch ⟨t, rfl, bt.tup _ _ ht⟩
  | mo w2 o n =>
    obtain ⟨t2, et, ht2⟩ := hd
    cases et
    rw [ht] at ht2
    cases ht2
    refine r_itz ((good_ord g).2 _ _ _ rfl) ?_
    walk_at "rd"
    refine r_ixT (SqT.of ht) (atI_get (j := 0) rfl rfl) ?_
    walk_at "rd"
    refine r_itz (by rcases g with rfl | rfl <;> decide +kernel) ?_
    walk_at "rd"
    refine r_m hb (no_Book_one _ _) ?_
    walk_at "rd"
    refine ⟨b, B, L, .ref t, .mo w' o n, rfl, h, ok, hz, ⟨t, rfl, ht⟩, .inr ⟨_, _, _, rfl⟩, kE, fun es cs e r H' h' bt st hr ch => ?_⟩
    exact fin L H' es cs r e h' ⟨bt, fun a z => .inl z⟩ st hr (h.fresh hr) ch ⟨t, rfl, bt.tup _ _ ht⟩
  | mv o p n =>
    obtain ⟨t2, et, ht2⟩ := hd
    cases et
    rw [ht] at ht2
    cases ht2
    refine r_itz (by decide +kernel) ?_
    walk_at "rd"
    refine r_ixT (SqT.of ht) (atI_get (j := 0) rfl rfl) ?_
    walk_at "rd"
    refine r_ity rfl ?_
    walk_at "rd"
    refine r_m hb (no_Book_shift _ _) ?_
    walk_at "rd"
    refine ⟨b, B, L, .ref t, o, p, n, rfl, h, ok, hz, ⟨t, rfl, ht⟩, kE, fun es cs e r H' h' bt st hr ch => ?_⟩
    exact fin L H' es cs r e h' ⟨bt, fun a z => .inl z⟩ st hr (h.fresh hr) ch ⟨t, rfl, bt.tup _ _ ht⟩

/-! ### a new book, what is told -/
def L0 (b e t : Addr) : Lay := ⟨e, t, [], fun a => if a = b then .book else if a = e then .each else if a = t then .trail else .no⟩
def spBookInit (K : PySem.W.Frag) : Sp := fun vs H Q _ => ∃ b dx, vs = [.ref b] ∧ H b = some (.ins (He.ga K "Book") dx []) ∧ ∀ L H', BookAt K H' b ⟨[], []⟩ L → But (· = b) H H' → (∀ a, L.own a ≠ .no → a = b ∨ H a = none) → Stay H H' → Q .non H'
theorem len_BookInit {K : PySem.W.Frag} {vs : List V} {H : Hp} {Q : VK} {E : XK} (h : spBookInit K vs H Q E) : vs.length = 1 := by
  obtain ⟨_, _, rfl, _⟩ := h; rfl
theorem ok_BookInit {P : Program} {w : World} {K : PySem.W.Frag} {mg : Str → Option Value} {base : Heap} (T : Tx w K mg) : FnOk P w K mg base CX0 1 (He.fAd K dBookInit.at_) (fdO K dBookInit.at_) P_BookInit (spBookInit K) := by
  refine T.f_BookInit.ok sc_BookInit (fun vs H Q E h => len_BookInit h) (fun cdv A outer s H vs Q E hr h => ⟨_, PSs.nox ((pss_cons (ps_fld (pv 0) (pe_lst pa_nil) rfl)
      (pss_one (ps_fld (pv 0) (pe_lst pa_nil) rfl)))), ?_⟩)
  obtain ⟨b, dx, rfl, hb, k⟩ := h
  walk_at "rd"
  refine r_mk (by simp) fun e he => ?_
  have be : b ≠ e := ne_of_none hb he
  walk_at "rd"
  refine r_sf (by rw [upd_ne be]; exact hb) T.cl_Book T.n_Book_each (by walk_at "pf") (by simp) ?_
  walk_at "rd"
  refine r_mk (by simp) fun t ht => ?_
  obtain ⟨tb, ht1⟩ := upd_none ht
  obtain ⟨te, ht2⟩ := upd_none ht1
  walk_at "rd"
  refine r_sf (by rw [upd_ne (Ne.symm tb)]; exact upd_same) T.cl_Book T.n_Book_trail (by walk_at "pf") (by simp) ?_
  have c1 : But (· = b) H (upd H e (.lst [])) := But.of (same_upd he)
  have c2 : But (· = b) H (upd (upd H e (.lst [])) b (.ins (He.ga K "Book") dx [("each", .ref e)])) := c1.trans (But.ins (C := He.ga K "Book") (dx := dx) (fs := []) (by rw [upd_ne be]; exact hb) rfl)
  have c3 := c2.trans (But.of (S := (· = b)) (same_upd (o := .lst []) ht))
  have c4 := c3.trans (But.ins (S := (· = b)) (o := .ins (He.ga K "Book") dx [("each", .ref e), ("trail", .ref t)]) (C := He.ga K "Book") (dx := dx) (fs := [("each", .ref e)]) (by rw [upd_ne (Ne.symm tb)]; exact upd_same) rfl)
  have ob : (L0 b e t).own b = .book := by simp [L0]
  have oe : (L0 b e t).own e = .each := by simp [L0, Ne.symm be]
  have ot : (L0 b e t).own t = .trail := by simp [L0, tb, te]
  have on : ∀ a, (L0 b e t).own a ≠ .no → a = b ∨ a = e ∨ a = t := fun a z => by
    by_cases h1 : a = b
    · exact .inl h1
    by_cases h2 : a = e
    · exact .inr (.inl h2)
    by_cases h3 : a = t
    · exact .inr (.inr h3)
    exact absurd (by simp [L0, h1, h2, h3]) z
  have ve : upd (upd (upd (upd H e (.lst [])) b (.ins (He.ga K "Book") dx [("each", .ref e)])) t (.lst [])) b (.ins (He.ga K "Book") dx [("each", .ref e), ("trail", .ref t)]) e = some (.lst []) := by
    rw [upd_ne (Ne.symm be), upd_ne (Ne.symm te), upd_ne (Ne.symm be)]; exact upd_same
  have vt : upd (upd (upd (upd H e (.lst [])) b (.ins (He.ga K "Book") dx [("each", .ref e)])) t (.lst [])) b (.ins (He.ga K "Book") dx [("each", .ref e), ("trail", .ref t)]) t = some (.lst []) := by
    rw [upd_ne tb]; exact upd_same
  refine k (L0 b e t) _ ⟨⟨dx, upd_same⟩, ob, ve, oe, ⟨[], vt, .nil⟩, ot, rfl, fun j p o e1 => by simp [L0] at e1, fun j p e1 => by simp [L0] at e1, fun a z => ?_⟩ c4 (fun a z => ?_) (fun a z => ?_)
  · rcases on a z with h | h | h
    · exact ⟨_, by rw [h]; exact upd_same⟩
    · exact ⟨_, by rw [h]; exact ve⟩
    · exact ⟨_, by rw [h]; exact vt⟩
  · rcases on a z with h | h | h
    · exact .inl h
    · exact .inr (by rw [h]; exact he)
    · exact .inr (by rw [h]; exact ht2)
  · obtain ⟨_, z1⟩ := upd_none z
    obtain ⟨_, z2⟩ := upd_none z1
    obtain ⟨_, z3⟩ := upd_none z2
    exact (upd_none z3).2
theorem ok0 : Bk.ok ⟨[], []⟩ := ⟨by simp, by simp, by simp, by simp⟩
/-- a new book holds nothing of what stood -/
theorem made_own {L : Lay} {H : Hp} {b dx : Addr} {u v : HO} (own : ∀ a, L.own a ≠ .no → a = b ∨ upd (upd H dx u) b v a = none) (nb : H b = none) : ∀ a, L.own a ≠ .no → H a = none := fun a z => by
  rcases own a z with e | e
  · rw [e]; exact nb
  · exact (upd_none (upd_none e).2).2
theorem made_no {L : Lay} {H : Hp} (own : ∀ a, L.own a ≠ .no → H a = none) {a : Addr} {u : HO} (e : H a = some u) : L.own a = .no := by
  by_cases z : L.own a = .no
  · exact z
  · rw [own a z] at e; cases e
theorem made_same {H : Hp} {b dx : Addr} {u v : HO} (nb : H b = none) (nd : H dx = none) : Same H (upd (upd H dx u) b v) := fun x w e => by
  rw [upd_ne (ne_of_none e nb), upd_ne (ne_of_none e nd)]
  exact e
theorem But.made {H H1 H2 : Hp} {b : Addr} (s : Same H H1) (bt : But (· = b) H1 H2) (nb : H b = none) : Same H H2 := fun x w e => bt.keep _ _ (s _ _ e) (ne_of_none e nb)
/-- what the law holds stays as it is -/
theorem Mod.no {L L' : Lay} {H H' : Hp} (m : Mod L L' H H') {a : Addr} {u : HO} (e : H a = some u) (n : L.own a = .no) : H' a = some u ∧ L'.own a = .no := by
  refine ⟨m.but.keep _ _ e fun z => z n, ?_⟩
  by_cases z : L'.own a = .no
  · exact z
  · rcases m.grow a z with q | q
    · exact absurd n q
    · rw [e] at q; cases q
def spBookOrders (K : PySem.W.Frag) : Sp := fun vs H Q _ => ∃ (b : Addr) (B : Bk) (L : Lay), vs = [.ref b] ∧ BookAt K H b B L ∧ Q (.int B.each.length) H
theorem len_BookOrders {K : PySem.W.Frag} {vs : List V} {H : Hp} {Q : VK} {E : XK} (h : spBookOrders K vs H Q E) : vs.length = 1 := by
  obtain ⟨_, _, _, rfl, _⟩ := h; rfl
def TdAt (H : Hp) (v : V) (l : Ln) : Prop := ∃ t, v = .ref t ∧ H t = some (.tup (lnTold l))
/-- what is told of an order -/
def AskK (K : PySem.W.Frag) (B : Bk) (n : Int) (H : Hp) (E : XK) (P : Od → Prop) : Prop := (¬ (0 ≤ n ∧ n < B.each.length) → E (errV K .noOrder) none H) ∧ ∀ (j : Nat) o, n = (j : Int) → B.each[j]? = some o → P o
def spAsk (K : PySem.W.Frag) (P : Od → Hp → VK → Prop) : Sp := fun vs H Q E => ∃ (b : Addr) (B : Bk) (L : Lay) (n : Int), vs = [.ref b, .int n] ∧ BookAt K H b B L ∧ B.ok ∧ AskK K B n H E fun o => P o H Q
theorem len_ask {K : PySem.W.Frag} {P : Od → Hp → VK → Prop} {vs : List V} {H : Hp} {Q : VK} {E : XK} (h : spAsk K P vs H Q E) : vs.length = 2 := by
  obtain ⟨_, _, _, _, rfl, _⟩ := h; rfl
abbrev spBookTold (K : PySem.W.Frag) := spAsk K fun o H Q => ∀ r H' xs, Same H H' → H r = none → H' r = some (.lst xs) → Paired (TdAt H') xs o.lines → Q (.ref r) H'
abbrev spBookPaid (K : PySem.W.Frag) := spAsk K fun o H Q => Q (.int o.money) H
abbrev spBookOwed (K : PySem.W.Frag) := spAsk K fun o H Q => ∀ H', Same H H' → Q (.int o.owing) H'
abbrev spBookRows (K : PySem.W.Frag) := spAsk K fun o H Q => ∀ r H' xs, Same H H' → H r = none → H' r = some (.lst xs) → Paired (MkAt H') xs o.marks → Q (.ref r) H'
abbrev len_BookTold {K : PySem.W.Frag} {vs : List V} {H : Hp} {Q : VK} {E : XK} (h : spBookTold K vs H Q E) := len_ask h
abbrev len_BookPaid {K : PySem.W.Frag} {vs : List V} {H : Hp} {Q : VK} {E : XK} (h : spBookPaid K vs H Q E) := len_ask h
abbrev len_BookOwed {K : PySem.W.Frag} {vs : List V} {H : Hp} {Q : VK} {E : XK} (h : spBookOwed K vs H Q E) := len_ask h
abbrev len_BookRows {K : PySem.W.Frag} {vs : List V} {H : Hp} {Q : VK} {E : XK} (h : spBookRows K vs H Q E) := len_ask h
theorem ok_BookOrders {P : Program} {w : World} {K : PySem.W.Frag} {mg : Str → Option Value} {base : Heap} (T : Tx w K mg) : FnOk P w K mg base CX0 1 (He.fAd K dBookOrders.at_) (fdO K dBookOrders.at_) P_BookOrders (spBookOrders K) := by
  refine T.f_BookOrders.ok sc_BookOrders (fun vs H Q E h => len_BookOrders h) (fun cdv A outer s H vs Q E hr h => ⟨_, PSs.nox ((pss_one (ps_ret (pe_callB call_len_seq (by rfl) T.b_len (by decide +kernel) (pa_cons (pe_fld (pv 0) rfl) pa_nil))))), ?_⟩)
  obtain ⟨b, B, L, rfl, h, k⟩ := h
  obtain ⟨dx, hb⟩ := h.ob
  walk_at "rd"
  refine r_f hb T.cl_Book T.n_Book_each (lk_Book_each _ _) ?_
  walk_at "rd"
  refine ⟨_, _, rfl, .inl (SqL.of h.ev), ?_⟩
  rw [List.length_map, h.len]
  exact k
theorem ok_BookTold {P : Program} {w : World} {K : PySem.W.Frag} {mg : Str → Option Value} {base : Heap} (T : Tx w K mg) : FnOk P w K mg base (L2.CX P w) 2 (He.fAd K dBookTold.at_) (fdO K dBookTold.at_) P_BookTold (spBookTold K) := by
  refine T.f_BookTold.ok sc_BookTold (fun vs H Q E h => len_BookTold h) (fun cdv A outer s H vs Q E hr h => ⟨_, ((pss_one (ps_ret (pe_lc (own := [("line", 2)]) (g := gName 2) (tt := tYes) rfl sc_BookTold.nd (pi_list (pe_fld (pe_meth (pv 0) T.cl_Book T.m_Book_order_of (ok_BookOrderOf T) (hr.mono (by decide)) T.b_BookOrderOf .nil (passes_call (takes_of rfl rfl rfl rfl) (fun _ _ _ _ h => h)) (pa_cons (pv 1) pa_nil)) rfl)) (blkOk_by (N := N_BookTold) (sc := defScope sBookTold) (by decide +kernel)) (fun _ _ _ _ _ => pg_name (i := 2) sc_BookTold.nd rfl (Or.inl rfl)) (fun _ _ _ _ _ => pts_nil) (fun _ _ _ _ _ => (pe_meth0 (pv 2) T.cl_Line T.m_Line_numbers (ok_LineNumbers T) (hr.mono (by decide)) T.b_LineNumbers .nil pass0)))))), ?_⟩)
  obtain ⟨b, B, L, n, rfl, h, ok, k1, k2⟩ := h
  obtain ⟨dx, hb⟩ := h.ob
  walk_at "rd"
  refine r_m hb (no_Book_order_of _ _) ?_
  walk_at "rd"
  refine ⟨b, B, L, n, rfl, h, k1, fun j p o ej ep eo => ?_⟩
  have O := h.od j p o ep eo
  have oko := ok.od o (List.mem_of_getElem? eo)
  obtain ⟨dy, ho⟩ := O.ob
  refine r_f ho T.cl_Order T.n_Order_lines (lk_Order_lines _ _ _) ?_
  refine lcp_rel (R := TdAt) (zs := o.lines) (SqL.of O.ll) (by simp [O.len]) (by have := oko.few; simp [O.len]; omega) (fun H H' v z ⟨t, e, q⟩ st => ⟨t, e, st _ _ q⟩) ?_ ?_
  · intro i x l H' W ex el s q
    obtain ⟨a, ea, rfl⟩ := ref_at ex
    obtain ⟨dl, hl⟩ := O.ln i a l ea el
    walk_at "rd"
    refine r_m (s _ _ hl) (no_Line_numbers l) ?_
    walk_at "rd"
    exact ⟨a, l, rfl, ⟨dl, s _ _ hl⟩, fun t ht => q _ _ (same_upd ht) ⟨t, rfl, upd_same⟩⟩
  · intro D H' acc hD s e pr
    exact k2 j o ej eo D H' acc s hD e pr
theorem ok_BookPaid {P : Program} {w : World} {K : PySem.W.Frag} {mg : Str → Option Value} {base : Heap} (T : Tx w K mg) : FnOk P w K mg base (L2.CX P w) 2 (He.fAd K dBookPaid.at_) (fdO K dBookPaid.at_) P_BookPaid (spBookPaid K) := by
  refine T.f_BookPaid.ok sc_BookPaid (fun vs H Q E h => len_BookPaid h) (fun cdv A outer s H vs Q E hr h => ⟨_, ((pss_one (ps_ret (pe_fld (pe_meth (pv 0) T.cl_Book T.m_Book_order_of (ok_BookOrderOf T) (hr.mono (by decide)) T.b_BookOrderOf .nil (passes_call (takes_of rfl rfl rfl rfl) (fun _ _ _ _ h => h)) (pa_cons (pv 1) pa_nil)) rfl)))), ?_⟩)
  obtain ⟨b, B, L, n, rfl, h, ok, k1, k2⟩ := h
  obtain ⟨dx, hb⟩ := h.ob
  walk_at "rd"
  refine r_m hb (no_Book_order_of _ _) ?_
  walk_at "rd"
  refine ⟨b, B, L, n, rfl, h, k1, fun j p o ej ep eo => ?_⟩
  obtain ⟨dy, ho⟩ := (h.od j p o ep eo).ob
  exact r_f ho T.cl_Order T.n_Order_money (lk_Order_money _ _ _) (k2 j o ej eo)
theorem ok_BookOwed {P : Program} {w : World} {K : PySem.W.Frag} {mg : Str → Option Value} {base : Heap} (T : Tx w K mg) : FnOk P w K mg base (L2.CX P w) 5 (He.fAd K dBookOwed.at_) (fdO K dBookOwed.at_) P_BookOwed (spBookOwed K) := by
  refine T.f_BookOwed.ok sc_BookOwed (fun vs H Q E h => len_BookOwed h) (fun cdv A outer s H vs Q E hr h => ⟨_, ((pss_one (ps_ret (pe_meth0 (pe_meth (pv 0) T.cl_Book T.m_Book_order_of (ok_BookOrderOf T) (hr.mono (by decide)) T.b_BookOrderOf .nil (passes_call (takes_of rfl rfl rfl rfl) (fun _ _ _ _ h => h)) (pa_cons (pv 1) pa_nil)) T.cl_Order T.m_Order_owing (ok_OrderOwing T) (hr.mono (by decide)) T.b_OrderOwing .nil pass0)))), ?_⟩)
  obtain ⟨b, B, L, n, rfl, h, ok, k1, k2⟩ := h
  obtain ⟨dx, hb⟩ := h.ob
  walk_at "rd"
  refine r_m hb (no_Book_order_of _ _) ?_
  walk_at "rd"
  refine ⟨b, B, L, n, rfl, h, k1, fun j p o ej ep eo => ?_⟩
  have O := h.od j p o ep eo
  obtain ⟨dy, ho⟩ := O.ob
  refine r_m ho (no_Order_owing _ _ _) ?_
  walk_at "rd"
  exact ⟨p, o, rfl, O, ok.od o (List.mem_of_getElem? eo), k2 j o ej eo⟩
theorem ok_BookRows {P : Program} {w : World} {K : PySem.W.Frag} {mg : Str → Option Value} {base : Heap} (T : Tx w K mg) : FnOk P w K mg base (L2.CX P w) 2 (He.fAd K dBookRows.at_) (fdO K dBookRows.at_) P_BookRows (spBookRows K) := by
  refine T.f_BookRows.ok sc_BookRows (fun vs H Q E h => len_BookRows h) (fun cdv A outer s H vs Q E hr h => ⟨_, ((pss_one (ps_ret (pe_callTy call_list_of (by rfl) T.b_list (by decide +kernel) (pa_cons (pe_fld (pe_meth (pv 0) T.cl_Book T.m_Book_order_of (ok_BookOrderOf T) (hr.mono (by decide)) T.b_BookOrderOf .nil (passes_call (takes_of rfl rfl rfl rfl) (fun _ _ _ _ h => h)) (pa_cons (pv 1) pa_nil)) rfl) pa_nil))))), ?_⟩)
  obtain ⟨b, B, L, n, rfl, h, ok, k1, k2⟩ := h
  obtain ⟨dx, hb⟩ := h.ob
  walk_at "rd"
  refine r_m hb (no_Book_order_of _ _) ?_
  walk_at "rd"
  refine ⟨b, B, L, n, rfl, h, k1, fun j p o ej ep eo => ?_⟩
  have O := h.od j p o ep eo
  obtain ⟨dy, ho⟩ := O.ob
  obtain ⟨ts, et, pt⟩ := O.lm
  refine r_f ho T.cl_Order T.n_Order_marks (lk_Order_marks _ _ _) ?_
  walk_at "rd"
  refine ⟨_, _, rfl, .inl (SqL.of et), fun r hr => ?_⟩
  exact k2 j o ej eo r _ ts (same_upd hr) hr upd_same ((But.of (S := fun _ => False) (same_upd hr)).mks pt)
/-- what stood at H stands, and the book holds nothing of it -/
structure New (L : Lay) (H H' : Hp) : Prop where
  same : Same H H'
  own : ∀ a, L.own a ≠ .no → H a = none
theorem New.ext {L : Lay} {H H1 H2 : Hp} (n : New L H H1) (s : Same H1 H2) : New L H H2 := ⟨n.same.trans s, n.own⟩
theorem New.no {L : Lay} {H H1 : Hp} (n : New L H H1) {a : Addr} {u : HO} (e : H a = some u) : L.own a = .no := made_no n.own e
theorem New.mod {L L' : Lay} {H H1 H2 : Hp} (n : New L H H1) (m : Mod L L' H1 H2) : New L' H H2 where
  same := fun a o e => (m.no (n.same _ _ e) (n.no e)).1
  own := fun a z => by
    rcases m.grow a z with q | q
    · exact n.own a q
    · exact Same.free n.same q

/-! ### deeds done anew -/
def replay : List Od → List Dd → Option (List Od)
  | os, [] => some os
  | os, d :: ds => match step os d with
    | .ok (es, _) => replay es ds
    | .error _ => none
theorem replay_app {os : List Od} {ds es : List Dd} : replay os (ds ++ es) = (replay os ds).bind fun o => replay o es := by
  induction ds generalizing os with
  | nil => rfl
  | cons d ds ih =>
    show (match step os d with | .ok (es', _) => replay es' (ds ++ es) | .error _ => none) = (match step os d with | .ok (es', _) => replay es' ds | .error _ => none).bind _
    cases step os d with
    | error e => rfl
    | ok r => exact ih
theorem replay_one {os : List Od} {d : Dd} {es : List Od} {cs : List (Int × Int)} (e : step os d = .ok (es, cs)) : replay os [d] = some es := by
  show (match step os d with | .ok (es', _) => replay es' [] | .error _ => none) = _
  rw [e]; rfl
theorem replay_snoc {os o1 es : List Od} {ds : List Dd} {d : Dd} {cs : List (Int × Int)} (h : replay os ds = some o1) (e : step o1 d = .ok (es, cs)) : replay os (ds ++ [d]) = some es := by
  rw [replay_app, h]
  exact replay_one e
theorem replay_cut {os es : List Od} {ds : List Dd} {d : Dd} (h : replay os (ds ++ [d]) = some es) : ∃ o1 cs, replay os ds = some o1 ∧ step o1 d = .ok (es, cs) := by
  rw [replay_app] at h
  cases e : replay os ds with
  | none => rw [e] at h; cases h
  | some o1 =>
    rw [e] at h
    have h' : (match step o1 d with | .ok (es', _) => replay es' [] | .error _ => none) = some es := h
    cases q : step o1 d with
    | error x => rw [q] at h'; cases h'
    | ok r =>
      obtain ⟨e1, cs⟩ := r
      rw [q] at h'
      cases h'
      exact ⟨o1, cs, rfl, q⟩
theorem replay_at {os es : List Od} {ds : List Dd} (h : replay os ds = some es) {i : Nat} {d : Dd} (hd : ds[i]? = some d) : ∃ o1 o2 cs, replay os (ds.take i) = some o1 ∧ step o1 d = .ok (o2, cs) ∧ replay os (ds.take (i + 1)) = some o2 := by
  have e1 : ds = ds.take i ++ [d] ++ ds.drop (i + 1) := by
    have hi := (List.getElem?_eq_some_iff.mp hd).1
    have q : ds[i] = d := by
      rw [List.getElem?_eq_getElem hi] at hd
      exact Option.some.inj hd
    rw [← q, List.append_assoc]
    show _ = _ ++ (ds[i] :: ds.drop (i + 1))
    rw [← List.drop_eq_getElem_cons hi, List.take_append_drop]
  have e2 : ds.take (i + 1) = ds.take i ++ [d] := by
    rw [List.take_succ, hd]; rfl
  rw [e1, replay_app] at h
  cases q : replay os (ds.take i ++ [d]) with
  | none => rw [q] at h; cases h
  | some o2 =>
    obtain ⟨o1, cs, h1, h2⟩ := replay_cut q
    exact ⟨o1, o2, cs, h1, h2, by rw [e2]; exact q⟩
theorem replay_ok {es : List Od} {ds : List Dd} (h : replay [] ds = some es) (g : ∀ d, d ∈ ds → d.good) : Bk.ok ⟨es, ds⟩ := by
  have all : ∀ (n : Nat) (ds : List Dd) (es : List Od), ds.length = n → replay [] ds = some es → (∀ d, d ∈ ds → d.good) → Bk.ok ⟨es, ds⟩ := by
    intro n
    induction n with
    | zero =>
      intro ds es hl h g
      have : ds = [] := List.length_eq_zero_iff.mp hl
      subst this
      cases h
      exact ok0
    | succ n ih =>
      intro ds es hl h g
      obtain ⟨ds', d, rfl⟩ : ∃ ds' d, ds = ds' ++ [d] := by
        rcases List.eq_nil_or_concat ds with z | ⟨L, b, z⟩
        · rw [z] at hl; simp at hl
        · exact ⟨L, b, by rw [z, List.concat_eq_append]⟩
      obtain ⟨o1, cs, h1, h2⟩ := replay_cut h
      have k := ih ds' o1 (by simpa using hl) h1 fun x hx => g x (List.mem_append_left _ hx)
      exact step_ok k (g d (by simp)) h2
  exact all _ ds es rfl h g
theorem step_few {os es : List Od} {d : Dd} {cs : List (Int × Int)} (e : step os d = .ok (es, cs)) : d.few := by
  cases d with
  | ord ls =>
    have e' : stepOrd os ls = .ok (es, cs) := e
    unfold stepOrd at e'
    cases q : ordErr os.length ls with
    | some x => rw [q] at e'; cases e'
    | none =>
      unfold ordErr at q
      split at q
      · cases q
      rename_i hl
      have hl2 : 1 ≤ ls.length ∧ ls.length ≤ 20 := Decidable.byContradiction hl
      cases f : firstErr ls with
      | some x => rw [f] at q; cases q
      | none =>
        refine ⟨by omega, fun t ht => ?_⟩
        unfold firstErr at f
        rw [List.findSome?_eq_none_iff] at f
        have q := f t ht
        unfold ltCheck at q
        split at q
        · rename_i c
          unfold isItem at c
          have c2 := (Bool.and_eq_true_iff.mp c).2
          have := (of_decide_eq_true c2).2
          omega
        · cases q
  | _ => trivial
def Hist (B : Bk) : Prop := replay [] B.trail = some B.each

/-! ### covers matched with debts -/
theorem lcp_frange {tt : TT} {te : TE} {j : Nat} {σ : L2.St} {H1 : Hp} {Q : VK} {n : Nat} (p : Nat → Bool) (hz : n ≤ 100000)
    (ht : ∀ (i : Nat) (H' : Hp) (QB : Bool → Hp → Prop), i < n → Same H1 H' → QB (p i) H' → tt ((wipe σ [j]).set j (some (.int (i : Int)))) H' QB)
    (he : ∀ (i : Nat) (H' : Hp) (W : VK), i < n → Same H1 H' → W (.int (i : Int)) H' → te ((wipe σ [j]).set j (some (.int (i : Int)))) H' W)
    (k : ∀ (D : Addr) (H' : Hp), H1 D = none → Same H1 H' → H' D = some (.lst (((List.range n).filter p).map fun z : Nat => V.int (z : Int))) → Q (.ref D) H') :
    ∃ m : Int, [V.int (n : Int)] = [V.int m] ∧ -(2 ^ 62) ≤ m ∧ m < 2 ^ 62 ∧ Lcs (Itr 0 m.toNat) (gName j) tt te [j] σ H1 Q := by
  refine ⟨n, rfl, by omega, by omega, fun D hD => ?_⟩
  refine lc_range (lo := 0) (n := n) (fun i H' => Same H1 H' ∧ H' D = some (.lst (((List.range i).filter p).map fun z : Nat => V.int (z : Int)))) ⟨same_upd hD, upd_same⟩ ?_ ?_
  · rintro i H' hi ⟨s, e⟩
    refine ⟨wipe1, ?_⟩
    rw [Int.zero_add]
    refine ht i _ _ hi s ?_
    cases c : p i with
    | true =>
      rw [if_pos rfl]
      refine he i _ _ hi s ⟨_, e, ?_, ?_, ?_⟩
      · rw [List.length_map]
        have := List.length_filter_le p (List.range i)
        rw [List.length_range] at this
        refine sz5l ?_
        omega
      · exact fun b o q => by
          rw [upd_ne (ne_of_none q hD)]
          exact s _ _ q
      · rw [upd_same, List.range_succ, List.filter_append, List.map_append]
        simp [c]
    | false =>
      rw [if_neg (by decide)]
      refine ⟨s, ?_⟩
      rw [e, List.range_succ, List.filter_append]
      simp [c]
  · rintro H' ⟨s, e⟩
    exact k D H' hD s e
def lo (x y : Int) : Int := if y < x then y else x
def mt : List (Nat × Int) → List (Nat × Int) → List (Nat × Nat × Int)
  | (d, x) :: ds, (v, y) :: vs => (d, v, lo x y) :: mt (if lo x y = x then ds else (d, x - lo x y) :: ds) (if lo x y = y then vs else (v, y - lo x y) :: vs)
  | [], _ => []
  | _ :: _, [] => []
termination_by D V => D.length + V.length
decreasing_by
  have h : lo x y = x ∨ lo x y = y := by unfold lo; split <;> simp
  rcases h with h | h <;> (try split) <;> (try split) <;> first | contradiction | (simp only [List.length_cons]; omega)
theorem mt_cons {d v : Nat} {x y : Int} {ds vs : List (Nat × Int)} : mt ((d, x) :: ds) ((v, y) :: vs) = (d, v, lo x y) :: mt (if lo x y = x then ds else (d, x - lo x y) :: ds) (if lo x y = y then vs else (v, y - lo x y) :: vs) := by rw [mt]
theorem mt_nil {V : List (Nat × Int)} : mt [] V = [] := by rw [mt]
theorem mt_nil' {D : List (Nat × Int)} : mt D [] = [] := by
  cases D with
  | nil => exact mt_nil
  | cons a r => rw [mt]
def gOf (ns : List Int) (k : Nat) : Int := ns.getD k 0
def hOf (ns : List Int) (k : Nat) : Int := -(ns.getD k 0)
def debtsOf (ns : List Int) : List Nat := (List.range ns.length).filter fun k => decide (gOf ns k > 0)
def coversOf (ns : List Int) : List Nat := (List.range ns.length).filter fun k => decide (gOf ns k < 0)
def rem (g : Nat → Int) (l : List Nat) (got : Int) : List (Nat × Int) := match l with
  | [] => []
  | d :: ds => (d, g d - got) :: ds.map fun k => (k, g k)
theorem rem_0 {g : Nat → Int} {l : List Nat} : rem g l 0 = l.map fun k => (k, g k) := by
  cases l with
  | nil => rfl
  | cons d ds =>
    show (d, g d - 0) :: _ = _
    rw [Int.sub_zero]
    rfl
def matchedF (ns : List Int) : List (Nat × Nat × Int) := mt (rem (gOf ns) (debtsOf ns) 0) (rem (hOf ns) (coversOf ns) 0)
def tRow (t : Nat × Nat × Int) : List V := [.int t.1, .int t.2.1, .int t.2.2]
def spMatched (K : PySem.W.Frag) : Sp := fun vs H Q _ => ∃ (a : Addr) (ns : List Int), vs = [.ref a] ∧ SqL K H a (ns.map V.int) ∧ ns.length ≤ 10000 ∧
  ∀ r xs H', Same H H' → H r = none → H' r = some (.lst xs) → Paired (TupAt H') xs ((matchedF ns).map tRow) → (matchedF ns).length ≤ 2 * ns.length → Q (.ref r) H'
theorem len_Matched {K : PySem.W.Frag} {vs : List V} {H : Hp} {Q : VK} {E : XK} (h : spMatched K vs H Q E) : vs.length = 1 := by
  obtain ⟨_, _, rfl, _⟩ := h; rfl
theorem g_at {ns : List Int} {k : Nat} (h : k < ns.length) : (ns.map V.int)[k]? = some (.int (gOf ns k)) := by
  rw [List.getElem?_map, List.getElem?_eq_getElem h]
  show some (V.int _) = _
  unfold gOf
  rw [List.getD_eq_getElem?_getD, List.getElem?_eq_getElem h]
  rfl
theorem debt_lt {ns : List Int} {d : Nat} (h : d ∈ debtsOf ns) : d < ns.length ∧ gOf ns d > 0 := by
  unfold debtsOf at h
  obtain ⟨a, b⟩ := List.mem_filter.mp h
  exact ⟨List.mem_range.mp a, of_decide_eq_true b⟩
theorem cover_lt {ns : List Int} {d : Nat} (h : d ∈ coversOf ns) : d < ns.length ∧ gOf ns d < 0 := by
  unfold coversOf at h
  obtain ⟨a, b⟩ := List.mem_filter.mp h
  exact ⟨List.mem_range.mp a, of_decide_eq_true b⟩
theorem both_len {ns : List Int} : (debtsOf ns).length + (coversOf ns).length ≤ 2 * ns.length := by
  have a := List.length_filter_le (fun k => decide (gOf ns k > 0)) (List.range ns.length)
  have b := List.length_filter_le (fun k => decide (gOf ns k < 0)) (List.range ns.length)
  rw [List.length_range] at a b
  unfold debtsOf coversOf
  omega
def MW (c D1 V1 F1 : Addr) (ns : List Int) (H3 : Hp) (m : Nat) (σ : L2.St) (H' : Hp) : Prop := ∃ (i j : Nat) (got used : Int) (v9 v10 v11 : Option V) (xs : List V) (done : List (Nat × Nat × Int)),
  σ = [some (.ref c), none, some (.ref D1), some (.ref V1), some (.ref F1), some (.int (i : Int)), some (.int (j : Int)), some (.int got), some (.int used), v9, v10, v11] ∧ m = (debtsOf ns).length + (coversOf ns).length - i - j ∧
  i ≤ (debtsOf ns).length ∧ j ≤ (coversOf ns).length ∧ H' F1 = some (.lst xs) ∧ Paired (TupAt H') xs (done.map tRow) ∧
  matchedF ns = done ++ mt (rem (gOf ns) ((debtsOf ns).drop i) got) (rem (hOf ns) ((coversOf ns).drop j) used) ∧ done.length ≤ i + j ∧ But (· = F1) H3 H'
theorem drop_cons {l : List Nat} {i d : Nat} (h : l[i]? = some d) : l.drop i = d :: l.drop (i + 1) := by
  have hi := (List.getElem?_eq_some_iff.mp h).1
  rw [List.drop_eq_getElem_cons hi]
  have : l[i] = d := by
    rw [List.getElem?_eq_getElem hi] at h
    exact Option.some.inj h
  rw [this]
theorem rem_if {g : Nat → Int} {d : Nat} {ds : List Nat} {got p : Int} : (if p = g d - got then ds.map (fun k => (k, g k)) else (d, g d - got - p) :: ds.map (fun k => (k, g k))) = if p = g d - got then rem g ds 0 else rem g (d :: ds) (got + p) := by
  split
  · rw [rem_0]
  · show _ = (d, g d - (got + p)) :: _
    rw [show g d - got - p = g d - (got + p) by omega]
theorem ok_Matched {P : Program} {w : World} {K : PySem.W.Frag} {mg : Str → Option Value} {base : Heap} (T : Tx w K mg) : FnOk P w K mg base CX0 1 (He.fAd K dMatched.at_) (fdO K dMatched.at_) P_Matched (spMatched K) := by
  refine T.f_Matched.ok sc_Matched (fun vs H Q E h => len_Matched h) (fun cdv A outer s H vs Q E hr h => ⟨_, PSs.nox ((pss_cons (ps_setLc (i := 2) (own := [("k", 1)]) (g := gName 1) rfl sc_Matched.nd rfl rfl (sw_true rfl rfl rfl (by decide +kernel)) (pi_range1 (by rfl) T.b_range (pa_cons (pe_callB call_len_seq (by rfl) T.b_len (by decide +kernel) (pa_cons (pv 0) pa_nil)) pa_nil)) (blkOk_by (N := N_Matched) (sc := defScope sMatched) (by decide +kernel)) (fun _ _ _ _ _ => pg_name (i := 1) sc_Matched.nd rfl (Or.inl rfl)) (fun _ _ _ _ _ => (pts_one (pt_cmpR op_gt (pe_ix (ix_listK (K := K) rfl) (pv 0) (pv 1) (fun _ _ => rfl)) pe_int (nomark _)))) (fun _ _ _ _ _ => (pv 1)))
      (pss_cons (ps_setLc (i := 3) (own := [("k", 1)]) (g := gName 1) rfl sc_Matched.nd rfl rfl (sw_true rfl rfl rfl (by decide +kernel)) (pi_range1 (by rfl) T.b_range (pa_cons (pe_callB call_len_seq (by rfl) T.b_len (by decide +kernel) (pa_cons (pv 0) pa_nil)) pa_nil)) (blkOk_by (N := N_Matched) (sc := defScope sMatched) (by decide +kernel)) (fun _ _ _ _ _ => pg_name (i := 1) sc_Matched.nd rfl (Or.inl rfl)) (fun _ _ _ _ _ => (pts_one (pt_cmpR op_lt (pe_ix (ix_listK (K := K) rfl) (pv 0) (pv 1) (fun _ _ => rfl)) pe_int (nomark _)))) (fun _ _ _ _ _ => (pv 1)))
      (pss_cons (ps_set (i := 4) sc_Matched.nd rfl (Or.inl rfl) (pe_lst pa_nil))
      (pss_cons (ps_set (i := 5) sc_Matched.nd rfl (Or.inl rfl) pe_int)
      (pss_cons (ps_set (i := 6) sc_Matched.nd rfl (Or.inl rfl) pe_int)
      (pss_cons (ps_set (i := 7) sc_Matched.nd rfl (Or.inl rfl) pe_int)
      (pss_cons (ps_set (i := 8) sc_Matched.nd rfl (Or.inl rfl) pe_int)
      (pss_cons (ps_while PassesOwn.never (PW.pt (pw_and (pt_cmpR op_lt (pv 5) (pe_callB call_len_seq (by rfl) T.b_len (by decide +kernel) (pa_cons (pv 2) pa_nil)) (nomark _)) (pw_and1 (pt_cmpR op_lt (pv 6) (pe_callB call_len_seq (by rfl) T.b_len (by decide +kernel) (pa_cons (pv 3) pa_nil)) (nomark _))))) (pss_cons (ps_set (i := 9) sc_Matched.nd rfl (Or.inl rfl) (pe_op op_sub (pe_ix ix_list (pv 0) (pe_ix ix_list (pv 2) (pv 5) (fun _ _ => rfl)) (fun _ _ => rfl)) (pv 7)))
      (pss_cons (ps_set (i := 10) sc_Matched.nd rfl (Or.inl rfl) (pe_op op_sub (pe_un un_neg (pe_ix ix_list (pv 0) (pe_ix ix_list (pv 3) (pv 6) (fun _ _ => rfl)) (fun _ _ => rfl))) (pv 8)))
      (pss_cons (ps_set (i := 11) sc_Matched.nd rfl (Or.inl rfl) (pe_callB (call_min2 rfl) (by rfl) T.b_min (by decide +kernel) (pa_cons (pv 9) (pa_cons (pv 10) pa_nil))))
      (pss_cons (ps_expr (pe_bm PySem.F.plainAttrs_list PySem.F.slot_list_append PySem.F.type_list_append mt_append (pv 4) (pa_cons (pe_tup (pa_cons (pe_ix ix_list (pv 2) (pv 5) (fun _ _ => rfl)) (pa_cons (pe_ix ix_list (pv 3) (pv 6) (fun _ _ => rfl)) (pa_cons (pv 11) pa_nil)))) pa_nil)))
      (pss_cons (ps_set (i := 7) sc_Matched.nd rfl (Or.inl rfl) (pe_op op_add (pv 7) (pv 11)))
      (pss_cons (ps_set (i := 8) sc_Matched.nd rfl (Or.inl rfl) (pe_op op_add (pv 8) (pv 11)))
      (pss_cons (ps_if (pt_cmpR op_eq (pv 11) (pv 9) (nomark _)) (pss_cons (ps_set (i := 5) sc_Matched.nd rfl (Or.inl rfl) (pe_op op_add (pv 5) pe_int))
      (pss_one (ps_set (i := 7) sc_Matched.nd rfl (Or.inl rfl) pe_int))) pss_nil)
      (pss_one (ps_if (pt_cmpR op_eq (pv 11) (pv 10) (nomark _)) (pss_cons (ps_set (i := 6) sc_Matched.nd rfl (Or.inl rfl) (pe_op op_add (pv 6) pe_int))
      (pss_one (ps_set (i := 8) sc_Matched.nd rfl (Or.inl rfl) pe_int))) pss_nil))))))))))
      (pss_one (ps_ret (pv 4)))))))))))), ?_⟩)
  obtain ⟨c, ns, rfl, hc, hz, k⟩ := h
  walk_at "rd"
  refine ⟨c, _, rfl, .inl hc, ?_⟩
  rw [List.length_map]
  refine lcp_frange (fun z => decide (gOf ns z > 0)) (by omega) (fun i H' QB hi s q => ?_) (fun i H' W hi s q => ?_) fun D1 H1 hD1 s1 eD1 => ?_
  · walk_at "rd"
    refine r_ixL (s.seq hc) (atI_get rfl (g_at hi)) ?_
    walk_at "rd"
    exact q
  · walk_at "rd"
    exact q
  walk_at "rd"
  refine ⟨c, _, rfl, .inl (s1.seq hc), ?_⟩
  rw [List.length_map]
  refine lcp_frange (fun z => decide (gOf ns z < 0)) (by omega) (fun i H' QB hi s q => ?_) (fun i H' W hi s q => ?_) fun V1 H2 hV1 s2 eV1 => ?_
  · walk_at "rd"
    refine r_ixL (s.seq (s1.seq hc)) (atI_get rfl (g_at hi)) ?_
    walk_at "rd"
    exact q
  · walk_at "rd"
    exact q
  walk_at "rd"
  refine r_mk (by simp) fun F1 hF1 => ?_
  have s3 := same_upd (o := .lst []) hF1
  have eF : upd H2 F1 (.lst []) F1 = some (.lst []) := upd_same
  have nF : H F1 = none := Same.free s1 (Same.free s2 hF1)
  have dF : D1 ≠ F1 := ne_of_none (s2 _ _ eD1) hF1
  have vF : V1 ≠ F1 := ne_of_none eV1 hF1
  have eD3 := s3 _ _ (s2 _ _ eD1)
  have eV3 := s3 _ _ eV1
  have s03 := (s1.trans s2).trans s3
  revert s03 eF eD3 eV3
  generalize upd H2 F1 (.lst []) = H3
  intro eF eD3 eV3 s03
  have eD3' : H3 D1 = some (.lst ((debtsOf ns).map fun z : Nat => V.int (z : Int))) := eD3
  have eV3' : H3 V1 = some (.lst ((coversOf ns).map fun z : Nat => V.int (z : Int))) := eV3
  have fin : ∀ H' : Hp, But (· = F1) H3 H' → Same H H' := fun H' b x o e => b.keep _ _ (s03 _ _ e) (ne_of_none e nF)
  walk_at "rd"
  refine ⟨MW c D1 V1 F1 ns H3, ⟨_, 0, 0, 0, 0, none, none, none, [], [], rfl, rfl, Nat.zero_le _, Nat.zero_le _, eF, .nil, rfl, Nat.le_refl _, But.refl⟩, ?_⟩
  rintro m σ H4 ⟨i, j, got, used, v9, v10, v11, xs, done, rfl, rfl, hi, hj, eF4, pF4, em, dl, b4⟩
  have eD4 := b4.keep _ _ eD3' dF
  have eV4 := b4.keep _ _ eV3' vF
  have hc4 : SqL K H4 c (ns.map V.int) := (fin H4 b4).seq hc
  have bl := both_len (ns := ns)
  have stop : (i = (debtsOf ns).length ∨ j = (coversOf ns).length) → Q (.ref F1) H4 := fun z => by
    have e0 : mt (rem (gOf ns) ((debtsOf ns).drop i) got) (rem (hOf ns) ((coversOf ns).drop j) used) = [] := by
      rcases z with z | z
      · rw [z, List.drop_length]; exact mt_nil
      · rw [z, List.drop_length]; exact mt_nil'
    rw [e0, List.append_nil] at em
    refine k F1 xs H4 (fin H4 b4) nF eF4 ?_ ?_
    · rw [em]; exact pF4
    · rw [em]; omega
  walk_at "rd"
  refine ⟨D1, _, rfl, .inl (SqL.of eD4), ?_⟩
  walk_at "rd"
  rw [List.length_map]
  refine r_itd (fun c1 => ?_) (fun c1 => ?_)
  rotate_left
  · walk_at "rd"
    exact stop (.inl (by omega))
  walk_at "rd"
  refine ⟨V1, _, rfl, .inl (SqL.of eV4), ?_⟩
  walk_at "rd"
  rw [List.length_map]
  refine r_itd (fun c2 => ?_) (fun c2 => ?_)
  rotate_left
  · walk_at "rd"
    exact stop (.inr (by omega))
  refine ⟨fun σ' H' => ∃ m', m' < (debtsOf ns).length + (coversOf ns).length - i - j ∧ MW c D1 V1 F1 ns H3 m' σ' H', fun _ _ z => z, ?_⟩
  have hi2 : i < (debtsOf ns).length := by omega
  have hj2 : j < (coversOf ns).length := by omega
  obtain ⟨d, ed⟩ : ∃ d, (debtsOf ns)[i]? = some d := ⟨_, List.getElem?_eq_getElem hi2⟩
  obtain ⟨v, ev⟩ : ∃ v, (coversOf ns)[j]? = some v := ⟨_, List.getElem?_eq_getElem hj2⟩
  have hd := (debt_lt (List.mem_of_getElem? ed)).1
  have hv := (cover_lt (List.mem_of_getElem? ev)).1
  have gd : ((debtsOf ns).map fun z : Nat => V.int (z : Int))[i]? = some (.int (d : Int)) := by rw [List.getElem?_map, ed]; rfl
  have gv : ((coversOf ns).map fun z : Nat => V.int (z : Int))[j]? = some (.int (v : Int)) := by rw [List.getElem?_map, ev]; rfl
  walk_at "rd"
  refine r_ixL (SqL.of eD4) (atI_get rfl gd) ?_
  refine r_ixL hc4 (atI_get rfl (g_at hd)) ?_
  walk_at "rd"
  refine r_ixL (SqL.of eV4) (atI_get rfl gv) ?_
  refine r_ixL hc4 (atI_get rfl (g_at hv)) ?_
  walk_at "rd"
  refine ⟨_, _, rfl, ?_⟩
  walk_at "rd"
  refine r_tyL (SqL.of eF4) ?_
  walk_at "rd"
  refine r_ixL (SqL.of eD4) (atI_get rfl gd) ?_
  walk_at "rd"
  refine r_ixL (SqL.of eV4) (atI_get rfl gv) ?_
  walk_at "rd"
  refine r_mk (by simp) fun t ht => ?_
  obtain ⟨x, ex⟩ : ∃ x, x = gOf ns d - got := ⟨_, rfl⟩
  obtain ⟨y, ey⟩ : ∃ y, y = hOf ns v - used := ⟨_, rfl⟩
  have ey' : -gOf ns v - used = y := ey.symm
  rw [← ex, ey']
  change tNil _ (upd H4 t (.tup [.int (d : Int), .int (v : Int), .int (lo x y)])) _
  have s5 := same_upd (o := .tup [.int (d : Int), .int (v : Int), .int (lo x y)]) ht
  walk_at "rd"
  refine r_app (s5 _ _ eF4) (by rw [pF4.length, List.length_map]; refine sz5l ?_; omega) ?_
  have b6 := (But.of (S := (· = F1)) s5).trans (But.lst (o := .lst (xs ++ [.ref t])) (s5 _ _ eF4) rfl)
  have tF : t ≠ F1 := fun z => by rw [z, eF4] at ht; cases ht
  have e6 : upd (upd H4 t (.tup [.int (d : Int), .int (v : Int), .int (lo x y)])) F1 (.lst (xs ++ [.ref t])) F1 = some (.lst (xs ++ [.ref t])) := upd_same
  have p6 : Paired (TupAt (upd (upd H4 t (.tup [.int (d : Int), .int (v : Int), .int (lo x y)])) F1 (.lst (xs ++ [.ref t])))) (xs ++ [.ref t]) ((done ++ [(d, v, lo x y)]).map tRow) := by
    rw [List.map_append]
    exact Paired.snoc (Paired.mapP pF4 fun _ _ ⟨t, e, q⟩ => ⟨t, e, b6.tup _ _ q⟩) ⟨t, rfl, by rw [upd_ne tF]; exact upd_same⟩
  have em6 : matchedF ns = (done ++ [(d, v, lo x y)]) ++ mt (if lo x y = x then rem (gOf ns) ((debtsOf ns).drop (i + 1)) 0 else rem (gOf ns) ((debtsOf ns).drop i) (got + lo x y)) (if lo x y = y then rem (hOf ns) ((coversOf ns).drop (j + 1)) 0 else rem (hOf ns) ((coversOf ns).drop j) (used + lo x y)) := by
    rw [em, drop_cons ed, drop_cons ev]
    show done ++ mt ((d, gOf ns d - got) :: _) ((v, hOf ns v - used) :: _) = _
    rw [← ex, ← ey, mt_cons, List.append_assoc]
    have r1 := rem_if (g := gOf ns) (d := d) (ds := (debtsOf ns).drop (i + 1)) (got := got) (p := lo x y)
    have r2 := rem_if (g := hOf ns) (d := v) (ds := (coversOf ns).drop (j + 1)) (got := used) (p := lo x y)
    rw [← ex] at r1
    rw [← ey] at r2
    rw [r1, r2]
    rfl
  have b06 := b4.trans b6
  have lox : lo x y = x ∨ lo x y = y := by unfold lo; split <;> simp
  revert e6 p6 b06
  generalize upd (upd H4 t (.tup [.int (d : Int), .int (v : Int), .int (lo x y)])) F1 (.lst (xs ++ [.ref t])) = H6
  intro e6 p6 b06
  have ld : (done ++ [(d, v, lo x y)]).length = done.length + 1 := by simp
  walk_at "rd"
  change if decide (lo x y = x) = true then _ else _
  refine r_itd (fun c3 => ?_) (fun c3 => ?_)
  · rw [if_pos c3] at em6
    walk_at "rd"
    refine r_itd (fun c4 => ?_) (fun c4 => ?_)
    · have c4' : lo x y = y := c4
      rw [if_pos c4'] at em6
      walk_at "rd"
      exact ⟨_, by omega, i + 1, j + 1, 0, 0, _, _, _, _, _, rfl, rfl, by omega, by omega, e6, p6, em6, by omega, b06⟩
    · have c4' : ¬ lo x y = y := c4
      rw [if_neg c4'] at em6
      walk_at "rd"
      exact ⟨_, by omega, i + 1, j, 0, _, _, _, _, _, _, rfl, rfl, by omega, by omega, e6, p6, em6, by omega, b06⟩
  · rw [if_neg c3] at em6
    walk_at "rd"
    refine r_itd (fun c4 => ?_) (fun c4 => ?_)
    · have c4' : lo x y = y := c4
      rw [if_pos c4'] at em6
      walk_at "rd"
      exact ⟨_, by omega, i, j + 1, _, 0, _, _, _, _, _, rfl, rfl, by omega, by omega, e6, p6, em6, by omega, b06⟩
    · exact absurd lox fun z => z.elim c3 c4

/-! ### what is asked of triples -/
theorem pr_ex {α β : Type} {F : α → β → Prop} : ∀ {l₁ : List α} {l₂ : List β} {i : Nat} {a : α}, Paired F l₁ l₂ → l₁[i]? = some a → ∃ b, l₂[i]? = some b ∧ F a b
  | _, _, _, _, .nil, h => by simp at h
  | _, _, 0, _, .cons r _, h => by
    cases h
    exact ⟨_, rfl, r⟩
  | _, _, i + 1, _, .cons _ t, h => pr_ex (i := i) t h
theorem lcp_fm {K : PySem.W.Frag} {tt : TT} {te : TE} {j : Nat} {σ : L2.St} {H1 : Hp} {Q : VK} {a : Addr} {ns : List Int} (p : Int → Bool) (f : Int → Int) (hs : SqL K H1 a (ns.map V.int)) (hz : ns.length ≤ 90000)
    (ht : ∀ (n : Int) (H' : Hp) (QB : Bool → Hp → Prop), Same H1 H' → QB (p n) H' → tt ((wipe σ [j]).set j (some (.int n))) H' QB)
    (he : ∀ (n : Int) (H' : Hp) (W : VK), Same H1 H' → W (.int (f n)) H' → te ((wipe σ [j]).set j (some (.int n))) H' W)
    (k : ∀ (D : Addr) (H' : Hp), H1 D = none → Same H1 H' → H' D = some (.lst (((ns.filter p).map f).map V.int)) → Q (.ref D) H') :
    ∃ a', V.ref a = V.ref a' ∧ (∃ xs, SqL K H1 a' xs) ∧ Lcs (Itl K a') (gName j) tt te [j] σ H1 Q := by
  refine ⟨a, rfl, ⟨_, hs⟩, fun D hD => ?_⟩
  refine lc_list (K := K) (a := a) (xs := ns.map V.int) (fun i H' => Same H1 H' ∧ H' D = some (.lst ((((ns.take i).filter p).map f).map V.int))) ⟨same_upd hD, upd_same⟩ (fun i H' _ q => q.1.seq hs) ?_ ?_
  · rintro i x H' hi ⟨s, e⟩
    rw [List.getElem?_map] at hi
    cases en : ns[i]? with
    | none => rw [en] at hi; cases hi
    | some n =>
      rw [en] at hi
      cases hi
      refine ⟨wipe1, ht n _ _ s ?_⟩
      rw [take_snoc en, List.filter_append, List.map_append, List.map_append]
      cases c : p n with
      | true =>
        rw [if_pos rfl]
        refine he n _ _ s ⟨_, e, ?_, ?_, ?_⟩
        · rw [List.length_map, List.length_map]
          have := List.length_filter_le p (ns.take i)
          rw [List.length_take] at this
          refine sz5l ?_
          omega
        · exact fun b o q => by
            rw [upd_ne (ne_of_none q hD)]
            exact s _ _ q
        · rw [upd_same]
          simp [c]
      | false =>
        rw [if_neg (by decide)]
        refine ⟨s, ?_⟩
        rw [e]
        simp [c]
  · rintro H' ⟨s, e⟩
    rw [List.length_map, List.take_length] at e
    exact k D H' hD s e
def upP (P : List Int) (d : Nat) (p : Int) : List Int := P.set d (gOf P d + p)
theorem g_set {P : List Int} {d k : Nat} {p : Int} (h : d < P.length) : gOf (upP P d p) k = if k = d then gOf P d + p else gOf P k := by
  unfold upP gOf
  rw [List.getD_eq_getElem?_getD]
  by_cases c : k = d
  · subst c
    rw [if_pos rfl, List.getElem?_set_self h]
    rfl
  · rw [if_neg c, List.getElem?_set_ne (Ne.symm c), ← List.getD_eq_getElem?_getD]
theorem upP_len {P : List Int} {d : Nat} {p : Int} : (upP P d p).length = P.length := by
  unfold upP; simp
def Well (ns : List Int) : List Int → Int × Int → List (Nat × Nat × Int) → Prop
  | _, _, [] => True
  | P, last, (d, v, p) :: F => (d < ns.length ∧ v < ns.length ∧ gOf ns d > 0 ∧ gOf ns v < 0 ∧ p > 0) ∧ ¬ ((d : Int), (v : Int)) = last ∧ (∀ k, k < d → gOf ns k > 0 → gOf P k = gOf ns k) ∧ (∀ k, k < v → gOf ns k < 0 → gOf P k = -gOf ns k) ∧
      (gOf P d + p ≤ gOf ns d ∧ gOf P v + p ≤ -gOf ns v) ∧ Well ns (upP (upP P d p) v p) ((d : Int), (v : Int)) F
structure Half (g : Nat → Int) (len : Nat) (P : List Int) (D : List (Nat × Int)) : Prop where
  srt : D.Pairwise fun a b => a.1 < b.1
  mem : ∀ a, a ∈ D → a.1 < len ∧ a.2 > 0 ∧ g a.1 > 0 ∧ gOf P a.1 + a.2 = g a.1
  all : ∀ k, k < len → g k > 0 → (∃ x, (k, x) ∈ D) ∨ gOf P k = g k
theorem Half.step {g : Nat → Int} {len : Nat} {P P1 : List Int} {d : Nat} {x p : Int} {ds : List (Nat × Int)} (h : Half g len P ((d, x) :: ds)) (e1 : gOf P1 d = gOf P d + p) (e2 : ∀ k, g k > 0 → k ≠ d → gOf P1 k = gOf P k) (hp : p ≤ x) :
    Half g len P1 (if p = x then ds else (d, x - p) :: ds) := by
  obtain ⟨s1, s2⟩ := List.pairwise_cons.mp h.srt
  obtain ⟨m1, m2, m3, m4⟩ := h.mem (d, x) List.mem_cons_self
  have old : ∀ a, a ∈ ds → a.1 < len ∧ a.2 > 0 ∧ g a.1 > 0 ∧ gOf P1 a.1 + a.2 = g a.1 := fun a ha => by
    obtain ⟨n1, n2, n3, n4⟩ := h.mem a (List.mem_cons_of_mem _ ha)
    have : d < a.1 := s1 a ha
    rw [e2 a.1 n3 (by omega)]
    exact ⟨n1, n2, n3, n4⟩
  have dd : g d > 0 ∧ gOf P d + x = g d := ⟨m3, m4⟩
  by_cases c : p = x
  · rw [if_pos c]
    refine ⟨s2, old, fun k hk hg => ?_⟩
    by_cases z : k = d
    · refine .inr ?_
      rw [z, e1]
      omega
    · rcases h.all k hk hg with ⟨y, q⟩ | q
      · rcases List.mem_cons.mp q with w | w
        · cases w; exact absurd rfl z
        · exact .inl ⟨y, w⟩
      · exact .inr (by rw [e2 k hg z]; exact q)
  · rw [if_neg c]
    refine ⟨List.pairwise_cons.mpr ⟨s1, s2⟩, fun a ha => ?_, fun k hk hg => ?_⟩
    · rcases List.mem_cons.mp ha with w | w
      · rw [w]
        refine ⟨m1, ?_, m3, ?_⟩
        · show x - p > 0
          omega
        · show gOf P1 d + (x - p) = g d
          rw [e1]
          omega
      · exact old a w
    · by_cases z : k = d
      · exact .inl ⟨x - p, by rw [z]; exact List.mem_cons_self⟩
      · rcases h.all k hk hg with ⟨y, q⟩ | q
        · rcases List.mem_cons.mp q with w | w
          · cases w; exact absurd rfl z
          · exact .inl ⟨y, List.mem_cons_of_mem _ w⟩
        · exact .inr (by rw [e2 k hg z]; exact q)
theorem Half.ahead {g : Nat → Int} {len : Nat} {P : List Int} {d : Nat} {x : Int} {ds : List (Nat × Int)} (h : Half g len P ((d, x) :: ds)) : ∀ k, k < d → g k > 0 → gOf P k = g k := fun k hk hg => by
  obtain ⟨s1, s2⟩ := List.pairwise_cons.mp h.srt
  have m1 := (h.mem (d, x) List.mem_cons_self).1
  have m1' : d < len := m1
  rcases h.all k (by omega) hg with ⟨y, q⟩ | q
  · rcases List.mem_cons.mp q with w | w
    · cases w; omega
    · have := s1 _ w
      have : d < k := this
      omega
  · exact q
theorem lo_pos {x y : Int} (hx : x > 0) (hy : y > 0) : lo x y > 0 ∧ lo x y ≤ x ∧ lo x y ≤ y := by
  unfold lo; split <;> omega
theorem mt_well {ns : List Int} : ∀ (n : Nat) (D V : List (Nat × Int)) (P : List Int) (last : Int × Int), D.length + V.length ≤ n → P.length = ns.length → Half (gOf ns) ns.length P D → Half (hOf ns) ns.length P V →
    (∀ d x ds v y vs, D = (d, x) :: ds → V = (v, y) :: vs → ¬ ((d : Int), (v : Int)) = last) → Well ns P last (mt D V)
  | _, [], V, P, last, _, _, _, _, _ => by rw [mt_nil]; trivial
  | _, a :: ds, [], P, last, _, _, _, _, _ => by rw [mt_nil']; trivial
  | 0, a :: ds, b :: vs, P, last, hn, _, _, _, _ => by simp at hn
  | n + 1, (d, x) :: ds, (v, y) :: vs, P, last, hn, hP, hD, hV, hl => by
    obtain ⟨d1, d2, d3, d4⟩ := hD.mem (d, x) List.mem_cons_self
    obtain ⟨v1, v2, v3, v4⟩ := hV.mem (v, y) List.mem_cons_self
    have d1' : d < ns.length := d1
    have v1' : v < ns.length := v1
    have d3' : gOf ns d > 0 := d3
    have d4' : gOf P d + x = gOf ns d := d4
    have v4' : gOf P v + y = hOf ns v := v4
    have v3' : -gOf ns v > 0 := v3
    have hv : hOf ns v = -gOf ns v := rfl
    have ndv : d ≠ v := fun z => by rw [z] at d3'; omega
    have d2' : x > 0 := d2
    have v2' : y > 0 := v2
    obtain ⟨p0, px, py⟩ := lo_pos d2' v2'
    rw [mt_cons]
    have P1d : gOf (upP (upP P d (lo x y)) v (lo x y)) d = gOf P d + lo x y := by
      rw [g_set (by rw [upP_len, hP]; exact v1'), if_neg ndv, g_set (by rw [hP]; exact d1'), if_pos rfl]
    have P1v : gOf (upP (upP P d (lo x y)) v (lo x y)) v = gOf P v + lo x y := by
      rw [g_set (by rw [upP_len, hP]; exact v1'), if_pos rfl, g_set (by rw [hP]; exact d1'), if_neg (Ne.symm ndv)]
    have P1o : ∀ k, k ≠ d → k ≠ v → gOf (upP (upP P d (lo x y)) v (lo x y)) k = gOf P k := fun k h1 h2 => by
      rw [g_set (by rw [upP_len, hP]; exact v1'), if_neg h2, g_set (by rw [hP]; exact d1'), if_neg h1]
    have lox : lo x y = x ∨ lo x y = y := by unfold lo; split <;> simp
    refine ⟨⟨d1', v1', d3', by omega, p0⟩, hl _ _ _ _ _ _ rfl rfl, hD.ahead, fun k hk hg => ?_, ⟨by omega, by omega⟩, mt_well n _ _ _ _ ?_ (by rw [upP_len, upP_len, hP]) (hD.step P1d (fun k hg n => P1o k n fun z => by rw [z] at hg; omega) px) (hV.step P1v (fun k hg n => P1o k (fun z => ?_) n) py) ?_⟩
    · exact hV.ahead k hk (by show -(gOf ns k) > 0; omega)
    · simp only [List.length_cons] at hn
      rcases lox with h | h <;> (try split) <;> (try split) <;> first | contradiction | ((try simp only [List.length_cons]); omega)
    · have hg' : -gOf ns k > 0 := hg
      rw [z] at hg'
      omega
    · intro d' x' ds' v' y' vs' eD eV z
      injection z with z1 z2
      have z1' : d' = d := by omega
      have z2' : v' = v := by omega
      subst z1' z2'
      rcases lox with h | h
      · rw [if_pos h] at eD
        have := (List.pairwise_cons.mp hD.srt).1 (d', x') (by rw [eD]; exact List.mem_cons_self)
        have : d' < d' := this
        omega
      · rw [if_pos h] at eV
        have := (List.pairwise_cons.mp hV.srt).1 (v', y') (by rw [eV]; exact List.mem_cons_self)
        have : v' < v' := this
        omega
theorem pos_sum {D : List (Nat × Int)} (h : ∀ a, a ∈ D → a.2 > 0) : 0 ≤ (D.map (·.2)).sum := by
  induction D with
  | nil => exact Int.le_refl _
  | cons a r ih =>
    rw [List.map_cons, List.sum_cons]
    have h1 := h a List.mem_cons_self
    have h2 := ih fun b hb => h b (List.mem_cons_of_mem _ hb)
    omega
theorem mt_sum : ∀ (n : Nat) (D V : List (Nat × Int)), D.length + V.length ≤ n → (∀ a, a ∈ D → a.2 > 0) → (∀ a, a ∈ V → a.2 > 0) → ((mt D V).map (·.2.2)).sum = lo (D.map (·.2)).sum (V.map (·.2)).sum
  | _, [], V, _, _, hV => by
    rw [mt_nil]
    have := pos_sum hV
    show (0 : Int) = lo 0 _
    unfold lo
    split <;> omega
  | _, a :: ds, [], _, hD, _ => by
    rw [mt_nil']
    have := pos_sum hD
    show (0 : Int) = lo _ 0
    unfold lo
    split <;> omega
  | 0, a :: ds, b :: vs, hn, _, _ => by simp at hn
  | n + 1, (d, x) :: ds, (v, y) :: vs, hn, hD, hV => by
    have hx : x > 0 := hD (d, x) List.mem_cons_self
    have hy : y > 0 := hV (v, y) List.mem_cons_self
    obtain ⟨p0, px, py⟩ := lo_pos hx hy
    have lox : lo x y = x ∨ lo x y = y := by unfold lo; split <;> simp
    rw [mt_cons, List.map_cons, List.sum_cons, mt_sum n]
    · have eD : ((if lo x y = x then ds else (d, x - lo x y) :: ds).map (·.2)).sum = (((d, x) :: ds).map (·.2)).sum - lo x y := by
        split
        · rename_i c
          rw [List.map_cons, List.sum_cons]
          show _ = x + _ - _
          omega
        · rw [List.map_cons, List.map_cons, List.sum_cons, List.sum_cons]
          show x - lo x y + _ = x + _ - _
          omega
      have eV : ((if lo x y = y then vs else (v, y - lo x y) :: vs).map (·.2)).sum = (((v, y) :: vs).map (·.2)).sum - lo x y := by
        split
        · rename_i c
          rw [List.map_cons, List.sum_cons]
          show _ = y + _ - _
          omega
        · rw [List.map_cons, List.map_cons, List.sum_cons, List.sum_cons]
          show y - lo x y + _ = y + _ - _
          omega
      rw [eD, eV]
      generalize (((d, x) :: ds).map (·.2)).sum = a
      generalize (((v, y) :: vs).map (·.2)).sum = b
      show lo x y + lo (a - lo x y) (b - lo x y) = lo a b
      generalize lo x y = p
      unfold lo
      split <;> split <;> omega
    · simp only [List.length_cons] at hn
      rcases lox with h | h <;> (try split) <;> (try split) <;> first | contradiction | ((try simp only [List.length_cons]); omega)
    · intro a ha
      split at ha
      · exact hD a (List.mem_cons_of_mem _ ha)
      · rcases List.mem_cons.mp ha with z | z
        · rw [z]; show x - lo x y > 0; omega
        · exact hD a (List.mem_cons_of_mem _ z)
    · intro a ha
      split at ha
      · exact hV a (List.mem_cons_of_mem _ ha)
      · rcases List.mem_cons.mp ha with z | z
        · rw [z]; show y - lo x y > 0; omega
        · exact hV a (List.mem_cons_of_mem _ z)
theorem g_zero {n k : Nat} : gOf (List.replicate n 0) k = 0 := by
  unfold gOf
  rw [List.getD_eq_getElem?_getD, List.getElem?_replicate]
  split <;> rfl
theorem half0 {ns : List Int} {g : Nat → Int} {l : List Nat} (hl : l = (List.range ns.length).filter fun k => decide (g k > 0)) : Half g ns.length (List.replicate ns.length 0) (rem g l 0) := by
  rw [rem_0]
  refine ⟨?_, fun a ha => ?_, fun k hk hg => ?_⟩
  · rw [List.pairwise_map, hl]
    exact (List.pairwise_lt_range).filter _
  · obtain ⟨k, hk, rfl⟩ := List.mem_map.mp ha
    rw [hl] at hk
    obtain ⟨a, b⟩ := List.mem_filter.mp hk
    have b' := of_decide_eq_true b
    refine ⟨List.mem_range.mp a, b', b', ?_⟩
    rw [g_zero]
    exact Int.zero_add _
  · refine .inl ⟨g k, List.mem_map.mpr ⟨k, ?_, rfl⟩⟩
    rw [hl]
    exact List.mem_filter.mpr ⟨List.mem_range.mpr hk, decide_eq_true hg⟩
theorem covers_h {ns : List Int} : coversOf ns = (List.range ns.length).filter fun k => decide (hOf ns k > 0) := by
  unfold coversOf
  congr 1
  funext k
  have : (gOf ns k < 0) ↔ (hOf ns k > 0) := by
    show gOf ns k < 0 ↔ -gOf ns k > 0
    omega
  simp only [this]
theorem matched_well {ns : List Int} : Well ns (List.replicate ns.length 0) (-1, -1) (matchedF ns) := by
  unfold matchedF
  refine mt_well _ _ _ _ _ (Nat.le_refl _) (by simp) (half0 rfl) (half0 covers_h) ?_
  intro d x ds v y vs _ _ z
  injection z with z1 z2
  omega
theorem g_list {ns : List Int} : (List.range ns.length).map (gOf ns) = ns := by
  apply List.ext_getElem?
  intro i
  rw [List.getElem?_map]
  by_cases h : i < ns.length
  · rw [List.getElem?_range h, List.getElem?_eq_getElem h]
    show some (gOf ns i) = _
    unfold gOf
    rw [List.getD_eq_getElem?_getD, List.getElem?_eq_getElem h]
    rfl
  · rw [List.getElem?_eq_none (by simp; omega), List.getElem?_eq_none (by omega)]
    rfl
theorem matched_sum {ns : List Int} : ((matchedF ns).map (·.2.2)).sum = lo (ns.filter fun c => decide (c > 0)).sum ((ns.filter fun c => decide (c < 0)).map fun c => -c).sum := by
  unfold matchedF
  rw [mt_sum _ _ _ (Nat.le_refl _) (fun a ha => ((half0 (ns := ns) (g := gOf ns) (l := debtsOf ns) rfl).mem a ha).2.1) (fun a ha => ((half0 (ns := ns) (g := hOf ns) (l := coversOf ns) covers_h).mem a ha).2.1)]
  rw [rem_0, rem_0, List.map_map, List.map_map]
  have e1 : (debtsOf ns).map (gOf ns) = ns.filter fun c => decide (c > 0) := by
    have h := List.filter_map (p := fun c : Int => decide (c > 0)) (f := gOf ns) (l := List.range ns.length)
    rw [g_list] at h
    rw [h]
    rfl
  have e2 : (coversOf ns).map (gOf ns) = ns.filter fun c => decide (c < 0) := by
    have h := List.filter_map (p := fun c : Int => decide (c < 0)) (f := gOf ns) (l := List.range ns.length)
    rw [g_list] at h
    rw [h]
    rfl
  have e3 : (coversOf ns).map (hOf ns) = (ns.filter fun c => decide (c < 0)).map fun c => -c := by
    rw [← e2, List.map_map]
    rfl
  rw [← e1, ← e3]
  rfl

/-! ### what covers what -/
abbrev spBookSettled (K : PySem.W.Frag) := spAsk K fun o H Q => o.marks.length ≤ 10000 ∧ ∀ r xs H', Same H H' → H r = none → H' r = some (.lst xs) → Paired (TupAt H') xs ((matchedF (o.marks.map (·.2))).map tRow) → (matchedF (o.marks.map (·.2))).length ≤ 2 * o.marks.length → Q (.ref r) H'
abbrev len_BookSettled {K : PySem.W.Frag} {vs : List V} {H : Hp} {Q : VK} {E : XK} (h : spBookSettled K vs H Q E) := len_ask h
theorem ok_BookSettled {P : Program} {w : World} {K : PySem.W.Frag} {mg : Str → Option Value} {base : Heap} (T : Tx w K mg) : FnOk P w K mg base (L2.CX P w) 2 (He.fAd K dBookSettled.at_) (fdO K dBookSettled.at_) P_BookSettled (spBookSettled K) := by
  refine T.f_BookSettled.ok sc_BookSettled (fun vs H Q E h => len_BookSettled h) (fun cdv A outer s H vs Q E hr h => ⟨_, ((pss_one (ps_ret (pe_call (ok_Matched T) (hr.mono (by decide)) rfl T.g_Matched T.f_Matched.kp T.b_Matched .nil pass0 (pa_cons (pe_lc (own := [("mark", 2)]) (g := gName 2) (tt := tYes) rfl sc_BookSettled.nd (pi_list (pe_fld (pe_meth (pv 0) T.cl_Book T.m_Book_order_of (ok_BookOrderOf T) (hr.mono (by decide)) T.b_BookOrderOf .nil (passes_call (takes_of rfl rfl rfl rfl) (fun _ _ _ _ h => h)) (pa_cons (pv 1) pa_nil)) rfl)) (blkOk_by (N := N_BookSettled) (sc := defScope sBookSettled) (by decide +kernel)) (fun _ _ _ _ _ => pg_name (i := 2) sc_BookSettled.nd rfl (Or.inl rfl)) (fun _ _ _ _ _ => pts_nil) (fun _ _ _ _ _ => (pe_ix (ix_tupK (K := K) rfl) (pv 2) pe_int (fun _ _ => rfl)))) pa_nil))))), ?_⟩)
  obtain ⟨b, B, L, n, rfl, h, ok, k1, k2⟩ := h
  obtain ⟨dx, hb⟩ := h.ob
  walk_at "rd"
  refine r_m hb (no_Book_order_of _ _) ?_
  walk_at "rd"
  refine ⟨b, B, L, n, rfl, h, k1, fun j p o ej ep eo => ?_⟩
  have O := h.od j p o ep eo
  obtain ⟨dy, ho⟩ := O.ob
  obtain ⟨ts, et, pt⟩ := O.lm
  obtain ⟨l1, k⟩ := k2 j o ej eo
  refine r_f ho T.cl_Order T.n_Order_marks (lk_Order_marks _ _ _) ?_
  refine lcp_list (ys := (o.marks.map (·.2)).map V.int) (SqL.of et) (by simp [pt.length]) (by rw [pt.length]; omega) ?_ ?_
  · intro i x y H' R ex ey s q
    obtain ⟨m, em, t, rfl, ht⟩ := pr_ex pt ex
    rw [List.getElem?_map, List.getElem?_map, em] at ey
    cases ey
    walk_at "rd"
    refine r_ixT (SqT.of (s _ _ ht)) (atI_get (j := 1) rfl rfl) ?_
    exact q _ (Same.refl _)
  · intro D H' hD s e
    walk_at "rd"
    refine ⟨D, o.marks.map (·.2), rfl, SqL.of e, by simpa using l1, fun r xs H2 s2 nr er pr lr => ?_⟩
    exact k r xs H2 (s.trans s2) (Same.free s nr) er pr (by simpa using lr)

/-! ### the way back -/
def spBookUndo (K : PySem.W.Frag) : Sp := fun vs H Q E => ∃ (b : Addr) (B : Bk) (L : Lay), vs = [.ref b] ∧ BookAt K H b B L ∧ B.ok ∧ B.trail.length < 100000 ∧ Hist B ∧ (B.trail = [] → E (errV K .nothingDone) none H) ∧
  ∀ ds d es, B.trail = ds ++ [d] → replay [] ds = some es → ∀ v L' H', BookAt K H' b ⟨es, ds⟩ L' → Mod L L' H H' → Stay H H' → DdAt (fun a => (L'.own a = .no ∧ ∃ o, H a = some o) ∧ L.own a ≠ .no) H' v d → Q v H'
theorem len_BookUndo {K : PySem.W.Frag} {vs : List V} {H : Hp} {Q : VK} {E : XK} (h : spBookUndo K vs H Q E) : vs.length = 1 := by
  obtain ⟨_, _, _, rfl, _⟩ := h; rfl
theorem ok_BookUndo {P : Program} {w : World} {K : PySem.W.Frag} {mg : Str → Option Value} {base : Heap} (T : Tx w K mg) : FnOk P w K mg base (L2.CX P w) 8 (He.fAd K dBookUndo.at_) (fdO K dBookUndo.at_) P_BookUndo (spBookUndo K) := by
  refine T.f_BookUndo.ok sc_BookUndo (fun vs H Q E h => len_BookUndo h) (fun cdv A outer s H vs Q E hr h => ⟨_, ((pss_cons (ps_if (pt_not (pt_truth (pe_fld (pv 0) rfl) (by intro _; rfl))) (pss_one (ps_raise rfl (takes_of rfl rfl rfl rfl) (pmk_own PySem.F.excBase_ValueError T.x_NothingDone.1 T.g_NothingDone T.x_NothingDone.2.1 (raises_own T.x_NothingDone.2.2.1 T.x_NothingDone.2.2.2) rfl))) pss_nil)
      (pss_cons (ps_set (i := 1) sc_BookUndo.nd rfl (Or.inl rfl) (pe_fld (pv 0) rfl))
      (pss_cons (ps_fld (pv 0) (pe_lst pa_nil) rfl)
      (pss_cons (ps_fld (pv 0) (pe_lst pa_nil) rfl)
      (pss_cons (ps_for (passes_of rfl) rfl (pi_list (pe_slice sl_list (pv 1) po_none (po_some (pe_un un_neg pe_int)))) (pg_name (i := 2) sc_BookUndo.nd rfl (Or.inl rfl)) (pss_one (ps_expr (pe_meth (pv 0) T.cl_Book T.m_Book_do (ok_BookDo T) (hr.mono (by decide)) T.b_BookDo .nil (passes_call (takes_of rfl rfl rfl rfl) (fun _ _ _ _ h => h)) (pa_cons (pv 2) pa_nil)))))
      (pss_one (ps_ret (pe_ix ix_list (pv 1) (pe_un un_neg pe_int) (fun _ _ => rfl)))))))))), ?_⟩)
  obtain ⟨b, B, L, rfl, h, ok, hz, hi, kE, k⟩ := h
  obtain ⟨dx, hb⟩ := h.ob
  obtain ⟨ts, et, pt⟩ := h.tr
  walk_at "rd"
  refine r_f hb T.cl_Book T.n_Book_trail (lk_Book_trail _ _) ?_
  refine ⟨!ts.isEmpty, .inl ⟨ts, SqL.of et, rfl⟩, ?_⟩
  rcases List.eq_nil_or_concat B.trail with z | ⟨ds, d, z⟩
  · have e0 : ts = [] := by
      have := pt.length
      rw [z] at this
      exact List.length_eq_zero_iff.mp this
    subst e0
    exact kE z
  rw [List.concat_eq_append] at z
  have lt : ts.length = ds.length + 1 := by rw [pt.length, z]; simp
  have ne : ts.isEmpty = false := by
    cases ts with
    | nil => simp at lt
    | cons _ _ => rfl
  rw [ne]
  have hi' : replay [] (ds ++ [d]) = some B.each := by rw [← z]; exact hi
  obtain ⟨es, cs, rep, st⟩ := replay_cut hi'
  have gd : ∀ x, x ∈ ds → x.good := fun x hx => ok.good x (by rw [z]; exact List.mem_append_left _ hx)
  have dl : ds.length < 100000 := by
    rw [z] at hz
    simp at hz
    omega
  have nlt : L.trail ≠ b := fun q => by
    have := h.rt
    rw [q, h.rb] at this
    cases this
  rw [if_neg (by decide)]
  walk_at "rd"
  refine r_f hb T.cl_Book T.n_Book_trail (lk_Book_trail _ _) ?_
  walk_at "rd"
  refine r_mk (by simp) fun e0 he0 => ?_
  have be : b ≠ e0 := ne_of_none hb he0
  walk_at "rd"
  refine r_sf (by rw [upd_ne be]; exact hb) T.cl_Book T.n_Book_each (pt_Book_each _ _ _) (by simp [bkF]) ?_
  walk_at "rd"
  refine r_mk (by simp) fun t0 ht0 => ?_
  obtain ⟨tb, ht1⟩ := upd_none ht0
  obtain ⟨te, ht2⟩ := upd_none ht1
  walk_at "rd"
  refine r_sf (by rw [upd_ne (Ne.symm tb)]; exact upd_same) T.cl_Book T.n_Book_trail (pt_Book_trail _ _ _) (by simp [bkF]) ?_
  have c1 : But (· = b) H (upd H e0 (.lst [])) := But.of (same_upd he0)
  have c2 : But (· = b) H (upd (upd H e0 (.lst [])) b (.ins (He.ga K "Book") dx (bkF e0 L.trail))) := c1.trans (But.ins (C := He.ga K "Book") (dx := dx) (fs := bkF L.each L.trail) (by rw [upd_ne be]; exact hb) rfl)
  have c3 := c2.trans (But.of (S := (· = b)) (same_upd (o := .lst []) ht0))
  have c4 := c3.trans (But.ins (S := (· = b)) (o := .ins (He.ga K "Book") dx (bkF e0 t0)) (C := He.ga K "Book") (dx := dx) (fs := bkF e0 L.trail) (by rw [upd_ne (Ne.symm tb)]; exact upd_same) rfl)
  have ob : (L0 b e0 t0).own b = .book := by simp [L0]
  have oe : (L0 b e0 t0).own e0 = .each := by simp [L0, Ne.symm be]
  have ot : (L0 b e0 t0).own t0 = .trail := by simp [L0, tb, te]
  have on : ∀ a, (L0 b e0 t0).own a ≠ .no → a = b ∨ a = e0 ∨ a = t0 := fun a z => by
    by_cases h1 : a = b
    · exact .inl h1
    by_cases h2 : a = e0
    · exact .inr (.inl h2)
    by_cases h3 : a = t0
    · exact .inr (.inr h3)
    exact absurd (by simp [L0, h1, h2, h3]) z
  have ve : upd (upd (upd (upd H e0 (.lst [])) b (.ins (He.ga K "Book") dx (bkF e0 L.trail))) t0 (.lst [])) b (.ins (He.ga K "Book") dx (bkF e0 t0)) e0 = some (.lst []) := by
    rw [upd_ne (Ne.symm be), upd_ne (Ne.symm te), upd_ne (Ne.symm be)]; exact upd_same
  have vt : upd (upd (upd (upd H e0 (.lst [])) b (.ins (He.ga K "Book") dx (bkF e0 L.trail))) t0 (.lst [])) b (.ins (He.ga K "Book") dx (bkF e0 t0)) t0 = some (.lst []) := by
    rw [upd_ne tb]; exact upd_same
  have vb : upd (upd (upd (upd H e0 (.lst [])) b (.ins (He.ga K "Book") dx (bkF e0 L.trail))) t0 (.lst [])) b (.ins (He.ga K "Book") dx (bkF e0 t0)) b = some (.ins (He.ga K "Book") dx (bkF e0 t0)) := upd_same
  have st1 : Stay H (upd (upd (upd (upd H e0 (.lst [])) b (.ins (He.ga K "Book") dx (bkF e0 L.trail))) t0 (.lst [])) b (.ins (He.ga K "Book") dx (bkF e0 t0))) := fun a z => by
    obtain ⟨_, z1⟩ := upd_none z
    obtain ⟨_, z2⟩ := upd_none z1
    obtain ⟨_, z3⟩ := upd_none z2
    exact (upd_none z3).2
  revert ve vt vb st1 c4
  generalize upd (upd (upd (upd H e0 (.lst [])) b (.ins (He.ga K "Book") dx (bkF e0 L.trail))) t0 (.lst [])) b (.ins (He.ga K "Book") dx (bkF e0 t0)) = H1
  intro c4 ve vt vb st1
  have bk1 : BookAt K H1 b ⟨[], []⟩ (L0 b e0 t0) := ⟨⟨dx, vb⟩, ob, ve, oe, ⟨[], vt, .nil⟩, ot, rfl, fun j p o e1 => by simp [L0] at e1, fun j p e1 => by simp [L0] at e1, fun a z => by
    rcases on a z with h | h | h
    · exact ⟨_, by rw [h]; exact vb⟩
    · exact ⟨_, by rw [h]; exact ve⟩
    · exact ⟨_, by rw [h]; exact vt⟩⟩
  have et1 : H1 L.trail = some (.lst ts) := c4.keep _ _ et nlt
  have cut : cutV ts none (some (-1)) = ts.take ds.length := by
    unfold cutV
    have q : HT.sIx ts.length ts.length (some (-1)) = ds.length := by
      unfold HT.sIx
      dsimp only
      rw [if_pos (by decide)]
      omega
    rw [q, HT.sIx_none, List.drop_zero, Nat.sub_zero]
  have at1 : ∀ {H' : Hp} {x : V} {y : Dd}, But (fun x => x = b ∨ x = e0 ∨ x = t0) H1 H' → DdAt (fun a => L.own a = .deed) H x y → DdAt (fun a => (a ≠ b ∧ a ≠ e0 ∧ a ≠ t0) ∧ (∃ o, H a = some o) ∧ L.own a = .deed) H' x y := fun {H' x y} b1 q => by
    refine ((q.imp (F' := fun a => (a ≠ b ∧ a ≠ e0 ∧ a ≠ t0) ∧ (∃ o, H a = some o) ∧ L.own a = .deed) fun a f ex => ⟨⟨fun w => ?_, fun w => ?_, fun w => ?_⟩, ex, f⟩).keep c4 fun a f => f.1.1).keep b1 fun a f w => w.elim f.1.1 fun w => w.elim f.1.2.1 f.1.2.2
    · rw [w, h.rb] at f; cases f
    · obtain ⟨o, e⟩ := ex
      rw [w, he0] at e; cases e
    · obtain ⟨o, e⟩ := ex
      rw [w, ht2] at e; cases e
  walk_at "rd"
  refine r_sll (SqL.of et1) fun p hp => ?_
  rw [cut]
  have s2 := same_upd (o := .lst (ts.take ds.length)) hp
  have ep : upd H1 p (.lst (ts.take ds.length)) p = some (.lst (ts.take ds.length)) := upd_same
  revert s2 ep
  generalize upd H1 p (.lst (ts.take ds.length)) = H2
  intro s2 ep
  have pne : ¬ (p = b ∨ p = e0 ∨ p = t0) := fun q => by
    rcases q with q | q | q
    · rw [q, vb] at hp; cases hp
    · rw [q, ve] at hp; cases hp
    · rw [q, vt] at hp; cases hp
  walk_at "rd"
  refine ⟨p, rfl, ⟨_, SqL.of ep⟩, for_list (K := K) (a := p) (xs := ts.take ds.length) (fun i σ H' => ∃ (oi : List Od) (Li : Lay) (v2 : Option V), σ = [some (.ref b), some (.ref L.trail), v2] ∧ replay [] (ds.take i) = some oi ∧ BookAt K H' b ⟨oi, ds.take i⟩ Li ∧
      But (fun x => x = b ∨ x = e0 ∨ x = t0) H2 H' ∧ (∀ x, Li.own x ≠ .no → (x = b ∨ x = e0 ∨ x = t0) ∨ H2 x = none) ∧ Stay H2 H')
    ⟨[], L0 b e0 t0, none, rfl, rfl, bk1.same s2, But.refl, fun x z => .inl (on x z), fun _ e => e⟩ (fun i σ H' _ ⟨_, _, _, _, _, _, bi, _⟩ => SqL.of (bi.keep _ _ ep pne)) ?_ ?_⟩
  · rintro i x σ H3 hi3 ⟨oi, Li, v2, rfl, ri, bki, bi, gi, sti⟩
    have hil : i < ds.length := by
      have := (List.getElem?_eq_some_iff.mp hi3).1
      rw [List.length_take] at this
      omega
    have ex : ts[i]? = some x := by
      rw [List.getElem?_take_of_lt hil] at hi3
      exact hi3
    obtain ⟨y, ey, hy⟩ := pr_ex pt ex
    have ey' : ds[i]? = some y := by
      rw [z, List.getElem?_append_left hil] at ey
      exact ey
    obtain ⟨q1, o2, cs2, r1, sti2, r2⟩ := replay_at rep ey'
    have eq1 : q1 = oi := by
      rw [r1] at ri
      exact Option.some.inj ri
    subst eq1
    have gy := gd y (List.mem_of_getElem? ey')
    have oki : Bk.ok ⟨q1, ds.take i⟩ := replay_ok r1 fun w hw => gd w (List.mem_of_mem_take hw)
    have et : ds.take (i + 1) = ds.take i ++ [y] := by
      rw [List.take_succ, ey']; rfl
    have hd : DdAt (fun a => Li.own a = .no) H3 x y := (at1 ((But.of s2).trans bi) hy).imp fun a f _ => Classical.byContradiction fun w => by
      rcases gi a w with q | q
      · exact q.elim f.1.1 fun q => q.elim f.1.2.1 f.1.2.2
      · obtain ⟨o, e⟩ := f.2.1
        obtain ⟨o', e'⟩ : ∃ o', H2 a = some o' := ⟨_, s2 _ _ (c4.keep _ _ e f.1.1)⟩
        rw [e'] at q; cases q
    obtain ⟨d3, hb3⟩ := bki.ob
    walk_at "rd"
    refine r_m hb3 (no_Book_do _ _) ?_
    walk_at "rd"
    refine ⟨b, ⟨q1, ds.take i⟩, Li, x, rfl, bki, oki, by show (ds.take i).length < 100000; rw [List.length_take]; omega, .inl ⟨y, hd, gy, step_few sti2, fun e q => (by rw [sti2] at q; cases q), fun es' cs' q r L' H4 bk4 m4 st4 _ _ _ => ?_⟩⟩
    rw [sti2] at q
    cases q
    walk_at "rd"
    refine ⟨_, L', _, rfl, r2, by rw [et]; exact bk4, bi.mut m4.but fun a w => gi a w, fun a w => ?_, fun a e => sti a (st4 a e)⟩
    rcases m4.grow a w with q | q
    · exact gi a q
    · exact .inr (sti a q)
  · rintro σ H3 ⟨oi, Li, v2, rfl, ri, bki, bi, gi, sti⟩
    have lz : (ts.take ds.length).length = ds.length := by rw [List.length_take]; omega
    rw [lz, List.take_length] at ri bki
    have eo : oi = es := by
      rw [rep] at ri
      exact (Option.some.inj ri).symm
    subst eo
    have hl : ds.length < ts.length := by omega
    have ev : ts[ds.length]? = some ts[ds.length] := List.getElem?_eq_getElem hl
    obtain ⟨y, ey, hy⟩ := pr_ex pt ev
    have ed : y = d := by
      rw [z, List.getElem?_append_right (Nat.le_refl _), Nat.sub_self] at ey
      exact (Option.some.inj ey).symm
    subst ed
    have et3 : H3 L.trail = some (.lst ts) := bi.keep _ _ (s2 _ _ et1) fun q => by
      rcases q with q | q | q
      · exact nlt q
      · rw [q, he0] at et; cases et
      · rw [q, ht2] at et; cases et
    have ea : atI ts (-1) = some ts[ds.length] := by
      unfold atI ixN
      rw [if_neg (by decide), if_pos (by omega)]
      show ts[((-1 : Int) + ts.length).toNat]? = _
      rw [show ((-1 : Int) + ts.length).toNat = ds.length by omega]
      exact ev
    have free : ∀ a, H2 a = none → H a = none := fun a e => st1 a (Same.free s2 e)
    have gr : ∀ a, Li.own a ≠ .no → L.own a ≠ .no ∨ H a = none := fun a w => by
      rcases gi a w with q | q
      · rcases q with q | q | q
        · exact .inl (by rw [q, h.rb]; intro q; cases q)
        · exact .inr (by rw [q]; exact he0)
        · exact .inr (by rw [q]; exact ht2)
      · exact .inr (free a q)
    walk_at "rd"
    refine r_ixL (SqL.of et3) ea ?_
    refine k ds y oi z rep _ Li H3 bki ⟨(((c4.mono fun x q => ?_).trans (But.of s2)).mut bi fun x q => ?_), gr⟩ (fun a e => free a (sti a e)) ((at1 ((But.of s2).trans bi) hy).imp fun a f _ => ⟨⟨Classical.byContradiction fun w => ?_, f.2.1⟩, by rw [f.2.2]; intro q; cases q⟩)
    · have q' : x = b := q
      show L.own x ≠ .no
      rw [q', h.rb]; intro q; cases q
    · rcases q with q | q | q
      · exact .inl (by show L.own x ≠ .no; rw [q, h.rb]; intro q; cases q)
      · exact .inr (by rw [q]; exact he0)
      · exact .inr (by rw [q]; exact ht2)
    · rcases gi a w with q | q
      · exact q.elim f.1.1 fun q => q.elim f.1.2.1 f.1.2.2
      · obtain ⟨o, e⟩ := f.2.1
        rw [free a q] at e; cases e
/-! ### undo, where what it raises has no context -/
theorem okN_BookUndo {P : Program} {w : World} {K : PySem.W.Frag} {mg : Str → Option Value} {base : Heap} (T : Tx w K mg) : FnOk P w K mg base (L2N.CX P w) 8 (He.fAd K dBookUndo.at_) (fdO K dBookUndo.at_) P_BookUndo (spBookUndo K) := by
  refine T.f_BookUndo.ok sc_BookUndo (fun vs H Q E h => len_BookUndo h) (fun cdv A outer s H vs Q E hr h => ⟨_, ((pss_cons (ps_if (pt_not (pt_truth (pe_fld (pv 0) rfl) (by intro _; rfl))) (pss_one (L2N.ps_raise rfl (L2N.takes_of rfl rfl rfl rfl) (L2N.pmk_own PySem.F.excBase_ValueError T.x_NothingDone.1 T.g_NothingDone T.x_NothingDone.2.1 (raises_own T.x_NothingDone.2.2.1 T.x_NothingDone.2.2.2) rfl))) pss_nil)
      (pss_cons (ps_set (i := 1) sc_BookUndo.nd rfl (Or.inl rfl) (pe_fld (pv 0) rfl))
      (pss_cons (ps_fld (pv 0) (pe_lst pa_nil) rfl)
      (pss_cons (ps_fld (pv 0) (pe_lst pa_nil) rfl)
      (pss_cons (ps_for (passes_of rfl) rfl (pi_list (pe_slice sl_list (pv 1) po_none (po_some (pe_un un_neg pe_int)))) (pg_name (i := 2) sc_BookUndo.nd rfl (Or.inl rfl)) (pss_one (ps_expr (pe_meth (pv 0) T.cl_Book T.m_Book_do (ok_BookDo T) (hr.mono (by decide)) T.b_BookDo .nil passL (pa_cons (pv 2) pa_nil)))))
      (pss_one (ps_ret (pe_ix ix_list (pv 1) (pe_un un_neg pe_int) (fun _ _ => rfl)))))))))), ?_⟩)
  obtain ⟨b, B, L, rfl, h, ok, hz, hi, kE, k⟩ := h
  obtain ⟨dx, hb⟩ := h.ob
  obtain ⟨ts, et, pt⟩ := h.tr
  walk_at "rd"
  refine r_f hb T.cl_Book T.n_Book_trail (lk_Book_trail _ _) ?_
  refine ⟨!ts.isEmpty, .inl ⟨ts, SqL.of et, rfl⟩, ?_⟩
  rcases List.eq_nil_or_concat B.trail with z | ⟨ds, d, z⟩
  · have e0 : ts = [] := by
      have := pt.length
      rw [z] at this
      exact List.length_eq_zero_iff.mp this
    subst e0
    exact kE z
  rw [List.concat_eq_append] at z
  have lt : ts.length = ds.length + 1 := by rw [pt.length, z]; simp
  have ne : ts.isEmpty = false := by
    cases ts with
    | nil => simp at lt
    | cons _ _ => rfl
  rw [ne]
  have hi' : replay [] (ds ++ [d]) = some B.each := by rw [← z]; exact hi
  obtain ⟨es, cs, rep, st⟩ := replay_cut hi'
  have gd : ∀ x, x ∈ ds → x.good := fun x hx => ok.good x (by rw [z]; exact List.mem_append_left _ hx)
  have dl : ds.length < 100000 := by
    rw [z] at hz
    simp at hz
    omega
  have nlt : L.trail ≠ b := fun q => by
    have := h.rt
    rw [q, h.rb] at this
    cases this
  rw [if_neg (by decide)]
  walk_at "rd"
  refine r_f hb T.cl_Book T.n_Book_trail (lk_Book_trail _ _) ?_
  walk_at "rd"
  refine r_mk (by simp) fun e0 he0 => ?_
  have be : b ≠ e0 := ne_of_none hb he0
  walk_at "rd"
  refine r_sf (by rw [upd_ne be]; exact hb) T.cl_Book T.n_Book_each (pt_Book_each _ _ _) (by simp [bkF]) ?_
  walk_at "rd"
  refine r_mk (by simp) fun t0 ht0 => ?_
  obtain ⟨tb, ht1⟩ := upd_none ht0
  obtain ⟨te, ht2⟩ := upd_none ht1
  walk_at "rd"
  refine r_sf (by rw [upd_ne (Ne.symm tb)]; exact upd_same) T.cl_Book T.n_Book_trail (pt_Book_trail _ _ _) (by simp [bkF]) ?_
  have c1 : But (· = b) H (upd H e0 (.lst [])) := But.of (same_upd he0)
  have c2 : But (· = b) H (upd (upd H e0 (.lst [])) b (.ins (He.ga K "Book") dx (bkF e0 L.trail))) := c1.trans (But.ins (C := He.ga K "Book") (dx := dx) (fs := bkF L.each L.trail) (by rw [upd_ne be]; exact hb) rfl)
  have c3 := c2.trans (But.of (S := (· = b)) (same_upd (o := .lst []) ht0))
  have c4 := c3.trans (But.ins (S := (· = b)) (o := .ins (He.ga K "Book") dx (bkF e0 t0)) (C := He.ga K "Book") (dx := dx) (fs := bkF e0 L.trail) (by rw [upd_ne (Ne.symm tb)]; exact upd_same) rfl)
  have ob : (L0 b e0 t0).own b = .book := by simp [L0]
  have oe : (L0 b e0 t0).own e0 = .each := by simp [L0, Ne.symm be]
  have ot : (L0 b e0 t0).own t0 = .trail := by simp [L0, tb, te]
  have on : ∀ a, (L0 b e0 t0).own a ≠ .no → a = b ∨ a = e0 ∨ a = t0 := fun a z => by
    by_cases h1 : a = b
    · exact .inl h1
    by_cases h2 : a = e0
    · exact .inr (.inl h2)
    by_cases h3 : a = t0
    · exact .inr (.inr h3)
    exact absurd (by simp [L0, h1, h2, h3]) z
  have ve : upd (upd (upd (upd H e0 (.lst [])) b (.ins (He.ga K "Book") dx (bkF e0 L.trail))) t0 (.lst [])) b (.ins (He.ga K "Book") dx (bkF e0 t0)) e0 = some (.lst []) := by
    rw [upd_ne (Ne.symm be), upd_ne (Ne.symm te), upd_ne (Ne.symm be)]; exact upd_same
  have vt : upd (upd (upd (upd H e0 (.lst [])) b (.ins (He.ga K "Book") dx (bkF e0 L.trail))) t0 (.lst [])) b (.ins (He.ga K "Book") dx (bkF e0 t0)) t0 = some (.lst []) := by
    rw [upd_ne tb]; exact upd_same
  have vb : upd (upd (upd (upd H e0 (.lst [])) b (.ins (He.ga K "Book") dx (bkF e0 L.trail))) t0 (.lst [])) b (.ins (He.ga K "Book") dx (bkF e0 t0)) b = some (.ins (He.ga K "Book") dx (bkF e0 t0)) := upd_same
  have st1 : Stay H (upd (upd (upd (upd H e0 (.lst [])) b (.ins (He.ga K "Book") dx (bkF e0 L.trail))) t0 (.lst [])) b (.ins (He.ga K "Book") dx (bkF e0 t0))) := fun a z => by
    obtain ⟨_, z1⟩ := upd_none z
    obtain ⟨_, z2⟩ := upd_none z1
    obtain ⟨_, z3⟩ := upd_none z2
    exact (upd_none z3).2
  revert ve vt vb st1 c4
  generalize upd (upd (upd (upd H e0 (.lst [])) b (.ins (He.ga K "Book") dx (bkF e0 L.trail))) t0 (.lst [])) b (.ins (He.ga K "Book") dx (bkF e0 t0)) = H1
  intro c4 ve vt vb st1
  have bk1 : BookAt K H1 b ⟨[], []⟩ (L0 b e0 t0) := ⟨⟨dx, vb⟩, ob, ve, oe, ⟨[], vt, .nil⟩, ot, rfl, fun j p o e1 => by simp [L0] at e1, fun j p e1 => by simp [L0] at e1, fun a z => by
    rcases on a z with h | h | h
    · exact ⟨_, by rw [h]; exact vb⟩
    · exact ⟨_, by rw [h]; exact ve⟩
    · exact ⟨_, by rw [h]; exact vt⟩⟩
  have et1 : H1 L.trail = some (.lst ts) := c4.keep _ _ et nlt
  have cut : cutV ts none (some (-1)) = ts.take ds.length := by
    unfold cutV
    have q : HT.sIx ts.length ts.length (some (-1)) = ds.length := by
      unfold HT.sIx
      dsimp only
      rw [if_pos (by decide)]
      omega
    rw [q, HT.sIx_none, List.drop_zero, Nat.sub_zero]
  have at1 : ∀ {H' : Hp} {x : V} {y : Dd}, But (fun x => x = b ∨ x = e0 ∨ x = t0) H1 H' → DdAt (fun a => L.own a = .deed) H x y → DdAt (fun a => (a ≠ b ∧ a ≠ e0 ∧ a ≠ t0) ∧ (∃ o, H a = some o) ∧ L.own a = .deed) H' x y := fun {H' x y} b1 q => by
    refine ((q.imp (F' := fun a => (a ≠ b ∧ a ≠ e0 ∧ a ≠ t0) ∧ (∃ o, H a = some o) ∧ L.own a = .deed) fun a f ex => ⟨⟨fun w => ?_, fun w => ?_, fun w => ?_⟩, ex, f⟩).keep c4 fun a f => f.1.1).keep b1 fun a f w => w.elim f.1.1 fun w => w.elim f.1.2.1 f.1.2.2
    · rw [w, h.rb] at f; cases f
    · obtain ⟨o, e⟩ := ex
      rw [w, he0] at e; cases e
    · obtain ⟨o, e⟩ := ex
      rw [w, ht2] at e; cases e
  walk_at "rd"
  refine r_sll (SqL.of et1) fun p hp => ?_
  rw [cut]
  have s2 := same_upd (o := .lst (ts.take ds.length)) hp
  have ep : upd H1 p (.lst (ts.take ds.length)) p = some (.lst (ts.take ds.length)) := upd_same
  revert s2 ep
  generalize upd H1 p (.lst (ts.take ds.length)) = H2
  intro s2 ep
  have pne : ¬ (p = b ∨ p = e0 ∨ p = t0) := fun q => by
    rcases q with q | q | q
    · rw [q, vb] at hp; cases hp
    · rw [q, ve] at hp; cases hp
    · rw [q, vt] at hp; cases hp
  walk_at "rd"
  refine ⟨p, rfl, ⟨_, SqL.of ep⟩, for_list (K := K) (a := p) (xs := ts.take ds.length) (fun i σ H' => ∃ (oi : List Od) (Li : Lay) (v2 : Option V), σ = [some (.ref b), some (.ref L.trail), v2] ∧ replay [] (ds.take i) = some oi ∧ BookAt K H' b ⟨oi, ds.take i⟩ Li ∧
      But (fun x => x = b ∨ x = e0 ∨ x = t0) H2 H' ∧ (∀ x, Li.own x ≠ .no → (x = b ∨ x = e0 ∨ x = t0) ∨ H2 x = none) ∧ Stay H2 H')
    ⟨[], L0 b e0 t0, none, rfl, rfl, bk1.same s2, But.refl, fun x z => .inl (on x z), fun _ e => e⟩ (fun i σ H' _ ⟨_, _, _, _, _, _, bi, _⟩ => SqL.of (bi.keep _ _ ep pne)) ?_ ?_⟩
  · rintro i x σ H3 hi3 ⟨oi, Li, v2, rfl, ri, bki, bi, gi, sti⟩
    have hil : i < ds.length := by
      have := (List.getElem?_eq_some_iff.mp hi3).1
      rw [List.length_take] at this
      omega
    have ex : ts[i]? = some x := by
      rw [List.getElem?_take_of_lt hil] at hi3
      exact hi3
    obtain ⟨y, ey, hy⟩ := pr_ex pt ex
    have ey' : ds[i]? = some y := by
      rw [z, List.getElem?_append_left hil] at ey
      exact ey
    obtain ⟨q1, o2, cs2, r1, sti2, r2⟩ := replay_at rep ey'
    have eq1 : q1 = oi := by
      rw [r1] at ri
      exact Option.some.inj ri
    subst eq1
    have gy := gd y (List.mem_of_getElem? ey')
    have oki : Bk.ok ⟨q1, ds.take i⟩ := replay_ok r1 fun w hw => gd w (List.mem_of_mem_take hw)
    have et : ds.take (i + 1) = ds.take i ++ [y] := by
      rw [List.take_succ, ey']; rfl
    have hd : DdAt (fun a => Li.own a = .no) H3 x y := (at1 ((But.of s2).trans bi) hy).imp fun a f _ => Classical.byContradiction fun w => by
      rcases gi a w with q | q
      · exact q.elim f.1.1 fun q => q.elim f.1.2.1 f.1.2.2
      · obtain ⟨o, e⟩ := f.2.1
        obtain ⟨o', e'⟩ : ∃ o', H2 a = some o' := ⟨_, s2 _ _ (c4.keep _ _ e f.1.1)⟩
        rw [e'] at q; cases q
    obtain ⟨d3, hb3⟩ := bki.ob
    walk_at "rd"
    refine r_m hb3 (no_Book_do _ _) ?_
    walk_at "rd"
    refine ⟨b, ⟨q1, ds.take i⟩, Li, x, rfl, bki, oki, by show (ds.take i).length < 100000; rw [List.length_take]; omega, .inl ⟨y, hd, gy, step_few sti2, fun e q => (by rw [sti2] at q; cases q), fun es' cs' q r L' H4 bk4 m4 st4 _ _ _ => ?_⟩⟩
    rw [sti2] at q
    cases q
    walk_at "rd"
    refine ⟨_, L', _, rfl, r2, by rw [et]; exact bk4, bi.mut m4.but fun a w => gi a w, fun a w => ?_, fun a e => sti a (st4 a e)⟩
    rcases m4.grow a w with q | q
    · exact gi a q
    · exact .inr (sti a q)
  · rintro σ H3 ⟨oi, Li, v2, rfl, ri, bki, bi, gi, sti⟩
    have lz : (ts.take ds.length).length = ds.length := by rw [List.length_take]; omega
    rw [lz, List.take_length] at ri bki
    have eo : oi = es := by
      rw [rep] at ri
      exact (Option.some.inj ri).symm
    subst eo
    have hl : ds.length < ts.length := by omega
    have ev : ts[ds.length]? = some ts[ds.length] := List.getElem?_eq_getElem hl
    obtain ⟨y, ey, hy⟩ := pr_ex pt ev
    have ed : y = d := by
      rw [z, List.getElem?_append_right (Nat.le_refl _), Nat.sub_self] at ey
      exact (Option.some.inj ey).symm
    subst ed
    have et3 : H3 L.trail = some (.lst ts) := bi.keep _ _ (s2 _ _ et1) fun q => by
      rcases q with q | q | q
      · exact nlt q
      · rw [q, he0] at et; cases et
      · rw [q, ht2] at et; cases et
    have ea : atI ts (-1) = some ts[ds.length] := by
      unfold atI ixN
      rw [if_neg (by decide), if_pos (by omega)]
      show ts[((-1 : Int) + ts.length).toNat]? = _
      rw [show ((-1 : Int) + ts.length).toNat = ds.length by omega]
      exact ev
    have free : ∀ a, H2 a = none → H a = none := fun a e => st1 a (Same.free s2 e)
    have gr : ∀ a, Li.own a ≠ .no → L.own a ≠ .no ∨ H a = none := fun a w => by
      rcases gi a w with q | q
      · rcases q with q | q | q
        · exact .inl (by rw [q, h.rb]; intro q; cases q)
        · exact .inr (by rw [q]; exact he0)
        · exact .inr (by rw [q]; exact ht2)
      · exact .inr (free a q)
    walk_at "rd"
    refine r_ixL (SqL.of et3) ea ?_
    refine k ds y oi z rep _ Li H3 bki ⟨(((c4.mono fun x q => ?_).trans (But.of s2)).mut bi fun x q => ?_), gr⟩ (fun a e => free a (sti a e)) ((at1 ((But.of s2).trans bi) hy).imp fun a f _ => ⟨⟨Classical.byContradiction fun w => ?_, f.2.1⟩, by rw [f.2.2]; intro q; cases q⟩)
    · have q' : x = b := q
      show L.own x ≠ .no
      rw [q', h.rb]; intro q; cases q
    · rcases q with q | q | q
      · exact .inl (by show L.own x ≠ .no; rw [q, h.rb]; intro q; cases q)
      · exact .inr (by rw [q]; exact he0)
      · exact .inr (by rw [q]; exact ht2)
    · rcases gi a w with q | q
      · exact q.elim f.1.1 fun q => q.elim f.1.2.1 f.1.2.2
      · obtain ⟨o, e⟩ := f.2.1
        rw [free a q] at e; cases e

/-! ### a walk's end while an exception is handled -/
section
open PySem PySem.Spec PyProof.Rows L2 HotX
section
variable {prog : Program} {w : World} {A : Around} {E : Value → Shared → Prop} {s : Shared}
/-- the object of the exception in hand is no iterator of two fields -/
theorem hot_ne {x1 it : Addr} {o o1 : Obj} {u v : Value} {vs : Array Value} (h1 : s.heap.get? x1 = some o1) (d1 : o1.data = .fields vs) (c1 : vs[2]? = some .none) (ho : s.heap.get? it = some o) (hd : o.data = .fields #[u, v]) : x1 ≠ it := fun z => by
  rw [z, ho] at h1
  cases h1
  rw [hd] at d1
  cases d1
  simp at c1
theorem upd_keep {it : Addr} (f : Obj → Obj) {b : Addr} {o : Obj} (n : b ≠ it) (e : s.heap.get? b = some o) : (s.heap.update it f).get? b = some o := by
  rw [Heap.get?_update_other _ _ (Ne.symm n)]; exact e
theorem list_over {it l x1 : Addr} {i : Nat} {items : Array Value} {Q : Option Value → Shared → Prop} (hot : HotAt A x1 s.heap) (hit : s.heap.IsListIter it l i) (hl : s.heap.IsList l items) (hx : items[i]? = none)
    (hQ : ∀ h', (∀ b o, b ≠ it → s.heap.get? b = some o → h'.get? b = some o) → Q none { s with heap := h' }) : wpAny (model prog w) A (pyNext (.ref it)) Q E s := by
  obtain ⟨o, ho, hc, hd⟩ := id hit
  obtain ⟨ol, there, _, nl, dl⟩ := hl
  obtain ⟨hh, o1, vs1, h1, d1, c1⟩ := hot
  have ne := hot_ne h1 d1 c1 ho hd
  unfold pyNext
  refine wpAny_bind (wpAny_attempt (wpAny_callSpecial?_slot (name := Str.ofString "__next__") hit.typeIs slot_listiter_next (wpAny_call_entry slot_listiter_next hit.typeIs entry_listiter_next ?_ (args_listiter_next _))))
  show wpAny _ _ (field (.ref it) 0 >>= _) _ _ s; refine wpAny_bind (wpAny_field ho hd (x := .ref l) rfl ?_)
  show wpAny _ _ (if (Value.ref l == Value.none) = true then _ else _) _ _ s; rw [if_neg (show ¬ ((Value.ref l == Value.none) = true) from Bool.false_ne_true)]
  show wpAny _ _ (field (.ref it) 1 >>= _) _ _ s; refine wpAny_bind (wpAny_field ho hd (x := .int i 0) rfl ?_)
  show wpAny _ _ (seqItems? (.ref l) >>= _) _ _ s; refine wpAny_bind (wpAny_seqItems there dl ?_)
  simp only [Int.toNat_natCast, hx]; refine wpAny_bind (wpAny_rule (wpAny_bind (wpAny_setField ho hd (by simp) ?_)))
  show wpAny _ _ (newExc (.type "StopIteration") [] >>= _) _ _ _; refine wpAny_bind ?_
  simp only [newExc, newTuple]; refine wpAny_bind (wpAny_newObj_type ?_ (by size_fits))
  refine wpAny_bind (m := firstArgMember _ _) (wpAny_of_eq (a := Value.none) (by first | rfl | (simp only [firstArgMember]; rfl)) ?_); refine wpAny_newObj_type ?_ (by size_fits)
  refine raiseNew_hot ⟨hh, o1, vs1, Heap.get?_push_of_some _ (Heap.get?_push_of_some _ (upd_keep _ ne h1)), d1, c1⟩ (Nat.ne_of_lt (Heap.lt_size (Heap.get?_push_of_some _ (upd_keep _ ne h1)))) (Heap.get?_push_size _ rfl) rfl (by first | (simp; done) | (simp; omega) | (simp only [Array.size_append]; simp; omega)) ?_
  refine wpAny_bind (wpAny_isInstance (T := "StopIteration") (b := true) ⟨_, Heap.get?_update_self _ (Heap.get?_push_size _ rfl) rfl, rfl⟩ isSubtype_stop (wpAny_pure (hQ _ fun b o n e => ?_)))
  rw [Heap.get?_update_other _ _ (Nat.ne_of_gt (Heap.lt_size (Heap.get?_push_of_some _ (upd_keep _ n e))))]; exact Heap.get?_push_of_some _ (Heap.get?_push_of_some _ (upd_keep _ n e))
theorem sign_over {it x1 : Addr} {x : Str} {t : Tok} {i : Nat} {Q : Option Value → Shared → Prop} (hot : HotAt A x1 s.heap) (hit : s.heap.IsStrIter it "str_ascii_iterator" x t i) (hx : x.cps[i]? = none)
    (hQ : ∀ h', (∀ b o, b ≠ it → s.heap.get? b = some o → h'.get? b = some o) → Q none { s with heap := h' }) : wpAny (model prog w) A (pyNext (.ref it)) Q E s := by
  obtain ⟨o, ho, hc, hd⟩ := id hit
  obtain ⟨hh, o1, vs1, h1, d1, c1⟩ := hot
  have ne := hot_ne h1 d1 c1 ho hd
  unfold pyNext
  refine wpAny_bind (wpAny_attempt (wpAny_callSpecial?_slot (name := Str.ofString "__next__") hit.typeIs F.slot_str_ascii_iterator_next (wpAny_call_entry F.slot_str_ascii_iterator_next hit.typeIs F.entry_str_ascii_iterator_next ?_ (F.args_str_ascii_iterator_next_1 _))))
  show wpAny _ _ (field (.ref it) 0 >>= _) _ _ s; refine wpAny_bind (wpAny_field ho hd (x := .str x t) rfl ?_)
  show wpAny _ _ (field (.ref it) 1 >>= _) _ _ s; refine wpAny_bind (wpAny_field ho hd (x := .int i 0) rfl ?_)
  simp only [Int.toNat_natCast, hx]; refine wpAny_bind (wpAny_rule (wpAny_bind (wpAny_setField ho hd (by simp) (wpAny_bind (wpAny_letGo ?_)))))
  show wpAny _ _ (newExc (.type "StopIteration") [] >>= _) _ _ _; refine wpAny_bind ?_
  simp only [newExc, newTuple]; refine wpAny_bind (wpAny_newObj_type ?_ (by size_fits))
  refine wpAny_bind (m := firstArgMember _ _) (wpAny_of_eq (a := Value.none) (by first | rfl | (simp only [firstArgMember]; rfl)) ?_); refine wpAny_newObj_type ?_ (by size_fits)
  refine raiseNew_hot ⟨hh, o1, vs1, Heap.get?_push_of_some _ (Heap.get?_push_of_some _ (upd_keep _ ne h1)), d1, c1⟩ (Nat.ne_of_lt (Heap.lt_size (Heap.get?_push_of_some _ (upd_keep _ ne h1)))) (Heap.get?_push_size _ rfl) rfl (by first | (simp; done) | (simp; omega) | (simp only [Array.size_append]; simp; omega)) ?_
  refine wpAny_bind (wpAny_isInstance (T := "StopIteration") (b := true) ⟨_, Heap.get?_update_self _ (Heap.get?_push_size _ rfl) rfl, rfl⟩ isSubtype_stop (wpAny_pure (hQ _ fun b o n e => ?_)))
  rw [Heap.get?_update_other _ _ (Nat.ne_of_gt (Heap.lt_size (Heap.get?_push_of_some _ (upd_keep _ n e))))]; exact Heap.get?_push_of_some _ (Heap.get?_push_of_some _ (upd_keep _ n e))
end
theorem turnH_list {P : Program} {w : World} {K : PySem.W.Frag} {tg : Expr} (a it : Addr) : L2H.TurnH P w K tg (Itl K a) [it] it fun i h => h.IsListIter it a i := by
  refine ⟨by simp, fun i h st b hb => ?_, fun i h h' st k => ?_, ?_, ?_, fun _ _ _ _ _ st h => wpAny_pyIter_listiter st h⟩
  · obtain rfl := List.mem_singleton.mp hb
    obtain ⟨o, e, _, d⟩ := st
    exact ⟨o, e, fun v z => by rw [d] at z; cases z⟩
  · obtain ⟨o, e, r⟩ := st
    exact ⟨o, k it (by simp) o e, r⟩
  · rintro X rfl rfl rfl - i pins s σ H E I fpOk st ⟨xs, x, seq, ex⟩
    obtain ⟨its, vals, lies, _⟩ := I.list seq
    obtain ⟨u, eu, ru⟩ := vals.get ex
    obtain ⟨g0, g1, g2, g3, g4, g5⟩ := fpOk it (by simp)
    refine wpAny_pyNext_list_item st lies.isList (x := u) (by simpa using eu) fun h2 st2 sb => ?_
    have J : Inv X pins σ H { s with heap := h2 } := I.turned (t' := s.toks) (fun b o nb e => (sb.2 b nb).trans e) g0 g1 g3 g4 g5
    obtain ⟨o, e, c, d⟩ := id st2
    exact ⟨u, rfl, go_of (s := { s with heap := h2 }) e c d (by decide) ⟨x, H, J, ru, ⟨rfl, fun ys hy => by rw [I.list_inj hy seq]; exact ex⟩, st2, fun b hb => (fpOk b hb).1⟩⟩
  · rintro X rfl rfl rfl hc i pins s σ H E I fpOk st ⟨xs, seq, le⟩
    obtain ⟨its, vals, lies, _⟩ := I.list seq
    obtain ⟨g0, g1, g2, g3, g4, g5⟩ := fpOk it (by simp)
    obtain ⟨x1, hot⟩ := hc.at I
    have len := vals.length
    exact list_over hot st lies.isList (by simp; omega) fun h2 kept => ⟨rfl, I.turned (t' := s.toks) (fun b o nb e => kept b o nb e) g0 g1 g3 g4 g5⟩
theorem turnH_str {P : Program} {w : World} {K : PySem.W.Frag} {tg : Expr} (it : Addr) (x : Str) (t : Tok) : L2H.TurnH P w K tg (Its x) [it] it fun i h => h.IsStrIter it "str_ascii_iterator" x t i := by
  refine ⟨by simp, fun i h st b hb => ?_, fun i h h' st k => ?_, ?_, ?_, fun _ _ _ _ _ st h => wpAny_pyIter_striter_ascii st h⟩
  · obtain rfl := List.mem_singleton.mp hb
    obtain ⟨o, e, _, d⟩ := st
    exact ⟨o, e, fun v z => by rw [d] at z; cases z⟩
  · obtain ⟨o, e, r⟩ := st
    exact ⟨o, k it (by simp) o e, r⟩
  · rintro X rfl rfl rfl - i pins s σ H E I fpOk st lt
    have lt' : i < x.cps.size := lt
    obtain ⟨g0, g1, g2, g3, g4, g5⟩ := fpOk it (by simp)
    refine wpAny_pyNext_ascii_item st (Array.getElem?_eq_getElem lt') fun h2 st2 sb => ?_
    have J : Inv X pins σ H { s with heap := h2, toks := s.toks + 1 } := I.turned (fun b o nb e => (sb.2 b nb).trans e) g0 g1 g3 g4 g5
    obtain ⟨o, e, c, d⟩ := id st2
    exact ⟨_, rfl, go_of (s := { s with heap := h2, toks := s.toks + 1 }) e c d (by decide) ⟨.str ⟨#[x.cps[i]]⟩, H, J, ⟨s.toks, rfl⟩, ⟨rfl, _, Array.getElem?_eq_getElem lt', rfl⟩, st2, fun b hb => (fpOk b hb).1⟩⟩
  · rintro X rfl rfl rfl hc i pins s σ H E I fpOk st le
    obtain ⟨g0, g1, g2, g3, g4, g5⟩ := fpOk it (by simp)
    obtain ⟨x1, hot⟩ := hc.at I
    exact sign_over hot st (Array.getElem?_eq_none le) fun h2 kept => ⟨rfl, I.turned (t' := s.toks) (fun b o nb e => kept b o nb e) g0 g1 g3 g4 g5⟩
/-- what is walked, in such a place -/
theorem piH_list {X : Cx} {tg l : Expr} {tl : TE} (hl : PE X l tl) : L2H.PIH X tg l (iList X.K tl) := by
  constructor
  intro pins s σ H R I h
  refine thn (hl.run pins s σ H _ I h) fun v s1 ⟨x, H1, I1, r1, a, ex, ⟨xs, seq⟩, q⟩ => ?_
  subst ex
  cases r1
  obtain ⟨its, vals, lies, _⟩ := I1.list seq
  refine wpAny_pyIter_list lies.isList ⟨s1.heap.objs.size, [s1.heap.objs.size], _, _, H1, rfl, I1.kept (t' := s1.toks) fun b o e => Heap.get?_push_of_some _ e, turnH_list a _, ⟨_, Heap.get?_push_size _ rfl, rfl, rfl⟩, fun b hb => ?_, q⟩
  obtain rfl := List.mem_singleton.mp hb
  exact I1.fpOk (Nat.le_refl _) (I1.hok.fresh (Nat.le_refl _))
def iStrA (te : TE) : TI := fun σ H R => te σ H fun v H1 => ∃ x : Str, v = .str x ∧ x.cps.all (· < 128) = true ∧ R (Its x) H1
theorem piH_str {X : Cx} {tg e : Expr} {te : TE} (he : PE X e te) : L2H.PIH X tg e (iStrA te) := by
  constructor
  intro pins s σ H R I h
  refine thn (he.run pins s σ H _ I h) fun v s1 ⟨y, H1, I1, r1, x, ex, low, q⟩ => ?_
  subst ex
  obtain ⟨t, rfl⟩ := r1
  refine wpAny_pyIter_ascii low ⟨s1.heap.objs.size, [s1.heap.objs.size], _, _, H1, rfl, I1.kept (t' := s1.toks) fun b o e => Heap.get?_push_of_some _ e, turnH_str _ x t, ⟨_, Heap.get?_push_size _ rfl, rfl, rfl⟩, fun b hb => ?_, q⟩
  obtain rfl := List.mem_singleton.mp hb
  exact I1.fpOk (Nat.le_refl _) (I1.hok.fresh (Nat.le_refl _))
end

/-! ### objects made and lists built while an exception is handled -/
section
open PySem PySem.Spec PyProof.Rows L2
section
variable {X : Cx} {CX : CXT} {k : Nat} {f C : Addr} {fd : FuncData} {ps : List Str} {sp : Sp} {E : XK} {x : Str} {p pos : Pos} {e : Expr} {es : List Expr} {t : TA}
theorem make_hot {pins : List (Addr × Obj)} {σ : L2.St} {H : Hp} {s : Shared} {Q : VK} {us : List Value} {vs : List V} (M : Mk X.K C f) (F : L2H.FnH X.prog X.w X.K X.mg X.base CX k f fd ps sp) (hr : L2H.RoomH (k + 1) X.A) (hc : L2H.HotC X) (hb : Binds X.K fd ps [])
    (hx : Passes CX X E) (I : Inv X pins σ H s) (r : Vals vs us) (h : ∀ a dx, H a = none → H dx = none → dx ≠ a → sp (.ref a :: (vs ++ [])) (upd (upd H dx (.own a)) a (.ins C dx [])) (fun v H2 => v = .non ∧ Q (.ref a) H2) E) :
    wpAny (model X.prog X.w) X.A (call (.ref C) us) (EP X pins σ Q) X.xe s := by
  obtain ⟨q, hot, hq⟩ := hc
  have asks := h (s.heap.objs.size + 1) s.heap.objs.size (I.hok.fresh (Nat.le_succ _)) (I.hok.fresh (Nat.le_refl _)) (Nat.ne_of_lt (Nat.lt_succ_self _))
  have J := Inv.made (C := C) I
  obtain ⟨q1, q2, q3, q4, q5⟩ := J.pin q (List.mem_append_left _ hq)
  have held : L2H.PinOk X.stack (upd (upd H s.heap.objs.size (.own (s.heap.objs.size + 1))) (s.heap.objs.size + 1) (.ins C s.heap.objs.size [])) { s with heap := (s.heap.push PySem.W.emptyDict).push (PySem.W.instObj C s.heap.objs.size) } q := ⟨q1, q2, fun m => (List.mem_cons.mp (J.stkSub q.1 m)).elim q3 q4, q5⟩
  have vals : Vals (V.ref (s.heap.objs.size + 1) :: (vs ++ [])) (Value.ref (s.heap.objs.size + 1) :: us) := .cons rfl (by rw [List.append_nil]; exact r)
  have same_len : (Value.ref (s.heap.objs.size + 1) :: us ++ []).length = ps.length := by
    rw [List.append_nil, ← vals.length]
    exact F.len _ _ _ _ asks
  have bound := hb _ (Value.ref (s.heap.objs.size + 1) :: us) J.kIn same_len
  rw [List.append_nil] at bound
  have room : L2H.RoomH k (X.A.under (.builtin "type.__call__" ⟨.ref C :: us, []⟩)) := ⟨by have := hr.dp; rw [make_depth]; omega, by have := hr.un; rw [make_units]; omega⟩
  have run := F.run _ X.stack _ _ ⟨Value.ref (s.heap.objs.size + 1) :: us, []⟩ (Value.ref (s.heap.objs.size + 1) :: us) _ _ E q room hot held (J.env0.make C us []) bound vals asks
  refine wpAny_call (make_map (f := f) I.kIn M.makes M.init (beq_iff_eq.mp M.fn) (codeAny_mono run fun out s2 ends => ?_))
  match out, ends with
  | .error z, q => exact hx pins σ _ _ z s2 J q
  | .ok (.ret u), q =>
    obtain ⟨v, H2, J2, rv, ev, q3⟩ := J.after q
    subst ev
    exact ⟨rv, V.ref (s.heap.objs.size + 1), H2, J2, rfl, q3⟩
  | .ok .next, q => exact False.elim q
  | .ok .brk, q => exact False.elim q
  | .ok .cont, q => exact False.elim q
theorem peH_make (M : Mk X.K C f) (F : L2H.FnH X.prog X.w X.K X.mg X.base CX k f fd ps sp) (hr : L2H.RoomH (k + 1) X.A) (hc : L2H.HotC X) (hg : Gl X x) (hm : X.mg x = some (.ref C)) (hb : Binds X.K fd ps []) (hx : Passes CX X E) (ha : PA X (e :: es) t)
    (hdb : (x == ("__debug__" : Str)) = false := by decide) (he : starEach (e :: es) X.env = (false, eval e X.env) :: starEach es X.env := by rfl) (hpl : (backTo pos (starEach es X.env)).any (·.1) = false := by rfl) : PE X (.Call (.Name x p) (e :: es) [] pos) (tMake C sp [] E t) := by
  constructor
  intro pins s σ H Q I asks
  exact wpAny_Call_Name_kw (ld_glob I hg hm (PySem.W.callWith_K (h₀ := X.base) I.ok.mod.kin M.kp (thn (ha.run pos pins s σ H _ I asks) fun us s1 ⟨vs, H1, I1, r, q⟩ => ⟨I1.kIn, make_hot M F hr hc hb hx I1 r q⟩) he hpl) hdb)
end
variable {X : Cx}
/-- a block that bears the exception in hand -/
abbrev blkH (X : Cx) (s : Shared) (H : Hp) (scope : Scope) (cenv : Env) (fp : List Addr) (p : Addr × Obj) : Cx := { X.blk s H scope cenv fp with pn := [p] }
theorem hot_blk {s : Shared} {H : Hp} {scope : Scope} {cenv : Env} {fp : List Addr} {p : Addr × Obj} (h : L2H.Hot1 X.A p) : L2H.HotC (blkH X s H scope cenv fp p) := ⟨p, h, List.mem_singleton.mpr rfl⟩
theorem inv_blkH {s : Shared} {H H' : Hp} {scope : Scope} {cenv : Env} {fp : List Addr} {p : Addr × Obj} {σ : L2.St} {s' : Shared} (I : Inv (X.blk s H scope cenv fp) [] σ H' s') (h : s'.heap.get? p.1 = some p.2 ∧ H' p.1 = none ∧ p.1 ≠ cenv.locals ∧ p.1 ∉ frs X.stack ∧ ∀ v, p.2.data ≠ .cell v) : Inv (blkH X s H scope cenv fp p) [] σ H' s' :=
  ⟨⟨I.ok.mod, I.ok.kind, I.ok.glob, I.ok.blt, I.ok.above, I.ok.inj, I.ok.has, I.ok.cab, I.ok.hd, I.ok.frames, I.ok.stk, I.ok.exf, I.ok.bs, I.ok.bsz, I.ok.noex, I.ok.exfs, I.ok.funs, I.ok.frf⟩, I.os, I.bare, I.base, I.loc, I.cell, I.free, I.freeC, fun q hq => by
    obtain rfl : q = p := by simpa using hq
    exact h, I.hok, I.len⟩
theorem lch_core {pins : List (Addr × Obj)} {s : Shared} {σ : L2.St} {H : Hp} {Q : VK} {elt tg iter : Expr} {scope : Scope} {own : List (Str × Nat)} {pos pos' : Pos} {wi : TI} {g : TG} {te : TE} {use : Option (Value → Sem Unit)} {Qf : Value → Shared → Prop}
    (hc : L2H.HotC X) (hN : X.N.Nodup) (I : Inv X pins σ H s) (hi : L2H.PIH X tg iter wi) (ok : BlkOk X.N X.env.scope scope own)
    (hg : ∀ (s : Shared) (H : Hp) (C : Addr) (cl : List (Str × Addr)) (fp : List Addr) (p : Addr × Obj), PG (blkH X s H scope (compEnvC scope cl C X.env) fp p) tg g) (he : ∀ (s : Shared) (H : Hp) (C : Addr) (cl : List (Str × Addr)) (fp : List Addr) (p : Addr × Obj), L2H.Hot1 X.A p → PE (blkH X s H scope (compEnvC scope cl C X.env) fp p) elt te)
    (hs : ∀ x, foldedSetIterable iter X.env x = pure x) (h : tLc wi g tYes te (own.map (·.2)) σ H Q)
    (fin : ∀ D C s' m H', Inv X pins σ H' s' → Q (.ref D) H' → s'.heap.Ns C m → FpOk X pins H' C → compPost (model X.prog X.w) X.A X.xe use Qf (.ref D) C (.ok .next) s') :
    wpAny (model X.prog X.w) X.A (comprehension (.ListComp elt [⟨tg, iter, [], 0⟩] scope pos) scope X.env pos' (newList []) false (eval iter X.env) use) Qf X.xe s := by
  obtain ⟨p, hot, hp⟩ := hc
  have cells : ∀ y ∈ scope.names, y.2 = .free → ∃ c, X.env.cells.lookup y.1 = some c := fun y hy e => (ok.free y hy e).elim (fun k => I.ok.has _ (.inl k)) fun k => I.ok.has _ (.inr k)
  refine wpAny_comprehension_free (use := use) rfl hs (closure_ok cells) ok.kind (fun y hy e => by rw [ok.uniq y hy, e]) (thn (hi.run pins s σ H _ I h) fun xv s1 hx => thn hx fun itv s2 start => ?_)
  obtain ⟨it, fp, tn, J, H2, rfl, I2, T, t2, f2, q⟩ := start
  refine wpAny_newObj_type (newEnv_comp ?_) (by show 0 ≤ sizeLine; decide)
  obtain ⟨D, eD⟩ : ∃ D, s2.heap.objs.size = D := ⟨_, rfl⟩
  have hD : H2 D = none := I2.hok.fresh (Nat.le_of_eq eD)
  obtain ⟨W, ⟨m0, w0⟩, turn⟩ := q D hD
  rw [eD]
  obtain ⟨s3, e3⟩ : ∃ s3 : Shared, s3 = { s2 with heap := s2.heap.push { cls := .type "list", data := .seq ([] : List Value).toArray } } := ⟨_, rfl⟩
  have ep : s3.heap = s2.heap.push { cls := .type "list", data := .seq ([] : List Value).toArray } := by rw [e3]
  have I3 : Inv X pins σ (upd H2 D (.lst [])) s3 := by
    rw [e3]
    refine I2.laid (t' := s2.toks) (fun b o e => Heap.get?_push_of_some _ e) (Nat.le_of_eq eD) ⟨Nat.zero_le _, [], 0, .nil, ?_⟩
    rw [← eD]
    exact Heap.get?_push_size _ rfl
  have low : ∀ b ∈ fp, b < s2.heap.objs.size := fun b hb => by
    obtain ⟨o, e, _⟩ := T.obj _ _ t2 b hb
    exact Heap.lt_size e
  have f3 : ∀ b ∈ fp, FpOk X pins (upd H2 D (.lst [])) b ∧ b < s3.heap.objs.size := fun b hb => by
    have l := low b hb
    refine ⟨⟨?_, (f2 b hb).2⟩, by rw [ep, Heap.size_push]; exact Nat.lt_succ_of_lt l⟩
    rw [upd_ne (by rw [← eD]; exact Nat.ne_of_lt l)]
    exact (f2 b hb).1
  have t3 : tn 0 s3.heap := T.keep _ _ _ t2 fun b _ o e => by rw [ep]; exact Heap.get?_push_of_some _ e
  have I4 := block_start I3 ok hN f3
  obtain ⟨p1, p2, p3, p4, p5⟩ := I3.pin p (List.mem_append_left _ hp)
  have pst : p.1 ∉ frs X.stack := fun m => (List.mem_cons.mp (I3.stkSub p.1 m)).elim p3 p4
  show codeAny _ _ (.compStart (.ListComp elt [⟨tg, iter, [], 0⟩] scope pos) 0 (.ref it) (.ref D) (compEnvC scope (cellsFrom ((s2.heap.push { cls := .type "list", data := .seq ([] : List Value).toArray }).objs.size + 1) scope.names (cloFrom X.env.cells scope.names [])) (s2.heap.push { cls := .type "list", data := .seq ([] : List Value).toArray }).objs.size X.env))
    (compPost (model X.prog X.w) X.A X.xe use Qf (.ref D) (s2.heap.push { cls := .type "list", data := .seq ([] : List Value).toArray }).objs.size)
    { s2 with heap := pushCells ((s2.heap.push { cls := .type "list", data := .seq ([] : List Value).toArray }).push { cls := .type "dict", data := .dict #[] }) scope.names }
  have back : ({ s2 with heap := pushCells ((s2.heap.push { cls := .type "list", data := .seq ([] : List Value).toArray }).push { cls := .type "dict", data := .dict #[] }) scope.names } : Shared) = { s3 with heap := pushCells (s3.heap.push { cls := .type "dict", data := .dict #[] }) scope.names } := by rw [e3]
  rw [back, ← ep]
  have pg := hg s3 (upd H2 D (.lst [])) s3.heap.objs.size (cellsFrom (s3.heap.objs.size + 1) scope.names (cloFrom X.env.cells scope.names [])) fp p
  have pe := he s3 (upd H2 D (.lst [])) s3.heap.objs.size (cellsFrom (s3.heap.objs.size + 1) scope.names (cloFrom X.env.cells scope.names [])) fp p hot
  obtain ⟨ce, ece⟩ : ∃ ce, ce = compEnvC scope (cellsFrom (s3.heap.objs.size + 1) scope.names (cloFrom X.env.cells scope.names [])) s3.heap.objs.size X.env := ⟨_, rfl⟩
  rw [← ece] at I4 pg pe ⊢
  have cL : ce.locals = s3.heap.objs.size := by rw [ece]; rfl
  have nfp : ∀ b ∈ fp, (upd H2 D (.lst [])) b = none := fun b hb => (f3 b hb).1.1
  have I5 := inv_blkH (p := p) I4 ⟨pushCells_keeps _ _ _ _ (Heap.get?_push_of_some _ p1), p2, by rw [cL]; exact Nat.ne_of_lt (Heap.lt_size p1), pst, p5⟩
  revert I3 I5 pg pe w0 nfp f3 I4 p2
  generalize upd H2 D (.lst []) = H3
  intro w0 I3 f3 p2 pe pg I4 nfp I5
  have t4 : tn 0 (pushCells (s3.heap.push { cls := .type "dict", data := .dict #[] }) scope.names) := T.keep _ _ _ t3 fun b _ o e => pushCells_keeps _ _ _ _ (Heap.get?_push_of_some _ e)
  have still : ∀ {σ' : L2.St} {H' : Hp} {s' : Shared}, Inv (blkH X s3 H3 scope ce fp p) [] σ' H' s' → (∀ b ∈ fp, H' b = none) → ∀ b ∈ fp, FpOk (blkH X s3 H3 scope ce fp p) [] H' b := fun I' hn b hb =>
    ⟨hn b hb, (I'.ok.exf b hb).1, I'.ok.exfs b hb, .inl hb, fun x c e => (I'.ok.exf b hb).2 x c e, fun q hq => by
      obtain rfl : q = p := by simpa using hq
      exact (f3 b hb).1.2.2.2.2.2 q (List.mem_append_left _ hp)⟩
  have loop : codeAny (model X.prog X.w) X.A (.compLoop (.ListComp elt [⟨tg, iter, [], 0⟩] scope pos) 0 (.ref it) (.ref D) ce) (compPost (model X.prog X.w) X.A X.xe use Qf (.ref D) s3.heap.objs.size) { s3 with heap := pushCells (s3.heap.push { cls := .type "dict", data := .dict #[] }) scope.names } := by
    refine compLoop_any (fun n s' => ∃ i H', Inv (blkH X s3 H3 scope ce fp p) [] (wipe σ (own.map (·.2))) H' s' ∧ tn i s'.heap ∧ (∀ b ∈ fp, H' b = none) ∧ W i n H') ?_ m0 ⟨0, H3, I5, t4, nfp, w0⟩
    rintro n s5 ⟨i, H5, I5, t5, n5, w5⟩
    rcases turn i n H5 w5 with ⟨stop, qq⟩ | ⟨go, Nx, hNx, stepE⟩
    · refine thnF (T.done (blkH X s3 H3 scope ce fp p) rfl rfl rfl (hot_blk hot) i [] s5 _ H5 (fun _ _ => False) I5 (still I5 n5) t5 stop) fun r s6 ⟨hr, I6⟩ => ?_
      subst hr
      have nC : H5 s3.heap.objs.size = none := by
        have z : H5 ce.locals = none := I6.free
        rw [cL] at z
        exact z
      obtain ⟨m, hn, _⟩ := I6.loc
      have hn' : s6.heap.Ns ce.locals m := hn
      exact fin D s3.heap.objs.size s6 m H5 (I3.call' (ch := fp) I6.os I6.base I6.hok I6.bare fun b hb => ⟨(f3 b hb).1.2.2.2.1, (f3 b hb).1.2.1, (f3 b hb).1.2.2.2.2.1, (f3 b hb).1.2.2.2.2.2⟩) qq (by rw [← cL]; exact hn') (I3.fpOk (Nat.le_refl _) nC)
    · refine thnF (T.item (blkH X s3 H3 scope ce fp p) rfl rfl rfl (hot_blk hot) i [] s5 _ H5 (fun _ _ => False) I5 (still I5 n5) t5 go) fun r s6 ⟨u, hr, h6⟩ => ?_
      subst hr
      refine thnF h6 fun _ s7 ⟨x, H7, I7, r7, y7, t7, n7⟩ => ?_
      refine thnF (pg.run _ s7 _ H7 x u _ (I7.pinned (still I7 n7) (T.obj _ _ t7)) r7 (stepE x H7 y7)) fun _ s8 ⟨σ8, H8, I8, hw8, q8⟩ => ?_
      refine wpAny_tests_nil ?_
      have q8' : te σ8 H8 fun y H4 => ∃ acc, H4 D = some (.lst acc) ∧ acc.length < sizeLine ∧ Nx (upd H4 D (.lst (acc ++ [y]))) := by
        have z : (if true = true then te σ8 H8 fun y H4 => ∃ acc, H4 D = some (.lst acc) ∧ acc.length < sizeLine ∧ Nx (upd H4 D (.lst (acc ++ [y]))) else Nx H8) := q8
        rw [if_pos rfl] at z
        exact z
      rw [if_pos rfl]
      refine thnF (pe.run _ s8 σ8 H8 _ I8 q8') fun z s10 ⟨yv, H10, I10, r10, acc, hD10, hz10, nx⟩ => ?_
      refine app_ok (X := blkH X s3 H3 scope ce fp p) I10 hD10 hz10 r10 fun s11 I11 => ?_
      obtain ⟨m', hm, w'⟩ := hNx _ nx
      have pin' : ∀ b ∈ fp, ∀ o, s7.heap.get? b = some o → s11.heap.get? b = some o ∧ (upd H10 D (.lst (acc ++ [yv]))) b = none := fun b hb o e =>
        let z := I11.pin (b, o) (List.mem_append_right _ (List.mem_append_right _ (mem_pinsAt hb e)))
        ⟨z.1, z.2.1⟩
      refine ⟨m', hm, i + 1, _, (I11.unpinned (pins := [])).weak (by rw [← hw8, wipe_length]) (fun j v e => ?_), T.keep _ _ _ t7 fun b hb o e => (pin' b hb o e).1, fun b hb => ?_, w'⟩
      · rw [← hw8] at e
        exact (wipe_some e).1
      · obtain ⟨o, e, _⟩ := T.obj _ _ t7 b hb
        exact (pin' b hb o e).2
  exact codeAny_compStart_list loop (T.self X.A 0 _ _ _ t4 loop)
theorem peH_lc {elt tg iter : Expr} {scope : Scope} {own : List (Str × Nat)} {pos : Pos} {wi : TI} {g : TG} {te : TE} (hc : L2H.HotC X) (hN : X.N.Nodup) (hi : L2H.PIH X tg iter wi) (ok : BlkOk X.N X.env.scope scope own)
    (hg : ∀ (s : Shared) (H : Hp) (C : Addr) (cl : List (Str × Addr)) (fp : List Addr) (p : Addr × Obj), PG (blkH X s H scope (compEnvC scope cl C X.env) fp p) tg g) (he : ∀ (s : Shared) (H : Hp) (C : Addr) (cl : List (Str × Addr)) (fp : List Addr) (p : Addr × Obj), L2H.Hot1 X.A p → PE (blkH X s H scope (compEnvC scope cl C X.env) fp p) elt te)
    (hs : ∀ x, foldedSetIterable iter X.env x = pure x := by intro _; rfl) : PE X (.ListComp elt [⟨tg, iter, [], 0⟩] scope pos) (tLc wi g tYes te (own.map (·.2))) := by
  constructor
  intro pins s σ H Q I h
  rw [eval_ListComp]
  refine lch_core hc hN I hi ok hg he hs h fun D C s' m H' I' q hn f => ⟨m, hn, fun h2 sb => ?_⟩
  obtain ⟨f0, f1, f2, f3, f4, f5⟩ := f
  exact ⟨.ref D, H', I'.turned (it := C) (t' := s'.toks) (fun b o n e => (sb.2 b n).trans e) f0 f1 f3 f4 f5, rfl, q⟩
/-- what the walk never reaches -/
theorem ps_never {st : Stmt} : PS X st (fun _ _ _ => False) := ⟨fun _ _ _ _ _ _ h => h.elim⟩
theorem pe_never {e : Expr} : PE X e (fun _ _ _ => False) := ⟨fun _ _ _ _ _ _ h => h.elim⟩
end

/-! ### defs called where an exception is handled -/
section
open PySem PySem.Spec PyProof.Rows L2
variable {X : Cx} {CX : CXT} {k : Nat} {f C : Addr} {fd : FuncData} {ps : List Str} {sp : Sp} {E : XK} {x m : Str} {p q pos apos : Pos} {e o : Expr} {es : List Expr} {ta : TE} {t : TA}
theorem pe_weak {e : Expr} {t t' : TE} (h : PE X e t) (le : ∀ σ H Q, t' σ H Q → t σ H Q) : PE X e t' := ⟨fun pins s σ H Q I a => h.run pins s σ H Q I (le _ _ _ a)⟩
theorem peH_call (F : L2H.FnH X.prog X.w X.K X.mg X.base CX k f fd ps sp) (hr : L2H.RoomH k X.A) (hc : L2H.HotC X) (hg : Gl X x) (hm : X.mg x = some (.ref f)) (hk : PySem.W.keepIn X.K (.ref f) = true) (hb : Binds X.K fd ps []) (hx : Passes CX X E) (ha : PA X (e :: es) t)
    (hdb : (x == ("__debug__" : Str)) = false := by decide) (he : starEach (e :: es) X.env = (false, eval e X.env) :: starEach es X.env := by rfl) (hpl : (backTo pos (starEach es X.env)).any (·.1) = false := by rfl) : PE X (.Call (.Name x q) (e :: es) [] pos) (tCall sp [] E t) :=
  pe_weak (L2H.pe_callH (E := fun _ => E) F hr hc hg hm hk hb (fun σ pins H s e s' I c => hx pins σ H s e s' I c) ha hdb he hpl) fun σ H Q a => by
    have a' : t σ H fun vs H1 => sp (vs ++ []) H1 Q E := a
    simp only [List.append_nil] at a'
    exact a'
theorem peH_meth {pl : Sem Bool} (he : PE X o ta) (c : Cls X.K C) (hm : Meth X.K C m f) (F : L2H.FnH X.prog X.w X.K X.mg X.base CX k f fd ps sp) (hr : L2H.RoomH k X.A) (hc : L2H.HotC X) (hb : Binds X.K fd ps []) (hx : Passes CX X E) (ha : PA X (e :: es) t)
    (hst : starEach (e :: es) X.env = (false, eval e X.env) :: starEach es X.env := by rfl) (hpl : (backTo pos (starEach es X.env)).any (·.1) = false := by rfl)
    (ht : eval (.Call (.Attribute o m apos) (e :: es) [] pos) X.env = (do let ov ← eval o X.env; standAt apos.atName; let (f, first) ← holding [ov] (getMethod ov m pl); callWith pos f first (backTo pos (starEach (e :: es) X.env)) (backToKw pos (keywordEach [] X.env))) := by rfl) :
    PE X (.Call (.Attribute o m apos) (e :: es) [] pos) (tMeth C m sp [] E ta t) :=
  pe_weak (L2H.pe_methH (E := fun _ => E) he c hm F hr hc hb (fun σ pins H s e s' I c => hx pins σ H s e s' I c) ha hst hpl ht) fun σ H Q a => by
    have a' : ta σ H fun x H1 => ∃ a dx fs, x = V.ref a ∧ H1 a = some (.ins C dx fs) ∧ fs.lookup m = none ∧ t σ H1 fun vs H2 => sp (x :: (vs ++ [])) H2 Q E := a
    simp only [List.append_nil] at a'
    exact a'
theorem peH_meth0 {pl : Sem Bool} (he : PE X o ta) (c : Cls X.K C) (hm : Meth X.K C m f) (F : L2H.FnH X.prog X.w X.K X.mg X.base CX k f fd ps sp) (hr : L2H.RoomH k X.A) (hc : L2H.HotC X) (hb : Binds X.K fd ps []) (hx : Passes CX X E)
    (ht : eval (.Call (.Attribute o m apos) [] [] pos) X.env = (do let ov ← eval o X.env; standAt apos.atName; let (f, first) ← holding [ov] (getMethod ov m pl); callWith pos f first (backTo pos (starEach [] X.env)) (backToKw pos (keywordEach [] X.env))) := by rfl) :
    PE X (.Call (.Attribute o m apos) [] [] pos) (tMeth C m sp [] E ta tNil) := by
  constructor
  intro pins s σ H Q I asks
  refine PySem.W.methodCall_KW (pl := pl) (thn (he.run pins s σ H _ I asks) fun u s1 ⟨v, H1, I1, rv, a, dx, fs, ev, ea, l, q⟩ => ?_) ht
  subst ev
  obtain rfl : u = Value.ref a := rv
  have q' : sp [.ref a] H1 Q E := q
  exact getmeth_ok I1 ea c hm l (PySem.W.callWith_K0 (first := [.ref a]) I1.kIn hm.kp (L2H.run_fnH (us := [.ref a]) (vs := [.ref a]) (E := fun _ => E) F hr hc hb (fun pins H s e s' I c => hx pins σ H s e s' I c) I1 (.cons rfl .nil) q'))
theorem funD_okH {P : Program} {w : World} {K : PySem.W.Frag} {mg : Str → Option Value} {base : Heap} {CX : CXT} {x qual : Str} {params : Arguments} {body : List Stmt} {scope : Scope} {dvs : List V} {kws : List (Str × V)} {f : Addr} {fd : FuncData} {N ps : List Str} {k : Nat} {sp : Sp}
    (F : FunD K x qual params body scope dvs kws f fd) (S : FnScope N ps scope) (len : ∀ vs H Q E, sp vs H Q E → vs.length = ps.length)
    (hbody : ∀ (cdv : Value) (A : Around) (outer : List Env) (s : Shared) (H : Hp) (vs : List V) (Q : VK) (E : XK) (p : Addr × Obj), L2H.Hot1 A p → L2H.RoomH k (A.deeper (envOfC qual scope s.heap.objs.size f cdv)) → sp vs H Q E →
      ∃ t, PSs (L2H.cxH CX P w K mg base N qual scope f cdv A outer s H E p) body t ∧ t { nx := fun _ H' => Q .non H', rt := Q } (L2.start N vs) H) : L2H.FnH P w K mg base CX (k + 1) f fd ps sp := by
  obtain ⟨_, _, _, _, _, _, _, code, _, _, e, at_, coded, _⟩ := F.ex
  subst e
  exact L2H.fn_ofH at_ coded S len (hbody code)
end

/-! ### the methods, called where an exception is handled -/
theorem r_forsA {te : TE} {g : TG} {tb : TS} {D : Ends} {σ : L2.St} {H : Hp} (h : te σ H fun v H1 => ∃ x : Str, v = V.str x ∧ x.cps.all (· < 128) = true ∧ Fors (Its x) g tb D σ H1) : tFor (iStrA te) g tb D σ H := h
def pen1 : Lt := ⟨"pen", 1, 1, 1⟩
theorem pen1_ok : isItem pen1.item = true ∧ numOk pen1 ∧ pen1.item.cps.all (· < 128) = true := ⟨by decide +kernel, by decide, by decide +kernel⟩
def spHIsItem (_ : PySem.W.Frag) : Sp := fun vs H Q _ => ∃ z : Str, vs = [.str z] ∧ z.cps.all (· < 128) = true ∧ z.length ≤ 100000 ∧ Q (.bl (isItem z)) H
theorem lenH_IsItem {K : PySem.W.Frag} {vs : List V} {H : Hp} {Q : VK} {E : XK} (h : spHIsItem K vs H Q E) : vs.length = 1 := by
  obtain ⟨_, rfl, _⟩ := h; rfl
theorem okH_IsItem {P : Program} {w : World} {K : PySem.W.Frag} {mg : Str → Option Value} {base : Heap} (T : Tx w K mg) : L2H.FnH P w K mg base CX0 1 (He.fAd K dIsItem.at_) (fdO K dIsItem.at_) P_IsItem (spHIsItem K) := by
  refine funD_okH T.f_IsItem sc_IsItem (fun vs H Q E h => lenH_IsItem h) (fun cdv A outer s H vs Q E p hot hr h => ⟨_, PSs.nox ((pss_cons (L2H.ps_forH PassesOwn.never ⟨p, hot, List.mem_cons_self⟩ (piH_str (pv 0)) (pg_name (i := 1) sc_IsItem.nd rfl (Or.inl rfl)) (pss_one (ps_if (pt_cmpR op_notIn_sign (pv 1) (pe_gc rfl T.c_LETTERS) (by rfl)) (pss_one (ps_ret pe_bl)) pss_nil)))
      (pss_one (ps_ret (pe_chain op_le op_le pe_int (pe_callB call_len_str (by rfl) T.b_len (by decide +kernel) (pa_cons (pv 0) pa_nil)) (pe_gc rfl T.c_MOST_LETTERS)))))), ?_⟩)
  obtain ⟨z, rfl, low, hz, q⟩ := h
  walk_at "rd"
  refine r_forsA ?_
  walk_at "rd"
  refine ⟨z, rfl, low, for_it walk_str (fun i σ H' => ∃ v, σ = [some (.str z), v] ∧ H' = H ∧ ∀ j c, j < i → z.cps[j]? = some c → c ∈ letters.cps.toList) ⟨none, rfl, rfl, fun j c hj => absurd hj (Nat.not_lt_zero _)⟩ (fun _ _ _ _ _ => trivial) ?_ ?_⟩
  · rintro i x σ H1 H2 hi ⟨v, rfl, rfl, hp⟩ ⟨rfl, c, hc, rfl⟩
    walk_at "rd"
    refine ⟨c, _, rfl, rfl, ?_⟩
    walk_at "rd"
    refine r_itn (fun hn => ?_) (fun hy => ?_)
    · walk_at "rd"
      rw [isItem_no hc hn] at q
      exact q
    · walk_at "rd"
      refine ⟨_, rfl, rfl, fun j c' hj e => ?_⟩
      by_cases h : j = i
      · subst h
        rw [hc] at e
        rw [← Option.some.inj e]
        exact hy
      · exact hp j c' (by omega) e
  · rintro σ H1 ⟨v, rfl, rfl, hp⟩
    walk_at "rd"
    refine ⟨z, rfl, sz5 hz, ?_⟩
    rw [isItem_yes hp] at q
    walk_at "rd"
    refine r_itd (fun h1 => ?_) (fun h1 => ?_)
    · walk_at "rd"
      have e : decide (1 ≤ z.length ∧ z.length ≤ 12) = decide ((z.length : Int) ≤ 12) := by
        by_cases h2 : z.length ≤ 12
        · rw [decide_eq_true (by omega), decide_eq_true (by omega)]
        · rw [decide_eq_false (by omega), decide_eq_false (by omega)]
      rw [e] at q
      exact q
    · rw [decide_eq_false (by omega)] at q
      exact q

def spHCheckLine (_ : PySem.W.Frag) : Sp := fun vs H Q _ => ∃ v : V, vs = [v] ∧ LtAt H v pen1 ∧ Q .non H
theorem lenH_CheckLine {K : PySem.W.Frag} {vs : List V} {H : Hp} {Q : VK} {E : XK} (h : spHCheckLine K vs H Q E) : vs.length = 1 := by
  obtain ⟨_, rfl, _⟩ := h; rfl
theorem okH_CheckLine {P : Program} {w : World} {K : PySem.W.Frag} {mg : Str → Option Value} {base : Heap} (T : Tx w K mg) : L2H.FnH P w K mg base CX0 2 (He.fAd K dCheckLine.at_) (fdO K dCheckLine.at_) P_CheckLine (spHCheckLine K) := by
  refine funD_okH T.f_CheckLine sc_CheckLine (fun vs H Q E h => lenH_CheckLine h) (fun cdv A outer s H vs Q E p hot hr h => ⟨_, PSs.nox ((pss_cons (ps_if (pt_not (pt_val (peH_call (okH_IsItem T) (hr.mono (by decide)) ⟨p, hot, List.mem_cons_self⟩ rfl T.g_IsItem T.f_IsItem.kp T.b_IsItem pass0 (pa_cons (pe_ix ix_tup (pv 0) pe_int (fun _ _ => rfl)) pa_nil)))) (pss_one ps_never) pss_nil)
      (pss_cons (ps_if (pt_not (pt_chain op_le op_le pe_int (pe_ix ix_tup (pv 0) pe_int (fun _ _ => rfl)) (pe_gc rfl T.c_MOST_PIECES))) (pss_one ps_never) pss_nil)
      (pss_one (ps_if (PW.pt (pw_or (pt_not (pt_chain op_le op_le pe_int (pe_ix ix_tup (pv 0) pe_int (fun _ _ => rfl)) (pe_gc rfl T.c_MOST_CENTS))) (pw_or1 (pt_not (pt_chain op_le op_le pe_int (pe_ix ix_tup (pv 0) pe_int (fun _ _ => rfl)) (pe_gc rfl T.c_MOST_PACK)))))) (pss_one ps_never) pss_nil))))), ?_⟩)
  obtain ⟨v, rfl, ⟨a, rfl, ha⟩, k⟩ := h
  have pi := pen1_ok.1
  walk_at "rd"
  refine r_ixT (SqT.of ha) (atI_get (j := 0) rfl rfl) ?_
  walk_at "rd"
  refine ⟨pen1.item, rfl, pen1_ok.2.2, by decide +kernel, ?_⟩
  rw [pi]
  walk_at "rd"
  refine r_ixT (SqT.of ha) (atI_get (j := 1) rfl rfl) ?_
  walk_at "rd"
  refine r_ity (by decide) ?_
  walk_at "rd"
  refine r_itn (fun c => absurd (by decide) c) (fun _ => ?_)
  walk_at "rd"
  refine r_ixT (SqT.of ha) (atI_get (j := 2) rfl rfl) ?_
  walk_at "rd"
  refine r_ity (by decide) ?_
  walk_at "rd"
  refine r_itn (fun c => absurd (by decide) c) (fun _ => ?_)
  walk_at "rd"
  refine r_ixT (SqT.of ha) (atI_get (j := 3) rfl rfl) ?_
  walk_at "rd"
  refine r_ity (by decide) ?_
  walk_at "rd"
  refine r_itn (fun c => absurd (by decide) c) (fun _ => ?_)
  walk_at "rd"
  exact k
abbrev spHLineInit (K : PySem.W.Frag) := spLineInit K
abbrev lenH_LineInit {K : PySem.W.Frag} {vs : List V} {H : Hp} {Q : VK} {E : XK} (h : spHLineInit K vs H Q E) := len_LineInit h
theorem okH_LineInit {P : Program} {w : World} {K : PySem.W.Frag} {mg : Str → Option Value} {base : Heap} (T : Tx w K mg) : L2H.FnH P w K mg base CX0 1 (He.fAd K dLineInit.at_) (fdO K dLineInit.at_) P_LineInit (spHLineInit K) := by
  refine funD_okH T.f_LineInit sc_LineInit (fun vs H Q E h => lenH_LineInit h) (fun cdv A outer s H vs Q E p hot hr h => ⟨_, PSs.nox ((pss_cons (ps_fld (pv 0) (pe_ix ix_tup (pv 1) pe_int (fun _ _ => rfl)) rfl)
      (pss_cons (ps_fld (pv 0) (pe_ix ix_tup (pv 1) pe_int (fun _ _ => rfl)) rfl)
      (pss_cons (ps_fld (pv 0) (pe_ix ix_tup (pv 1) pe_int (fun _ _ => rfl)) rfl)
      (pss_cons (ps_fld (pv 0) (pe_ix ix_tup (pv 1) pe_int (fun _ _ => rfl)) rfl)
      (pss_cons (ps_fld (pv 0) pe_int rfl)
      (pss_cons (ps_fld (pv 0) pe_int rfl)
      (pss_cons (ps_fld (pv 0) pe_int rfl)
      (pss_one (ps_fld (pv 0) pe_int rfl)))))))))), ?_⟩)
  obtain ⟨a, dx, v, t, rfl, ha, ⟨b, rfl, hb⟩, k⟩ := h
  have ab : b ≠ a := ne_of hb ha (by intro q; cases q)
  walk_at "rd"
  refine r_ixT (SqT.of hb) (atI_get (j := 0) rfl rfl) ?_
  walk_at "rd"
  refine r_sf ha T.cl_Line T.n_Line_item (by walk_at "pf") (by simp) ?_
  walk_at "rd"
  refine r_ixT (SqT.of (by rw [upd_ne ab]; exact hb)) (atI_get (j := 1) rfl rfl) ?_
  walk_at "rd"
  refine r_sf upd_same T.cl_Line T.n_Line_ordered (by walk_at "pf") (by simp) ?_
  rw [upd_upd]
  walk_at "rd"
  refine r_ixT (SqT.of (by rw [upd_ne ab]; exact hb)) (atI_get (j := 2) rfl rfl) ?_
  walk_at "rd"
  refine r_sf upd_same T.cl_Line T.n_Line_cents (by walk_at "pf") (by simp) ?_
  rw [upd_upd]
  walk_at "rd"
  refine r_ixT (SqT.of (by rw [upd_ne ab]; exact hb)) (atI_get (j := 3) rfl rfl) ?_
  walk_at "rd"
  refine r_sf upd_same T.cl_Line T.n_Line_pack (by walk_at "pf") (by simp) ?_
  rw [upd_upd]
  walk_at "rd"
  refine r_sf upd_same T.cl_Line T.n_Line_sent (by walk_at "pf") (by simp) ?_
  rw [upd_upd]
  walk_at "rd"
  refine r_sf upd_same T.cl_Line T.n_Line_home (by walk_at "pf") (by simp) ?_
  rw [upd_upd]
  walk_at "rd"
  refine r_sf upd_same T.cl_Line T.n_Line_again (by walk_at "pf") (by simp) ?_
  rw [upd_upd]
  walk_at "rd"
  refine r_sf upd_same T.cl_Line T.n_Line_credited (by walk_at "pf") (by simp) ?_
  rw [upd_upd]
  walk_at "rd"
  exact k _ ⟨dx, upd_same⟩ (But.ins ha rfl)
abbrev spHOrderInit (K : PySem.W.Frag) := spOrderInit K
abbrev lenH_OrderInit {K : PySem.W.Frag} {vs : List V} {H : Hp} {Q : VK} {E : XK} (h : spHOrderInit K vs H Q E) := len_OrderInit h
theorem okH_OrderInit {P : Program} {w : World} {K : PySem.W.Frag} {mg : Str → Option Value} {base : Heap} (T : Tx w K mg) : L2H.FnH P w K mg base CX0 3 (He.fAd K dOrderInit.at_) (fdO K dOrderInit.at_) P_OrderInit (spHOrderInit K) := by
  refine funD_okH T.f_OrderInit sc_OrderInit (fun vs H Q E h => lenH_OrderInit h) (fun cdv A outer s H vs Q E p hot hr h => ⟨_, PSs.nox ((pss_cons (ps_fld (pv 0) (peH_lc (own := [("told", 2)]) (g := gName 2) ⟨p, hot, List.mem_cons_self⟩ sc_OrderInit.nd (piH_list (pv 1)) (blkOk_by (N := N_OrderInit) (sc := defScope sOrderInit) (by decide +kernel)) (fun _ _ _ _ _ _ => pg_name (i := 2) sc_OrderInit.nd rfl (Or.inl rfl)) (fun _ _ _ _ _ p hot => (peH_make T.mk_Line (okH_LineInit T) (hr.mono (by decide)) ⟨p, hot, List.mem_cons_self⟩ rfl T.g_Line T.b_LineInit pass0 (pa_cons (pv 2) pa_nil)))) rfl)
      (pss_cons (ps_fld (pv 0) pe_int rfl)
      (pss_one (ps_fld (pv 0) (pe_lst pa_nil) rfl))))), ?_⟩)
  obtain ⟨a, dx, l, xs, ts, rfl, ha, hl, pt, hz, k⟩ := h
  walk_at "rd"
  refine ⟨l, rfl, ⟨xs, hl⟩, fun D hD => ?_⟩
  refine lc_list (K := K) (a := l) (xs := xs) (fun i H' => ∃ as : List Addr, as.length = i ∧ H' D = some (.lst (as.map V.ref)) ∧ as.Nodup ∧ Same H H' ∧ (∀ b, b ∈ as → H b = none ∧ b ≠ D) ∧
    ∀ (j : Nat) b t, as[j]? = some b → ts[j]? = some t → LnAt K H' b t.ln) ⟨[], rfl, upd_same, List.nodup_nil, same_upd hD, fun b hb => (by cases hb), fun j b t h => by simp at h⟩ (fun i H' _ ⟨_, _, _, _, s, _⟩ => s.seq hl) ?_ ?_
  · rintro i x H' hi ⟨as, hlen, hd, nd, s, fr, hln⟩
    have hi2 : i < ts.length := by rw [← pt.length]; exact (List.getElem?_eq_some_iff.mp hi).1
    have ht : LtAt H' x ts[i] := (But.of (S := fun _ => False) s).lt (Paired.get pt hi (List.getElem?_eq_getElem hi2))
    refine ⟨wipe1, r_yes (r_itT ?_)⟩
    walk_at "rd"
    intro y dy ny ndy ne
    have s1 : Same H' (upd (upd H' dy (.own y)) y (.ins (He.ga K "Line") dy [])) := fun b o e => by
      rw [upd_ne (ne_of_none e ny), upd_ne (ne_of_none e ndy)]
      exact e
    refine ⟨y, dy, x, ts[i], rfl, upd_same, (But.of (S := fun _ => False) s1).lt ht, fun H2 h2 b2 => ⟨rfl, ?_⟩⟩
    have s2 : Same H' H2 := fun b o e => b2.keep _ _ (s1 _ _ e) (ne_of_none e ny)
    have nyD : y ≠ D := Ne.symm (ne_of_none hd ny)
    have nya : ¬ y ∈ as := fun hm => by
      obtain ⟨j, hj⟩ := List.getElem?_of_mem hm
      have hj2 : j < as.length := (List.getElem?_eq_some_iff.mp hj).1
      have hjt : j < ts.length := by omega
      obtain ⟨_, q⟩ := hln j y _ hj (List.getElem?_eq_getElem hjt)
      rw [q] at ny
      cases ny
    refine ⟨_, s2 _ _ hd, ?_, as ++ [y], by simp [hlen], ?_, nodup_snoc nd nya, ?_, ?_, ?_⟩
    · refine sz5l ?_
      rw [List.length_map, hlen]
      have := (List.getElem?_eq_some_iff.mp hi).1
      omega
    · rw [upd_same, List.map_append]; rfl
    · exact fun b o e => by
        rw [upd_ne (ne_of_none e hD)]
        exact s2 _ _ (s _ _ e)
    · intro b hb
      rcases List.mem_append.mp hb with h | h
      · exact fr b h
      · have e : b = y := by simpa using h
        subst e
        exact ⟨Same.free s ny, nyD⟩
    · intro j b t e1 e2
      by_cases hj : j < as.length
      · rw [List.getElem?_append_left hj] at e1
        obtain ⟨d, q⟩ := hln j b t e1 e2
        exact ⟨d, by rw [upd_ne (fr b (List.mem_of_getElem? e1)).2]; exact s2 _ _ q⟩
      · have hj2 : j = as.length := by
          have := (List.getElem?_eq_some_iff.mp e1).1
          simp at this
          omega
        subst hj2
        rw [List.getElem?_append_right (Nat.le_refl _), Nat.sub_self] at e1
        cases e1
        rw [hlen, List.getElem?_eq_getElem hi2] at e2
        cases e2
        obtain ⟨d, q⟩ := h2
        exact ⟨d, by rw [upd_ne nyD]; exact q⟩
  · rintro H2 ⟨as, hlen, hd, nd, s, fr, hln⟩
    have Da : a ≠ D := ne_of_none ha hD
    walk_at "rd"
    refine r_sf (s _ _ ha) T.cl_Order T.n_Order_lines (by walk_at "pf") (by simp) ?_
    walk_at "rd"
    refine r_sf upd_same T.cl_Order T.n_Order_money (by walk_at "pf") (by simp) ?_
    rw [upd_upd]
    walk_at "rd"
    refine r_mk (by simp) fun M hM => ?_
    have hM2 : H2 M = none := by
      by_cases z : M = a
      · subst z
        rw [upd_same] at hM
        cases hM
      · rw [upd_ne z] at hM
        exact hM
    have aM : a ≠ M := ne_of_none (s _ _ ha) hM2
    walk_at "rd"
    refine r_sf (by rw [upd_ne aM]; exact upd_same) T.cl_Order T.n_Order_marks (by walk_at "pf") (by simp) ?_
    have DM : D ≠ M := ne_of_none hd hM2
    have b1 : But (· = a) H (upd (upd (upd H2 a (.ins (He.ga K "Order") dx [("lines", .ref D), ("money", .int 0)])) M (.lst [])) a (.ins (He.ga K "Order") dx [("lines", .ref D), ("money", .int 0), ("marks", .ref M)])) := by
      have c1 : But (· = a) H (upd H2 a (.ins (He.ga K "Order") dx [("lines", .ref D), ("money", .int 0)])) := (But.of s).trans (But.ins (s _ _ ha) rfl)
      have c2 : But (· = a) H (upd (upd H2 a (.ins (He.ga K "Order") dx [("lines", .ref D), ("money", .int 0)])) M (.lst [])) := c1.trans (But.of (same_upd hM))
      exact c2.trans (But.ins (C := He.ga K "Order") (dx := dx) (fs := [("lines", .ref D), ("money", .int 0)]) (by rw [upd_ne aM]; exact upd_same) rfl)
    refine k ⟨a, D, M, as⟩ _ rfl ⟨⟨dx, upd_same⟩, ?_, by simp [hlen, pt.length], fun i c m e1 e2 => ?_, nd, DM, [], ?_, .nil⟩ ?_ b1
    · show upd _ _ _ D = _
      rw [upd_ne (Ne.symm Da), upd_ne DM, upd_ne (Ne.symm Da)]
      exact hd
    · have e2' : (ts.map Lt.ln)[i]? = some m := e2
      rw [List.getElem?_map] at e2'
      cases et : ts[i]? with
      | none => rw [et] at e2'; cases e2'
      | some t =>
        rw [et] at e2'
        cases e2'
        obtain ⟨d, q⟩ := hln i c t e1 et
        have ca : c ≠ a := Ne.symm (ne_of_none ha (fr c (List.mem_of_getElem? e1)).1)
        have cM : c ≠ M := ne_of_none q hM2
        exact ⟨d, by rw [upd_ne ca, upd_ne cM, upd_ne ca]; exact q⟩
    · show upd _ _ _ M = _
      rw [upd_ne (Ne.symm aM)]
      exact upd_same
    · intro b hb
      rcases hb with h | h | h | h
      · exact .inl h
      · rw [h]; exact .inr hD
      · rw [h]; exact .inr (Same.free s hM2)
      · exact .inr (fr b h).1
def spHOwn (_ : PySem.W.Frag) : Sp := fun vs H Q _ => ∃ (v : V) (ls : List Lt), vs = [v] ∧ DdAt (fun _ => True) H v (.ord ls) ∧ ls.length ≤ 100000 ∧ ∀ v' H', Same H H' → DdAt (fun a => H a = none) H' v' (.ord ls) → Q v' H'
theorem lenH_Own {K : PySem.W.Frag} {vs : List V} {H : Hp} {Q : VK} {E : XK} (h : spHOwn K vs H Q E) : vs.length = 1 := by
  obtain ⟨_, _, rfl, _⟩ := h; rfl
theorem okH_Own {P : Program} {w : World} {K : PySem.W.Frag} {mg : Str → Option Value} {base : Heap} (T : Tx w K mg) : L2H.FnH P w K mg base CX0 1 (He.fAd K dOwn.at_) (fdO K dOwn.at_) P_Own (spHOwn K) := by
  refine funD_okH T.f_Own sc_Own (fun vs H Q E h => lenH_Own h) (fun cdv A outer s H vs Q E p hot hr h => ⟨_, PSs.nox ((pss_cons (ps_if (pt_cmpR op_eq (pe_ix ix_tup (pv 0) pe_int (fun _ _ => rfl)) pe_str (nomark _)) (pss_one (ps_ret (pe_tup (pa_cons pe_str (pa_cons (peH_lc (own := [("line", 1)]) (g := gName 1) ⟨p, hot, List.mem_cons_self⟩ sc_Own.nd (piH_list (pe_ix ix_tup (pv 0) pe_int (fun _ _ => rfl))) (blkOk_by (N := N_Own) (sc := defScope sOwn) (by decide +kernel)) (fun _ _ _ _ _ _ => pg_name (i := 1) sc_Own.nd rfl (Or.inl rfl)) (fun _ _ _ _ _ p hot => (pv 1))) pa_nil))))) pss_nil)
      (pss_one (ps_ret (pv 0))))), ?_⟩)
  obtain ⟨v, ls, rfl, ⟨t, l, xs, rfl, ht, hl, _, pt⟩, few, k⟩ := h
  walk_at "rd"
  refine r_ixT (SqT.of ht) (atI_get (j := 0) rfl rfl) ?_
  walk_at "rd"
  refine r_ity rfl ?_
  walk_at "rd"
  refine r_ixT (SqT.of ht) (atI_get (j := 1) rfl rfl) ?_
  refine lcp_list (ys := xs) (SqL.of hl) rfl (by rw [pt.length]; exact few) (fun i x y H' R ex ey s q => ?_) (fun D H' hD s e => ?_)
  · rw [ex] at ey
    cases ey
    walk_at "rd"
    exact q _ (Same.refl _)
  · walk_at "rd"
    refine r_mk (by simp) fun t2 ht2 => ?_
    refine k _ _ (s.trans (same_upd ht2)) ⟨t2, D, xs, rfl, upd_same, by rw [upd_ne (ne_of_none e ht2)]; exact e, hD, ?_⟩
    exact (But.of (S := fun _ => False) (s.trans (same_upd ht2))).lts pt
def spHBookBegin (K : PySem.W.Frag) : Sp := fun vs H Q _ => ∃ (b : Addr) (B : Bk) (L : Lay) (l : Addr) (xs : List V), vs = [.ref b, .ref l] ∧ BookAt K H b B L ∧ B.each.length < 40 ∧ H l = some (.lst xs) ∧ LtsAt H xs [pen1] ∧
  ∀ r L' H', BookAt K H' b { B with each := B.each ++ [⟨[pen1].map Lt.ln, 0, []⟩] } L' → Mod L L' H H' → (∀ a, H' a = none → H a = none) → H r = none → L'.own r = .no → H' r = some (.lst []) → Q (.ref r) H'
theorem lenH_BookBegin {K : PySem.W.Frag} {vs : List V} {H : Hp} {Q : VK} {E : XK} (h : spHBookBegin K vs H Q E) : vs.length = 2 := by
  obtain ⟨_, _, _, _, _, rfl, _⟩ := h; rfl
theorem okH_BookBegin {P : Program} {w : World} {K : PySem.W.Frag} {mg : Str → Option Value} {base : Heap} (T : Tx w K mg) : L2H.FnH P w K mg base CX0 5 (He.fAd K dBookBegin.at_) (fdO K dBookBegin.at_) P_BookBegin (spHBookBegin K) := by
  refine funD_okH T.f_BookBegin sc_BookBegin (fun vs H Q E h => lenH_BookBegin h) (fun cdv A outer s H vs Q E p hot hr h => ⟨_, PSs.nox ((pss_cons (ps_if (pt_not (pt_chain op_le op_le pe_int (pe_callB call_len_seq (by rfl) T.b_len (by decide +kernel) (pa_cons (pv 1) pa_nil)) (pe_gc rfl T.c_MOST_LINES))) (pss_one ps_never) pss_nil)
      (pss_cons (L2H.ps_forH PassesOwn.never ⟨p, hot, List.mem_cons_self⟩ (piH_list (pv 1)) (pg_name (i := 2) sc_BookBegin.nd rfl (Or.inl rfl)) (pss_one (ps_expr (peH_call (okH_CheckLine T) (hr.mono (by decide)) ⟨p, hot, List.mem_cons_self⟩ rfl T.g_CheckLine T.f_CheckLine.kp T.b_CheckLine pass0 (pa_cons (pv 2) pa_nil)))))
      (pss_cons (ps_if (pt_cmpR op_eq (pe_callB call_len_seq (by rfl) T.b_len (by decide +kernel) (pa_cons (pe_fld (pv 0) rfl) pa_nil)) (pe_gc rfl T.c_MOST_ORDERS) (nomark _)) (pss_one ps_never) pss_nil)
      (pss_cons (ps_expr (pe_bm PySem.F.plainAttrs_list PySem.F.slot_list_append PySem.F.type_list_append mt_append (pe_fld (pv 0) rfl) (pa_cons (peH_make T.mk_Order (okH_OrderInit T) (hr.mono (by decide)) ⟨p, hot, List.mem_cons_self⟩ rfl T.g_Order T.b_OrderInit pass0 (pa_cons (pv 1) pa_nil)) pa_nil)))
      (pss_one (ps_ret (pe_lst pa_nil)))))))), ?_⟩)
  obtain ⟨b, B, L, l, xs, rfl, h, hfew, hl, pt, k⟩ := h
  obtain ⟨dx, hb⟩ := h.ob
  have len : xs.length = 1 := pt.length
  walk_at "rd"
  refine ⟨_, _, rfl, .inl (SqL.of hl), ?_⟩
  walk_at "rd"
  refine r_ity (by omega) ?_
  walk_at "rd"
  refine r_itn (fun c2 => absurd (by omega) c2) (fun c2 => ?_)
  walk_at "rd"
  refine ⟨l, rfl, ⟨xs, SqL.of hl⟩, for_list (K := K) (a := l) (xs := xs) (fun i σ H' => ∃ v, σ = [some (.ref b), some (.ref l), v] ∧ H' = H)
    ⟨none, rfl, rfl⟩ (fun i σ H' _ ⟨_, _, e⟩ => by rw [e]; exact SqL.of hl) ?_ ?_⟩
  · rintro i x σ H' hi ⟨v, rfl, rfl⟩
    have hi2 : i < ([pen1] : List Lt).length := by rw [← pt.length]; exact (List.getElem?_eq_some_iff.mp hi).1
    have i0 : i = 0 := by simpa using hi2
    subst i0
    have et : ([pen1] : List Lt)[0]? = some pen1 := rfl
    walk_at "rd"
    exact ⟨x, rfl, Paired.get pt hi et, _, rfl, rfl⟩
  · rintro σ H' ⟨v, rfl, rfl⟩
    walk_at "rd"
    refine r_f hb T.cl_Book T.n_Book_each (lk_Book_each _ _) ?_
    walk_at "rd"
    refine ⟨_, _, rfl, .inl (SqL.of h.ev), ?_⟩
    walk_at "rd"
    rw [List.length_map, h.len]
    refine r_itz (by omega) ?_
    walk_at "rd"
    refine r_f hb T.cl_Book T.n_Book_each (lk_Book_each _ _) ?_
    refine r_tyL (SqL.of h.ev) ?_
    walk_at "rd"
    intro x dy nx ndy ne
    have s1 : Same H' (upd (upd H' dy (.own x)) x (.ins (He.ga K "Order") dy [])) := fun a u e => by
      rw [upd_ne (ne_of_none e nx), upd_ne (ne_of_none e ndy)]
      exact e
    refine ⟨x, dy, l, xs, [pen1], rfl, upd_same, s1.seq (SqL.of hl), (But.of (S := fun _ => False) s1).lts pt, by omega, fun p H2 hpo O hfr b2 => ⟨rfl, ?_⟩⟩
    have s2 : Same H' H2 := fun a u e => b2.keep _ _ (s1 _ _ e) (ne_of_none e nx)
    walk_at "rd"
    refine r_app (s2 _ _ h.ev) (by rw [List.length_map, h.len]; refine sz5l ?_; omega) ?_
    have hfoot : ∀ a, p.foot a → H' a = none := fun a f => by
      rcases hfr a f with z | z
      · rw [z]; exact nx
      · exact Same.free s1 z
    obtain ⟨BA, MA⟩ := h.add hfoot O s2
    have e3 : (L.ords ++ [p]).map (fun p => V.ref p.o) = L.ords.map (fun p => V.ref p.o) ++ [V.ref x] := by
      rw [List.map_append, ← hpo]; rfl
    rw [e3] at BA MA
    walk_at "rd"
    refine r_mk (by simp) fun r hr => ?_
    have back : ∀ a, upd H2 L.each (.lst (L.ords.map (fun p => V.ref p.o) ++ [V.ref x])) a = none → H' a = none := fun a e => by
      by_cases z : a = L.each
      · rw [z, upd_same] at e; cases e
      · rw [upd_ne z] at e
        exact Same.free s2 e
    refine k r (L.add p) _ (BA.same (same_upd hr)) ⟨MA.but.trans (But.of (same_upd hr)), MA.grow⟩ (fun a e => back a ?_) (back r hr) (BA.fresh hr) upd_same
    by_cases z : a = r
    · rw [z, upd_same] at e; cases e
    · rw [upd_ne z] at e
      exact e
def spHBookDo (K : PySem.W.Frag) : Sp := fun vs H Q _ => ∃ (b : Addr) (B : Bk) (L : Lay) (v : V), vs = [.ref b, v] ∧ BookAt K H b B L ∧ B.each.length < 40 ∧ B.trail.length < 100000 ∧ DdAt (fun a => L.own a = .no) H v (.ord [pen1]) ∧
  ∀ r L' H', BookAt K H' b ⟨B.each ++ [⟨[pen1].map Lt.ln, 0, []⟩], B.trail ++ [.ord [pen1]]⟩ L' → Mod L L' H H' → Stay H H' → Q (.ref r) H'
theorem lenH_BookDo {K : PySem.W.Frag} {vs : List V} {H : Hp} {Q : VK} {E : XK} (h : spHBookDo K vs H Q E) : vs.length = 2 := by
  obtain ⟨_, _, _, _, rfl, _⟩ := h; rfl
theorem okH_BookDo {P : Program} {w : World} {K : PySem.W.Frag} {mg : Str → Option Value} {base : Heap} (T : Tx w K mg) : L2H.FnH P w K mg base CX0 7 (He.fAd K dBookDo.at_) (fdO K dBookDo.at_) P_BookDo (spHBookDo K) := by
  refine funD_okH T.f_BookDo sc_BookDo (fun vs H Q E h => lenH_BookDo h) (fun cdv A outer s H vs Q E p hot hr h => ⟨_, PSs.nox ((pss_cons (ps_if (PW.pt (pw_or (pt_cmpR op_eq (pe_callB call_len_seq (by rfl) T.b_len (by decide +kernel) (pa_cons (pv 1) pa_nil)) pe_int (nomark _)) (pw_or (pt_cmpR (op_notIn_pt T.kd) (pe_ix ix_tup (pv 1) pe_int (fun _ _ => rfl)) (pe_glob rfl T.c_PARTS (v := .ref (He.ga K "PARTS")) rfl) (by rfl)) (pw_or1 (pt_cmpR op_ne (pe_callB call_len_seq (by rfl) T.b_len (by decide +kernel) (pa_cons (pv 1) pa_nil)) (pe_ix ix_kdict (pe_glob rfl T.c_PARTS (v := .ref (He.ga K "PARTS")) rfl) (pe_ix ix_tup (pv 1) pe_int (fun _ _ => rfl)) (fun _ _ => rfl)) (nomark _)))))) (pss_one ps_never) pss_nil)
      (pss_cons (ps_if (pt_cmpR op_eq (pe_ix ix_tup (pv 1) pe_int (fun _ _ => rfl)) pe_str (nomark _)) (pss_one (ps_set (i := 2) sc_BookDo.nd rfl (Or.inl rfl) (peH_meth (pv 0) T.cl_Book T.m_Book_begin (okH_BookBegin T) (hr.mono (by decide)) ⟨p, hot, List.mem_cons_self⟩ T.b_BookBegin pass0 (pa_cons (pe_ix ix_tup (pv 1) pe_int (fun _ _ => rfl)) pa_nil)))) (pss_one (ps_if (pt_cmpR op_eq (pe_ix ix_tup (pv 1) pe_int (fun _ _ => rfl)) pe_str (nomark _)) (pss_one ps_never) (pss_one ps_never))))
      (pss_cons (ps_expr (pe_bm PySem.F.plainAttrs_list PySem.F.slot_list_append PySem.F.type_list_append mt_append (pe_fld (pv 0) rfl) (pa_cons (peH_call (okH_Own T) (hr.mono (by decide)) ⟨p, hot, List.mem_cons_self⟩ rfl T.g_Own T.f_Own.kp T.b_Own pass0 (pa_cons (pv 1) pa_nil)) pa_nil)))
      (pss_one (ps_ret (pv 2))))))), ?_⟩)
  obtain ⟨b, B, L, v, rfl, h, few, hz, hd, k⟩ := h
  obtain ⟨dx, hb⟩ := h.ob
  obtain ⟨t, l, xs, rfl, ht, hl, nl, pt⟩ := hd
  walk_at "rd"
  refine ⟨_, _, rfl, .inr (SqT.of ht), ?_⟩
  walk_at "rd"
  refine r_itz (by simp) ?_
  walk_at "rd"
  refine r_ixT (SqT.of ht) (atI_get (j := 0) rfl rfl) ?_
  walk_at "rd"
  have hp : parts.lookup ("order" : Str) = some 2 := by decide +kernel
  rcases T.pt ("order" : Str) with ⟨n, e1, u, e2, ru⟩ | ⟨e1, e2⟩
  rotate_left
  · rw [hp] at e1; cases e1
  have en : n = 2 := by
    rw [hp] at e1
    exact (Option.some.inj e1).symm
  refine ⟨"order", _, rfl, rfl, e2, ?_⟩
  walk_at "rd"
  refine r_itnT ?_
  walk_at "rd"
  refine ⟨_, _, rfl, .inr (SqT.of ht), ?_⟩
  walk_at "rd"
  refine r_ixT (SqT.of ht) (atI_get (j := 0) rfl rfl) ?_
  obtain ⟨es0, m0, lk, lit, ky, low⟩ := T.kd
  refine ⟨_, "order", .int n, rfl, rfl, ⟨es0, m0, u, lk, lit, e2, ru⟩, ?_⟩
  walk_at "rd"
  refine r_itn (fun c => absurd (by rw [en]; rfl) c) (fun c => ?_)
  walk_at "rd"
  refine r_ixT (SqT.of ht) (atI_get (j := 0) rfl rfl) ?_
  walk_at "rd"
  refine r_ity rfl ?_
  walk_at "rd"
  refine r_m hb (no_Book_begin _ _) ?_
  walk_at "rd"
  refine r_ixT (SqT.of ht) (atI_get (j := 1) rfl rfl) ?_
  walk_at "rd"
  refine ⟨b, B, L, l, xs, rfl, h, few, hl, pt, fun x L1 H1 h1 m1 st hx ox ex => ?_⟩
  obtain ⟨d1, hb1⟩ := h1.ob
  obtain ⟨ts, et, pts⟩ := h1.tr
  have hd1 : DdAt (fun _ => True) H1 (.ref t) (.ord [pen1]) := ⟨t, l, xs, rfl, m1.but.tup _ _ ht, m1.but.keep _ _ hl (fun z => z nl), trivial, m1.but.lts pt⟩
  walk_at "rd"
  refine r_f hb1 T.cl_Book T.n_Book_trail (lk_Book_trail _ _) ?_
  refine r_tyL (SqL.of et) ?_
  walk_at "rd"
  refine ⟨.ref t, [pen1], rfl, hd1, by decide, fun v3 H2 s2 hd2 => ?_⟩
  walk_at "rd"
  refine r_app (s2 _ _ et) (by rw [pts.length]; exact sz5l hz) ?_
  walk_at "rd"
  obtain ⟨L', h', m', own⟩ := h1.log s2 hd2 (s2 _ _ et)
  have st2 : Stay H1 (upd H2 L1.trail (.lst (ts ++ [v3]))) := fun a e => Same.free s2 (upd_none e).2
  exact k x L' _ h' (m1.trans m' st) (fun a e => st a (st2 a e))
def spHBookUndo (K : PySem.W.Frag) : Sp := fun vs H Q _ => ∃ (b : Addr) (B : Bk) (L : Lay) (d : Dd), vs = [.ref b] ∧ BookAt K H b B L ∧ B.trail = [d] ∧
  ∀ v L' H', BookAt K H' b ⟨[], []⟩ L' → Mod L L' H H' → Stay H H' → DdAt (fun _ => True) H' v d → Q v H'
theorem lenH_BookUndo {K : PySem.W.Frag} {vs : List V} {H : Hp} {Q : VK} {E : XK} (h : spHBookUndo K vs H Q E) : vs.length = 1 := by
  obtain ⟨_, _, _, _, rfl, _⟩ := h; rfl
theorem okH_BookUndo {P : Program} {w : World} {K : PySem.W.Frag} {mg : Str → Option Value} {base : Heap} (T : Tx w K mg) : L2H.FnH P w K mg base CX0 8 (He.fAd K dBookUndo.at_) (fdO K dBookUndo.at_) P_BookUndo (spHBookUndo K) := by
  refine funD_okH T.f_BookUndo sc_BookUndo (fun vs H Q E h => lenH_BookUndo h) (fun cdv A outer s H vs Q E p hot hr h => ⟨_, PSs.nox ((pss_cons (ps_if (pt_not (pt_truth (pe_fld (pv 0) rfl) (by intro _; rfl))) (pss_one ps_never) pss_nil)
      (pss_cons (ps_set (i := 1) sc_BookUndo.nd rfl (Or.inl rfl) (pe_fld (pv 0) rfl))
      (pss_cons (ps_fld (pv 0) (pe_lst pa_nil) rfl)
      (pss_cons (ps_fld (pv 0) (pe_lst pa_nil) rfl)
      (pss_cons (L2H.ps_forH PassesOwn.never ⟨p, hot, List.mem_cons_self⟩ (piH_list (pe_slice sl_list (pv 1) po_none (po_some (pe_un un_neg pe_int)))) (pg_name (i := 2) sc_BookUndo.nd rfl (Or.inl rfl)) (pss_one ps_never))
      (pss_one (ps_ret (pe_ix ix_list (pv 1) (pe_un un_neg pe_int) (fun _ _ => rfl)))))))))), ?_⟩)
  obtain ⟨b, B, L, d, rfl, h, tr, k⟩ := h
  obtain ⟨dx, hb⟩ := h.ob
  obtain ⟨ts, et, pt⟩ := h.tr
  rw [tr] at pt
  obtain ⟨t9, rfl⟩ : ∃ v, ts = [v] := by
    cases pt with
    | cons a b => cases b; exact ⟨_, rfl⟩
  have h9 : DdAt (fun a => L.own a = .deed) H t9 d := by
    cases pt with
    | cons a b => exact a
  walk_at "rd"
  refine r_f hb T.cl_Book T.n_Book_trail (lk_Book_trail _ _) ?_
  refine ⟨true, .inl ⟨[t9], SqL.of et, rfl⟩, ?_⟩
  have nlt : L.trail ≠ b := fun q => by
    have := h.rt
    rw [q, h.rb] at this
    cases this
  refine r_itnT ?_
  walk_at "rd"
  refine r_f hb T.cl_Book T.n_Book_trail (lk_Book_trail _ _) ?_
  walk_at "rd"
  refine r_mk (by simp) fun e0 he0 => ?_
  have be : b ≠ e0 := ne_of_none hb he0
  walk_at "rd"
  refine r_sf (by rw [upd_ne be]; exact hb) T.cl_Book T.n_Book_each (pt_Book_each _ _ _) (by simp [bkF]) ?_
  walk_at "rd"
  refine r_mk (by simp) fun t0 ht0 => ?_
  obtain ⟨tb, ht1⟩ := upd_none ht0
  obtain ⟨te, ht2⟩ := upd_none ht1
  walk_at "rd"
  refine r_sf (by rw [upd_ne (Ne.symm tb)]; exact upd_same) T.cl_Book T.n_Book_trail (pt_Book_trail _ _ _) (by simp [bkF]) ?_
  have c1 : But (· = b) H (upd H e0 (.lst [])) := But.of (same_upd he0)
  have c2 : But (· = b) H (upd (upd H e0 (.lst [])) b (.ins (He.ga K "Book") dx (bkF e0 L.trail))) := c1.trans (But.ins (C := He.ga K "Book") (dx := dx) (fs := bkF L.each L.trail) (by rw [upd_ne be]; exact hb) rfl)
  have c3 := c2.trans (But.of (S := (· = b)) (same_upd (o := .lst []) ht0))
  have c4 := c3.trans (But.ins (S := (· = b)) (o := .ins (He.ga K "Book") dx (bkF e0 t0)) (C := He.ga K "Book") (dx := dx) (fs := bkF e0 L.trail) (by rw [upd_ne (Ne.symm tb)]; exact upd_same) rfl)
  have ob : (L0 b e0 t0).own b = .book := by simp [L0]
  have oe : (L0 b e0 t0).own e0 = .each := by simp [L0, Ne.symm be]
  have ot : (L0 b e0 t0).own t0 = .trail := by simp [L0, tb, te]
  have on : ∀ a, (L0 b e0 t0).own a ≠ .no → a = b ∨ a = e0 ∨ a = t0 := fun a z => by
    by_cases h1 : a = b
    · exact .inl h1
    by_cases h2 : a = e0
    · exact .inr (.inl h2)
    by_cases h3 : a = t0
    · exact .inr (.inr h3)
    exact absurd (by simp [L0, h1, h2, h3]) z
  have ve : upd (upd (upd (upd H e0 (.lst [])) b (.ins (He.ga K "Book") dx (bkF e0 L.trail))) t0 (.lst [])) b (.ins (He.ga K "Book") dx (bkF e0 t0)) e0 = some (.lst []) := by
    rw [upd_ne (Ne.symm be), upd_ne (Ne.symm te), upd_ne (Ne.symm be)]; exact upd_same
  have vt : upd (upd (upd (upd H e0 (.lst [])) b (.ins (He.ga K "Book") dx (bkF e0 L.trail))) t0 (.lst [])) b (.ins (He.ga K "Book") dx (bkF e0 t0)) t0 = some (.lst []) := by
    rw [upd_ne tb]; exact upd_same
  have vb : upd (upd (upd (upd H e0 (.lst [])) b (.ins (He.ga K "Book") dx (bkF e0 L.trail))) t0 (.lst [])) b (.ins (He.ga K "Book") dx (bkF e0 t0)) b = some (.ins (He.ga K "Book") dx (bkF e0 t0)) := upd_same
  have st1 : Stay H (upd (upd (upd (upd H e0 (.lst [])) b (.ins (He.ga K "Book") dx (bkF e0 L.trail))) t0 (.lst [])) b (.ins (He.ga K "Book") dx (bkF e0 t0))) := fun a z => by
    obtain ⟨_, z1⟩ := upd_none z
    obtain ⟨_, z2⟩ := upd_none z1
    obtain ⟨_, z3⟩ := upd_none z2
    exact (upd_none z3).2
  revert ve vt vb st1 c4
  generalize upd (upd (upd (upd H e0 (.lst [])) b (.ins (He.ga K "Book") dx (bkF e0 L.trail))) t0 (.lst [])) b (.ins (He.ga K "Book") dx (bkF e0 t0)) = H1
  intro c4 ve vt vb st1
  have bk1 : BookAt K H1 b ⟨[], []⟩ (L0 b e0 t0) := ⟨⟨dx, vb⟩, ob, ve, oe, ⟨[], vt, .nil⟩, ot, rfl, fun j p o e1 => by simp [L0] at e1, fun j p e1 => by simp [L0] at e1, fun a z => by
    rcases on a z with h | h | h
    · exact ⟨_, by rw [h]; exact vb⟩
    · exact ⟨_, by rw [h]; exact ve⟩
    · exact ⟨_, by rw [h]; exact vt⟩⟩
  have et1 : H1 L.trail = some (.lst [t9]) := c4.keep _ _ et nlt
  walk_at "rd"
  refine r_sll (SqL.of et1) fun p1 hp1 => ?_
  have cut : cutV [t9] none (some (-1)) = [] := rfl
  rw [cut]
  have s2 := same_upd (o := .lst []) hp1
  have ep : upd H1 p1 (.lst []) p1 = some (.lst []) := upd_same
  revert s2 ep
  generalize upd H1 p1 (.lst []) = H2
  intro s2 ep
  walk_at "rd"
  refine ⟨p1, rfl, ⟨_, SqL.of ep⟩, for_list (tb := fun _ _ _ => False) (K := K) (a := p1) (xs := []) (fun i σ H' => σ = [some (.ref b), some (.ref L.trail), none] ∧ H' = H2) ⟨rfl, rfl⟩ (fun i σ H' _ ⟨_, e⟩ => by rw [e]; exact SqL.of ep) (fun i x σ H' hi => by simp at hi) ?_⟩
  rintro σ H3 ⟨rfl, rfl⟩
  walk_at "rd"
  refine r_ixL (SqL.of (s2 _ _ et1)) (show atI [t9] (-1) = some t9 from rfl) ?_
  refine k t9 (L0 b e0 t0) H3 (bk1.same s2) ⟨(c4.mono fun x q => ?_).trans (But.of s2), fun a z => ?_⟩ (fun a e => st1 a (Same.free s2 e)) ?_
  · have q' : x = b := q
    show L.own x ≠ .no
    rw [q', h.rb]; intro q; cases q
  · rcases on a z with q | q | q
    · exact .inl (by rw [q, h.rb]; intro q; cases q)
    · exact .inr (by rw [q]; exact he0)
    · exact .inr (by rw [q]; exact ht2)
  · exact (((h9.imp (F' := fun a => a ≠ b) fun a f _ w => by rw [w, h.rb] at f; cases f).keep c4 fun a f => f).keep (But.of (S := fun _ => False) s2) fun _ _ => id).imp fun _ _ _ => trivial
abbrev spHBookOrders (K : PySem.W.Frag) := spBookOrders K
abbrev lenH_BookOrders {K : PySem.W.Frag} {vs : List V} {H : Hp} {Q : VK} {E : XK} (h : spHBookOrders K vs H Q E) := len_BookOrders h
theorem okH_BookOrders {P : Program} {w : World} {K : PySem.W.Frag} {mg : Str → Option Value} {base : Heap} (T : Tx w K mg) : L2H.FnH P w K mg base CX0 1 (He.fAd K dBookOrders.at_) (fdO K dBookOrders.at_) P_BookOrders (spHBookOrders K) := by
  refine funD_okH T.f_BookOrders sc_BookOrders (fun vs H Q E h => lenH_BookOrders h) (fun cdv A outer s H vs Q E p hot hr h => ⟨_, PSs.nox ((pss_one (ps_ret (pe_callB call_len_seq (by rfl) T.b_len (by decide +kernel) (pa_cons (pe_fld (pv 0) rfl) pa_nil))))), ?_⟩)
  obtain ⟨b, B, L, rfl, h, k⟩ := h
  obtain ⟨dx, hb⟩ := h.ob
  walk_at "rd"
  refine r_f hb T.cl_Book T.n_Book_each (lk_Book_each _ _) ?_
  walk_at "rd"
  refine ⟨_, _, rfl, .inl (SqL.of h.ev), ?_⟩
  rw [List.length_map, h.len]
  exact k
theorem hotS {X : Cx} {a : Addr} {oe : Obj} {cls : Value} {d : Option Addr} {pn : List (Addr × Obj)} (hz : L2N.Zn cls d oe) (hf : ∃ vs, oe.data = .fields vs) : L2H.HotC (X.suite a ((a, oe) :: pn)) := by
  obtain ⟨vs, e⟩ := hf
  exact ⟨(a, oe), ⟨rfl, vs, e, hz.2.2 vs e⟩, List.mem_cons_self⟩
theorem roomS {k : Nat} {A : Around} {h : Option Value} (r : Room k A) : L2H.RoomH k (A.mark h) := ⟨r.dp, r.un⟩

/-! ### the law's helpers -/
def Script (K : PySem.W.Frag) (H : Hp) (a : Addr) : Prop := ∃ ns : List Int, SqL K H a (ns.map V.int) ∧ ns.length ≤ 63
theorem SqL.keep {K : PySem.W.Frag} {H H' : Hp} {a : Addr} {xs : List V} (h : SqL K H a xs) (k : ∀ o, H a = some o → H' a = some o) : SqL K H' a xs := by
  rcases h with (h | ⟨o, h⟩) | h
  · exact .inl (.inl (k _ h))
  · exact .inl (.inr ⟨o, k _ h⟩)
  · exact .inr h
theorem Script.keep {K : PySem.W.Frag} {H H' : Hp} {a : Addr} (S : Script K H a) (k : ∀ o, H a = some o → H' a = some o) : Script K H' a := by
  obtain ⟨ns, h, l⟩ := S
  exact ⟨ns, SqL.keep h k, l⟩
theorem Script.same {K : PySem.W.Frag} {H H' : Hp} {a : Addr} (S : Script K H a) (s : Same H H') : Script K H' a := S.keep fun o e => s _ _ e
theorem Script.mod {K : PySem.W.Frag} {H H' : Hp} {a : Addr} {L L' : Lay} (S : Script K H a) (m : Mod L L' H H') (n : ∀ o, H a = some o → L.own a = .no) : Script K H' a := S.keep fun o e => (m.no e (n o e)).1
theorem int_at {ns : List Int} {i : Nat} (h : i < ns.length) : (ns.map V.int)[i]? = some (V.int ns[i]) := by
  rw [List.getElem?_map, List.getElem?_eq_getElem h]; rfl
def spLCellAt (K : PySem.W.Frag) : Sp := fun vs H Q _ => ∃ (a : Addr) (k : Int), vs = [.ref a, .int k] ∧ Script K H a ∧ 0 ≤ k ∧ ∀ n : Int, Q (.int n) H
theorem len_LCellAt {K : PySem.W.Frag} {vs : List V} {H : Hp} {Q : VK} {E : XK} (h : spLCellAt K vs H Q E) : vs.length = 2 := by
  obtain ⟨_, _, rfl, _⟩ := h; rfl
theorem ok_LCellAt {P : Program} {w : World} {K : PySem.W.Frag} {mg : Str → Option Value} {base : Heap} (T : Tx w K mg) : FnOk P w K mg base CX0 1 (He.fAd K dLCellAt.at_) (fdO K dLCellAt.at_) P_LCellAt (spLCellAt K) := by
  refine T.f_LCellAt.ok sc_LCellAt (fun vs H Q E h => len_LCellAt h) (fun cdv A outer s H vs Q E hr h => ⟨_, PSs.nox ((pss_cons (ps_if (pt_cmpR op_lt (pv 1) (pe_callB call_len_seq (by rfl) T.b_len (by decide +kernel) (pa_cons (pv 0) pa_nil)) (nomark _)) (pss_one (ps_ret (pe_ix ix_list (pv 0) (pv 1) (fun _ _ => rfl)))) pss_nil)
      (pss_one (ps_ret pe_int)))), ?_⟩)
  obtain ⟨a, i, rfl, ⟨ns, hs, _⟩, hi, k⟩ := h
  walk_at "rd"
  refine ⟨a, _, rfl, .inl hs, ?_⟩
  rw [List.length_map]
  walk_at "rd"
  refine r_itd (fun c => ?_) (fun c => ?_)
  · walk_at "rd"
    exact r_ixL hs (atI_get (j := i.toNat) (by omega) (int_at (by omega))) (k _)
  · walk_at "rd"
    exact k 0
def spLWhole (_ : PySem.W.Frag) : Sp := fun vs H Q _ => ∃ i : Int, vs = [.int i] ∧ Q (.bl true) H
theorem len_LWhole {K : PySem.W.Frag} {vs : List V} {H : Hp} {Q : VK} {E : XK} (h : spLWhole K vs H Q E) : vs.length = 1 := by
  obtain ⟨_, rfl, _⟩ := h; rfl
theorem ok_LWhole {P : Program} {w : World} {K : PySem.W.Frag} {mg : Str → Option Value} {base : Heap} (T : Tx w K mg) : FnOk P w K mg base CX0 1 (He.fAd K dLWhole.at_) (fdO K dLWhole.at_) P_LWhole (spLWhole K) := by
  refine T.f_LWhole.ok sc_LWhole (fun vs H Q E h => len_LWhole h) (fun cdv A outer s H vs Q E hr h => ⟨_, PSs.nox ((pss_one (ps_ret (pe_and (pe_callB call_isi (by rfl) T.b_isinstance (by decide +kernel) (pa_cons (pv 0) (pa_cons (pe_bltn (v := .ty "int") (by rfl) T.b_int (by decide +kernel) rfl) pa_nil))) (pe_one (pe_not (pe_callB call_isi (by rfl) T.b_isinstance (by decide +kernel) (pa_cons (pv 0) (pa_cons (pe_bltn (v := .ty "bool") (by rfl) T.b_bool (by decide +kernel) rfl) pa_nil))))))))), ?_⟩)
  obtain ⟨i, rfl, k⟩ := h
  walk_at "rd"
  exact k
theorem emb {i j : Int} (h : 0 < j) : 0 ≤ i % j ∧ i % j < j := ⟨Int.emod_nonneg _ (by omega), Int.emod_lt_of_pos _ h⟩

/-! ### what is tried -/
/-- a deed that is done, or refused by one of these -/
def TriedK (K : PySem.W.Frag) (ers : List Er) (b : Addr) (B : Bk) (L : Lay) (H : Hp) (d : Dd) (Q : VK) : Prop :=
  (∀ e, step B.each d = .error e → e ∈ ers ∧ ∀ H', Same H H' → Q (.str e.name) H') ∧
  ∀ es cs, step B.each d = .ok (es, cs) → ∀ r L' H', BookAt K H' b ⟨es, B.trail ++ [d]⟩ L' → Mod L L' H H' → Stay H H' → H r = none → L'.own r = .no → ChAt H' r cs → Q (.ref r) H'
def spTried (K : PySem.W.Frag) (ers : List Er) : Sp := fun vs H Q _ => ∃ (b : Addr) (B : Bk) (L : Lay) (v : V), vs = [.ref b, v] ∧ BookAt K H b B L ∧ B.ok ∧ B.trail.length < 100000 ∧
  ∃ d : Dd, DdAt (fun a => L.own a = .no) H v d ∧ d.good ∧ d.few ∧ TriedK K ers b B L H d Q
theorem len_tried {K : PySem.W.Frag} {ers : List Er} {vs : List V} {H : Hp} {Q : VK} {E : XK} (h : spTried K ers vs H Q E) : vs.length = 2 := by
  obtain ⟨_, _, _, _, rfl, _⟩ := h; rfl
theorem tried_by {K : PySem.W.Frag} {ers : List Er} {b : Addr} {B : Bk} {L : Lay} {H : Hp} {d : Dd} {Q : VK} (O : V → Hp → Prop) (main : ∀ v H', O v H' → Q v H') (h : TriedK K ers b B L H d O) : TriedK K ers b B L H d Q :=
  ⟨fun e q => ⟨(h.1 e q).1, fun H' s => main _ _ ((h.1 e q).2 H' s)⟩, fun es cs q r L' H' a b c d e f => main _ _ (h.2 es cs q r L' H' a b c d e f)⟩

/-! ### pairs of ints, as rows -/
def prRow (c : Int × Int) : List V := [.int c.1, .int c.2]
theorem pr_rows {H : Hp} : ∀ {xs : List V} {cs : List (Int × Int)}, Paired (PrAt H) xs cs → Paired (TupAt H) xs (cs.map prRow)
  | _, _, .nil => .nil
  | _, _, .cons ⟨t, e, h⟩ r => .cons ⟨t, e, h⟩ (pr_rows r)
theorem prRow_ok {cs : List (Int × Int)} : Rws (cs.map prRow) := fun r hr => by
  obtain ⟨c, _, rfl⟩ := List.mem_map.mp hr
  exact .cons .int (.cons .int .nil)
theorem prRow_inj : ∀ {cs ds : List (Int × Int)}, cs.map prRow = ds.map prRow → cs = ds
  | [], [], _ => rfl
  | [], _ :: _, h => by cases h
  | _ :: _, [], h => by cases h
  | (a, b) :: cs, (c, d) :: ds, h => by
    rw [List.map_cons, List.map_cons] at h
    injection h with h1 h2
    have h3 : [V.int a, V.int b] = [V.int c, V.int d] := h1
    injection h3 with e1 e2
    injection e2 with e2 _
    injection e1 with e1
    injection e2 with e2
    subst e1 e2
    rw [prRow_inj h2]
/-- the i-th of a pair of lists -/
theorem Paired.get_ex {α β : Type} {F : α → β → Prop} : ∀ {l₁ : List α} {l₂ : List β} {i : Nat} {a : α}, Paired F l₁ l₂ → l₁[i]? = some a → ∃ b, l₂[i]? = some b ∧ F a b
  | _, _, _, _, .nil, h => by simp at h
  | _, _, 0, _, .cons r _, h => by
    cases h
    exact ⟨_, rfl, r⟩
  | _, _, i + 1, _, .cons _ t, h => Paired.get_ex (i := i) t h

/-! ### made data: ints, items, lines -/
def PB (s n : Int) : Prop := 0 ≤ s → -3 ≤ n ∧ n ≤ s + 3
def NB (m n : Int) : Prop := ∀ M : Int, 10000000000000 ≤ M → -M ≤ m → m ≤ M → -(M + 1) ≤ n ∧ n ≤ M + 1
theorem mod_max (x s : Int) : 0 ≤ (x % if s > 1 then s else 1) ∧ ((x % if s > 1 then s else 1) < s ∨ (x % if s > 1 then s else 1) < 1) := by
  split
  · exact ⟨Int.emod_nonneg _ (by omega), .inl (Int.emod_lt_of_pos _ (by omega))⟩
  · exact ⟨Int.emod_nonneg _ (by omega), .inr (Int.emod_lt_of_pos _ (by omega))⟩
def spLPlaceBy (_ : PySem.W.Frag) : Sp := fun vs H Q _ => ∃ c p s : Int, vs = [.int c, .int p, .int s] ∧ 0 < p ∧ ∀ n : Int, PB s n → Q (.int n) H
theorem len_LPlaceBy {K : PySem.W.Frag} {vs : List V} {H : Hp} {Q : VK} {E : XK} (h : spLPlaceBy K vs H Q E) : vs.length = 3 := by
  obtain ⟨_, _, _, rfl, _⟩ := h; rfl
theorem ok_LPlaceBy {P : Program} {w : World} {K : PySem.W.Frag} {mg : Str → Option Value} {base : Heap} (T : Tx w K mg) : FnOk P w K mg base CX0 1 (He.fAd K dLPlaceBy.at_) (fdO K dLPlaceBy.at_) P_LPlaceBy (spLPlaceBy K) := by
  refine T.f_LPlaceBy.ok sc_LPlaceBy (fun vs H Q E h => len_LPlaceBy h) (fun cdv A outer s H vs Q E hr h => ⟨_, PSs.nox ((pss_cons (ps_set (i := 3) sc_LPlaceBy.nd rfl (Or.inl rfl) (pe_op op_mod (pe_op op_mod (pe_op op_mul (pv 0) pe_int) (pv 1)) pe_int))
      (pss_cons (ps_if (pt_cmpR op_eq (pv 3) pe_int (nomark _)) (pss_one (ps_ret (pe_op op_sub (pe_un un_neg pe_int) (pe_op op_mod (pv 0) pe_int)))) pss_nil)
      (pss_cons (ps_if (pt_cmpR op_eq (pv 3) pe_int (nomark _)) (pss_one (ps_ret (pe_op op_add (pv 2) (pe_op op_mod (pv 0) pe_int)))) pss_nil)
      (pss_one (ps_ret (pe_op op_mod (pe_op op_mod (pe_op op_mul (pv 0) pe_int) (pe_op op_add (pv 1) pe_int)) (pe_callB (call_max2 rfl) (by rfl) T.b_max (by decide +kernel) (pa_cons pe_int (pa_cons (pv 2) pa_nil)))))))))), ?_⟩)
  obtain ⟨c, p, s, rfl, hp, k⟩ := h
  repeat' (first | walk_at "rd1" | walk_at "ml" | walk_at "md" | refine r_itd (fun _ => ?_) (fun _ => ?_) | refine k _ (fun s0 => ?_) | (refine ⟨_, _, rfl, ?_⟩))
  all_goals first | omega | (have := mod_max (c * 48271 % (p + 2)) s; omega)
def spLNumberBy (_ : PySem.W.Frag) : Sp := fun vs H Q _ => ∃ c m : Int, vs = [.int c, .int m] ∧ ∀ n : Int, NB m n → Q (.int n) H
theorem len_LNumberBy {K : PySem.W.Frag} {vs : List V} {H : Hp} {Q : VK} {E : XK} (h : spLNumberBy K vs H Q E) : vs.length = 2 := by
  obtain ⟨_, _, rfl, _⟩ := h; rfl
theorem p13 : (0 : Int) < 10 ^ (13 : Int).toNat := by decide
theorem ok_LNumberBy {P : Program} {w : World} {K : PySem.W.Frag} {mg : Str → Option Value} {base : Heap} (T : Tx w K mg) : FnOk P w K mg base CX0 1 (He.fAd K dLNumberBy.at_) (fdO K dLNumberBy.at_) P_LNumberBy (spLNumberBy K) := by
  refine T.f_LNumberBy.ok sc_LNumberBy (fun vs H Q E h => len_LNumberBy h) (fun cdv A outer s H vs Q E hr h => ⟨_, PSs.nox ((pss_cons (ps_set (i := 2) sc_LNumberBy.nd rfl (Or.inl rfl) (pe_op op_mod (pe_op op_mod (pe_op op_mul (pv 0) pe_int) pe_int) pe_int))
      (pss_cons (ps_if (pt_cmpR op_eq (pv 2) pe_int (nomark _)) (pss_one (ps_ret (pe_un un_neg (pe_op op_mod (pv 0) pe_int)))) pss_nil)
      (pss_cons (ps_if (pt_cmpR op_eq (pv 2) pe_int (nomark _)) (pss_one (ps_ret (pe_op op_add (pv 1) pe_int))) pss_nil)
      (pss_cons (ps_if (PW.pt (pw_or (pt_cmpR op_eq (pv 2) pe_int (nomark _)) (pw_or1 (pt_cmpR op_eq (pv 2) pe_int (nomark _))))) (pss_one (ps_ret (pv 1))) pss_nil)
      (pss_cons (ps_if (pt_cmpR op_eq (pv 2) pe_int (nomark _)) (pss_one (ps_ret (pe_op op_add pe_int (pe_op op_mod (pv 0) (pe_op op_pow pe_int pe_int))))) pss_nil)
      (pss_one (ps_ret (pe_op op_add pe_int (pe_op op_mod (pv 0) (pe_callB (call_max2 rfl) (by rfl) T.b_max (by decide +kernel) (pa_cons pe_int (pa_cons (pv 1) pa_nil))))))))))))), ?_⟩)
  obtain ⟨c, m, rfl, k⟩ := h
  repeat' (first | walk_at "rd1" | walk_at "ml" | refine r_I (C := CPow) ⟨by decide, by decide, by decide⟩ ?_ | refine r_I p13 ?_ | walk_at "md" | refine r_itd (fun _ => ?_) (fun _ => ?_) | refine r_itn (fun _ => ?_) (fun _ => ?_) | refine k _ (fun M h1 h2 h3 => ?_) | (refine ⟨_, _, rfl, ?_⟩))
  all_goals first | omega | (have := mod_max c m; omega) | (rw [show (10 : Int) ^ Int.toNat 13 = 10000000000000 by decide]; omega)
theorem letter_at {n : Int} : ∃ c : Nat, c ∈ letters.cps.toList ∧ atI letters.cps.toList (n % 26) = some c := by
  have h0 : 0 ≤ n % 26 := Int.emod_nonneg _ (by decide)
  have h1 : n % 26 < 26 := Int.emod_lt_of_pos _ (by decide)
  have hl : letters.cps.toList.length = 26 := by decide +kernel
  have hj : (n % 26).toNat < letters.cps.toList.length := by omega
  refine ⟨letters.cps.toList[(n % 26).toNat], List.getElem_mem hj, ?_⟩
  unfold atI ixN
  rw [if_pos h0, if_pos (by omega)]
  exact List.getElem?_eq_getElem hj
theorem joinL_nil : ∀ ps : List (List Nat), TL.joinL [] ps = ps.flatten
  | [] => rfl
  | [p] => by simp [TL.joinL]
  | p :: q :: r => by
    have ih := joinL_nil (q :: r)
    show p ++ ([] ++ TL.joinL [] (q :: r)) = _
    rw [List.nil_append, ih]
    rfl
theorem sum_ones {cs : List Nat} : ((cs.map fun c => (⟨#[c]⟩ : Str)).map (·.length)).sum = cs.length := by
  induction cs with
  | nil => rfl
  | cons a r ih =>
    rw [List.map_cons, List.map_cons, List.sum_cons, ih]
    show 1 + r.length = _
    rw [List.length_cons]
    omega
/-- an item, joined of letters -/
theorem item_join {cs : List Nat} (h : ∀ c, c ∈ cs → c ∈ letters.cps.toList) (l : 1 ≤ cs.length ∧ cs.length ≤ 12) : isItem (Txt.join "" (cs.map fun c => (⟨#[c]⟩ : Str))) = true := by
  have e : (Txt.join "" (cs.map fun c => (⟨#[c]⟩ : Str))).cps.toList = cs := by
    rw [TL.join_eq]
    have q := TL.tl_join "" (cs.map fun c => (⟨#[c]⟩ : Str))
    have q1 : TL.tl (Str.join "" (cs.map fun c => (⟨#[c]⟩ : Str))) = cs := by
      rw [q, show TL.tl ("" : Str) = [] by decide +kernel, joinL_nil, List.map_map]
      clear q h l
      induction cs with
      | nil => rfl
      | cons a r ih =>
        rw [List.map_cons, List.flatten_cons, ih]
        rfl
    exact q1
  unfold isItem
  have len : (Txt.join "" (cs.map fun c => (⟨#[c]⟩ : Str))).length = cs.length := by
    show Array.size _ = _
    rw [← Array.length_toList, e]
  rw [e, len, decide_eq_true h, decide_eq_true l]
  rfl
def spLItemBy (_ : PySem.W.Frag) : Sp := fun vs H Q _ => ∃ c : Int, vs = [.int c] ∧ ∀ z H', isItem z = true → Same H H' → Q (.str z) H'
theorem len_LItemBy {K : PySem.W.Frag} {vs : List V} {H : Hp} {Q : VK} {E : XK} (h : spLItemBy K vs H Q E) : vs.length = 1 := by
  obtain ⟨_, rfl, _⟩ := h; rfl
/-- a value for each place -/
theorem each_of {n : Nat} {P : Nat → Nat → Prop} (h : ∀ i, i < n → ∃ c, P i c) : ∃ cs : List Nat, cs.length = n ∧ ∀ (i : Nat) c, cs[i]? = some c → P i c := by
  induction n with
  | zero => exact ⟨[], rfl, fun i c e => by simp at e⟩
  | succ n ih =>
    obtain ⟨cs, hl, hc⟩ := ih fun i hi => h i (by omega)
    obtain ⟨c, hp⟩ := h n (by omega)
    refine ⟨cs ++ [c], by simp [hl], fun i d e => ?_⟩
    by_cases hi : i < cs.length
    · rw [List.getElem?_append_left hi] at e
      exact hc i d e
    · have : i = n := by
        have := (List.getElem?_eq_some_iff.mp e).1
        simp at this
        omega
      subst this
      rw [List.getElem?_append_right (by omega), hl, Nat.sub_self] at e
      cases e
      exact hp
theorem ok_LItemBy {P : Program} {w : World} {K : PySem.W.Frag} {mg : Str → Option Value} {base : Heap} (T : Tx w K mg) : FnOk P w K mg base CX0 1 (He.fAd K dLItemBy.at_) (fdO K dLItemBy.at_) P_LItemBy (spLItemBy K) := by
  refine T.f_LItemBy.ok sc_LItemBy (fun vs H Q E h => len_LItemBy h) (fun cdv A outer s H vs Q E hr h => ⟨_, PSs.nox ((pss_cons (ps_set (i := 1) sc_LItemBy.nd rfl (Or.inr rfl) pe_str)
      (pss_one (ps_ret (pe_bm PySem.F.plainAttrs_str PySem.F.slot_str_join PySem.F.type_str_join mt_join pe_str (pa_cons (pe_lc (own := [("_law_k", 2)]) (g := gName 2) (tt := tYes) rfl sc_LItemBy.nd (pi_range1 (by rfl) T.b_range (pa_cons (pe_op op_add pe_int (pe_op op_mod (pe_op op_mod (pe_op op_mul (pv 0) pe_int) pe_int) pe_int)) pa_nil)) (blkOk_by (N := N_LItemBy) (sc := defScope sLItemBy) (by decide +kernel)) (fun _ _ _ _ _ => pg_name (i := 2) sc_LItemBy.nd rfl (Or.inl rfl)) (fun _ _ _ _ _ => pts_nil) (fun _ _ _ _ _ => (pe_ix ix_str (pv 1) (pe_op op_mod (pe_op op_add (pe_op op_add (pe_op op_fdiv (pv 0) pe_int) (pe_op op_mul pe_int (pv 2))) (pv 0)) pe_int) (fun _ _ => rfl)))) pa_nil)))))), ?_⟩)
  obtain ⟨c, rfl, k⟩ := h
  walk_at "rd"
  refine ⟨rfl, ?_⟩
  walk_at "rd"
  walk_at "ml"
  walk_at "rd"
  walk_at "md"
  walk_at "rd"
  walk_at "md"
  walk_at "rd"
  have b1 : 0 ≤ c * 48271 % 10079 % 12 ∧ c * 48271 % 10079 % 12 < 12 := by omega
  revert b1
  generalize c * 48271 % 10079 % 12 = m
  intro b1
  obtain ⟨cs, hl, hc⟩ := each_of (n := (1 + m).toNat) (P := fun i x => x ∈ letters.cps.toList ∧ atI letters.cps.toList ((c / 26 + 7 * (i : Int) + c) % 26) = some x) fun i _ => letter_at
  refine lcp_range (ys := cs.map fun x => V.str ⟨#[x]⟩) (by simp [hl]) (by omega) (by omega) ?_ ?_
  · intro i y H' R ey s q
    rw [List.getElem?_map] at ey
    cases ec : cs[i]? with
    | none => rw [ec] at ey; cases ey
    | some x =>
      rw [ec] at ey
      cases ey
      walk_at "rd"
      walk_at "md"
      walk_at "rd"
      walk_at "ml"
      walk_at "rd"
      walk_at "md"
      refine ⟨letters, _, x, rfl, rfl, sz5 (by decide +kernel), (hc i x ec).2, q _ (Same.refl _)⟩
  · intro D H' hD s e
    walk_at "rd"
    refine ⟨"", D, cs.map fun x => (⟨#[x]⟩ : Str), rfl, rfl, .inl (SqL.of (by rw [e, List.map_map]; rfl)), ?_, ?_⟩
    · rw [sum_ones]
      show cs.length + (cs.map _).length * 0 ≤ _
      omega
    · refine k _ _ (item_join (fun x hx => ?_) (by omega)) s
      obtain ⟨i, hi⟩ := List.getElem?_of_mem hx
      exact (hc i x hi).1
/-! ### lines -/
theorem item_len {z : Str} (h : isItem z = true) : z.length ≤ 12 := by
  unfold isItem at h
  have := of_decide_eq_true (Bool.and_eq_true_iff.mp h).2
  omega
theorem letters_small : ∀ c, c ∈ letters.cps.toList → c < 0x110000 := by decide +kernel
theorem item_str {z : Str} (h : isItem z = true) : PyData.strOk z = true := by
  unfold isItem at h
  have q := of_decide_eq_true (Bool.and_eq_true_iff.mp h).1
  unfold PyData.strOk
  rw [← Array.all_toList, List.all_eq_true]
  intro c hc
  exact decide_eq_true (letters_small c (q c hc))
/-- a row of good lines, a new list -/
def Good (ls : List Lt) : Prop := (1 ≤ ls.length ∧ ls.length ≤ 20) ∧ ∀ t, t ∈ ls → isItem t.item = true ∧ numOk t
theorem Good.few {ls : List Lt} (g : Good ls) : Dd.few (.ord ls) := ⟨by have := g.1; omega, fun t ht => by have := item_len (g.2 t ht).1; omega⟩
theorem Good.err {ls : List Lt} (g : Good ls) {n : Nat} (h : n < 40) : ordErr n ls = none := by
  unfold ordErr
  have f : firstErr ls = none := by
    unfold firstErr
    rw [List.findSome?_eq_none_iff]
    intro t ht
    obtain ⟨a, b⟩ := g.2 t ht
    unfold ltCheck
    rw [if_pos a, if_pos b]
  rw [if_neg (fun z => z g.1), f]
  show (if n = 40 then _ else _) = _
  rw [if_neg (by omega)]
def LinesAt (H : Hp) (r : Addr) (ls : List Lt) : Prop := ∃ xs, H r = some (.lst xs) ∧ LtsAt H xs ls
def spLLinesBy (_ : PySem.W.Frag) : Sp := fun vs H Q _ => ∃ c : Int, vs = [.int c] ∧ ∀ r ls H', Good ls → Same H H' → H r = none → LinesAt H' r ls → Q (.ref r) H'
theorem len_LLinesBy {K : PySem.W.Frag} {vs : List V} {H : Hp} {Q : VK} {E : XK} (h : spLLinesBy K vs H Q E) : vs.length = 1 := by
  obtain ⟨_, rfl, _⟩ := h; rfl
theorem ok_LLinesBy {P : Program} {w : World} {K : PySem.W.Frag} {mg : Str → Option Value} {base : Heap} (T : Tx w K mg) : FnOk P w K mg base CX0 2 (He.fAd K dLLinesBy.at_) (fdO K dLLinesBy.at_) P_LLinesBy (spLLinesBy K) := by
  refine T.f_LLinesBy.ok sc_LLinesBy (fun vs H Q E h => len_LLinesBy h) (fun cdv A outer s H vs Q E hr h => ⟨_, PSs.nox ((pss_cons (ps_set (i := 1) sc_LLinesBy.nd rfl (Or.inl rfl) (pe_lst pa_nil))
      (pss_cons (ps_set (i := 2) sc_LLinesBy.nd rfl (Or.inl rfl) (pe_op op_add pe_int (pe_op op_mod (pe_op op_mod (pe_op op_mul (pv 0) pe_int) pe_int) pe_int)))
      (pss_cons (ps_if (pt_cmpR op_eq (pe_op op_mod (pe_op op_mod (pe_op op_mul (pv 0) pe_int) pe_int) pe_int) pe_int (nomark _)) (pss_one (ps_set (i := 2) sc_LLinesBy.nd rfl (Or.inl rfl) (pe_op op_add pe_int (pe_op op_mod (pv 0) pe_int)))) pss_nil)
      (pss_cons (ps_for PassesOwn.never rfl (pi_range1 (by rfl) T.b_range (pa_cons (pv 2) pa_nil)) (pg_name (i := 3) sc_LLinesBy.nd rfl (Or.inl rfl)) (pss_cons (ps_set (i := 4) sc_LLinesBy.nd rfl (Or.inl rfl) (pe_op op_add (pe_op op_fdiv (pv 0) (pe_op op_add (pv 3) pe_int)) (pe_op op_mul pe_int (pv 3))))
      (pss_cons (ps_set (i := 5) sc_LLinesBy.nd rfl (Or.inl rfl) (pe_call (ok_LItemBy T) (hr.mono (by decide)) rfl T.g_LItemBy T.f_LItemBy.kp T.b_LItemBy .nil pass0 (pa_cons (pv 4) pa_nil)))
      (pss_cons (ps_if (pt_cmpR op_eq (pe_op op_mod (pe_op op_mod (pe_op op_mul (pv 0) pe_int) pe_int) pe_int) pe_int (nomark _)) (pss_one (ps_set (i := 5) sc_LLinesBy.nd rfl (Or.inl rfl) (pe_call (ok_LItemBy T) (hr.mono (by decide)) rfl T.g_LItemBy T.f_LItemBy.kp T.b_LItemBy .nil pass0 (pa_cons (pe_op op_fdiv (pv 0) pe_int) pa_nil)))) pss_nil)
      (pss_one (ps_if (pt_cmpR op_eq (pe_op op_mod (pe_op op_mod (pe_op op_mul (pv 0) pe_int) pe_int) pe_int) pe_int (nomark _)) (pss_one (ps_expr (pe_bm PySem.F.plainAttrs_list PySem.F.slot_list_append PySem.F.type_list_append mt_append (pv 1) (pa_cons (pe_tup (pa_cons (pv 5) (pa_cons (pe_op op_add pe_int (pe_op op_mod (pv 4) pe_int)) (pa_cons (pe_op op_mod (pe_op op_mul (pv 4) pe_int) pe_int) (pa_cons (pe_op op_add pe_int (pe_op op_mod (pv 4) pe_int)) pa_nil))))) pa_nil)))) (pss_one (ps_expr (pe_bm PySem.F.plainAttrs_list PySem.F.slot_list_append PySem.F.type_list_append mt_append (pv 1) (pa_cons (pe_tup (pa_cons (pv 5) (pa_cons (pe_op op_add pe_int (pe_op op_mod (pv 4) pe_int)) (pa_cons (pe_op op_mod (pe_op op_mod (pe_op op_mul (pv 4) pe_int) pe_int) pe_int) (pa_cons (pe_op op_add pe_int (pe_op op_mod (pe_op op_fdiv (pv 4) pe_int) pe_int)) pa_nil))))) pa_nil))))))))))
      (pss_one (ps_ret (pv 1)))))))), ?_⟩)
  obtain ⟨c, rfl, k⟩ := h
  walk_at "rd"
  refine r_mk (by simp) fun r hr => ?_
  walk_at "rs"
  walk_at "rd1"
  walk_at "rs"
  walk_at "ml"
  walk_at "rs"
  walk_at "md"
  walk_at "rs"
  walk_at "md"
  walk_at "rs"
  have er : upd H r (.lst []) r = some (.lst []) := upd_same
  have sr := same_upd (o := .lst []) hr
  revert er sr
  generalize upd H r (.lst []) = H0
  intro er sr
  with_reducible refine r_join (fun σ' H' => H0 = H' ∧ ∃ m : Int, (1 ≤ m ∧ m ≤ 20) ∧ σ' = [some (.int c), some (.ref r), some (.int m), none, none, none]) ?_ fun N hN => ?_
  rotate_left
  · walk_at "rd"
    walk_at "ml"
    walk_at "rd"
    walk_at "md"
    walk_at "rd"
    walk_at "md"
    walk_at "rd"
    refine r_itd (fun _ => ?_) (fun _ => ?_)
    · walk_at "rd"
      walk_at "md"
      walk_at "rd"
      exact hN _ _ ⟨rfl, _, by omega, rfl⟩
    · walk_at "rd"
      exact hN _ _ ⟨rfl, _, by omega, rfl⟩
  rintro σ' _ ⟨rfl, m, hm, rfl⟩
  walk_at "rd"
  refine ⟨m, rfl, by omega, by omega, for_range (lo := 0) (n := m.toNat) (fun i σ H' => ∃ v3 v4 v5 ls, σ = [some (.int c), some (.ref r), some (.int m), v3, v4, v5] ∧ ls.length = i ∧ (∀ t, t ∈ ls → isItem t.item = true ∧ numOk t) ∧ LinesAt H' r ls ∧ Same H H') ⟨none, none, none, [], rfl, rfl, (fun t ht => by cases ht), ⟨[], er, .nil⟩, sr⟩ ?_ ?_⟩
  · rintro i σ H1 hi ⟨v3, v4, v5, ls, rfl, hl, hg, ⟨xs, e1, p1⟩, s1⟩
    rw [Int.zero_add]
    walk_at "rs"
    walk_at "rd1"
    walk_at "rs"
    refine r_I ⟨by omega, by omega⟩ ?_
    walk_at "rs"
    walk_at "ml"
    walk_at "rs"
    walk_at "rd1"
    walk_at "rs"
    refine ⟨_, rfl, fun z H2 hz s2 => ?_⟩
    walk_at "rs"
    have len1 := p1.length
    with_reducible refine r_join (fun σ' H' => Same H1 H' ∧ ∃ (z : Str) (more : Int), isItem z = true ∧ σ' = [some (.int c), some (.ref r), some (.int m), some (.int (i : Int)), some (.int more), some (.str z)]) ?_ fun N hN => ?_
    rotate_left
    · walk_at "rd"
      walk_at "ml"
      walk_at "rd"
      walk_at "md"
      walk_at "rd"
      walk_at "md"
      walk_at "rd"
      refine r_itd (fun _ => ?_) (fun _ => ?_)
      · walk_at "rd"
        walk_at "md"
        walk_at "rd"
        refine ⟨_, rfl, fun z' H3 hz' s3 => ?_⟩
        walk_at "rd"
        exact hN _ _ ⟨s2.trans s3, z', _, hz', rfl⟩
      · walk_at "rd"
        exact hN _ _ ⟨s2, z, _, hz, rfl⟩
    rintro σ' H3 ⟨s3, z', more, hz', rfl⟩
    have e3 := s3 _ _ e1
    have fin : ∀ (t : Addr) (p cc g : Int), (1 ≤ p ∧ p ≤ 1000000) → (0 ≤ cc ∧ cc ≤ 1000000000) → (1 ≤ g ∧ g ≤ 1000) → H3 t = none →
        LinesAt (upd (upd H3 t (.tup [.str z', .int p, .int cc, .int g])) r (.lst (xs ++ [.ref t]))) r (ls ++ [⟨z', p, cc, g⟩]) ∧ Same H (upd (upd H3 t (.tup [.str z', .int p, .int cc, .int g])) r (.lst (xs ++ [.ref t]))) ∧
        (∀ u, u ∈ ls ++ [⟨z', p, cc, g⟩] → isItem u.item = true ∧ numOk u) := fun t p cc g hp hc hg2 ht => by
      have rt : r ≠ t := ne_of_none e3 ht
      have b1 : But (· = r) H3 (upd (upd H3 t (.tup [.str z', .int p, .int cc, .int g])) r (.lst (xs ++ [.ref t]))) := (But.of (same_upd ht)).trans (But.lst (xs := xs) (by rw [upd_ne rt]; exact e3) rfl)
      refine ⟨⟨_, upd_same, Paired.snoc (b1.lts ((But.of (S := (· = r)) s3).lts p1)) ⟨t, rfl, by rw [upd_ne (Ne.symm rt)]; exact upd_same⟩⟩, fun x u q => ?_, fun u hu => ?_⟩
      · exact b1.keep _ _ (s3 _ _ (s1 _ _ q)) (ne_of_none q hr)
      · rcases List.mem_append.mp hu with h | h
        · exact hg u h
        · have e : u = ⟨z', p, cc, g⟩ := by simpa using h
          subst e
          exact ⟨hz', hp, hc, hg2⟩
    walk_at "rd"
    walk_at "ml"
    walk_at "rd"
    walk_at "md"
    walk_at "rd"
    walk_at "md"
    walk_at "rd"
    refine r_itd (fun _ => ?_) (fun _ => ?_)
    · walk_at "rd"
      refine r_tyL (SqL.of e3) ?_
      walk_at "rd"
      walk_at "md"
      walk_at "rd"
      walk_at "ml"
      walk_at "rd"
      walk_at "md"
      walk_at "rd"
      walk_at "md"
      walk_at "rd"
      refine r_mk (by simp) fun t ht => ?_
      walk_at "rd"
      refine r_app (by rw [upd_ne (ne_of_none e3 ht)]; exact e3) (sz5l (by omega)) ?_
      obtain ⟨f1, f2, f3⟩ := fin t (1 + more % 1000000) (more * 48271 % 1000000001) (1 + more % 1000) (by omega) (by omega) (by omega) ht
      exact ⟨_, _, _, _, rfl, by simp [hl], f3, f1, f2⟩
    · walk_at "rd"
      refine r_tyL (SqL.of e3) ?_
      walk_at "rd"
      walk_at "md"
      walk_at "rd"
      walk_at "ml"
      walk_at "rd"
      walk_at "md"
      walk_at "rd"
      walk_at "md"
      walk_at "rd"
      walk_at "md"
      walk_at "rd"
      walk_at "md"
      walk_at "rd"
      refine r_mk (by simp) fun t ht => ?_
      walk_at "rd"
      refine r_app (by rw [upd_ne (ne_of_none e3 ht)]; exact e3) (sz5l (by omega)) ?_
      obtain ⟨f1, f2, f3⟩ := fin t (1 + more % 9) (more * 48271 % 10091 % 200) (1 + more / 9 % 4) (by omega) (by omega) (by omega) ht
      exact ⟨_, _, _, _, rfl, by simp [hl], f3, f1, f2⟩
  · rintro σ H1 ⟨v3, v4, v5, ls, rfl, hl, hg, la, s1⟩
    walk_at "rd"
    exact k r ls H1 ⟨by omega, hg⟩ s1 hr la

/-! ### the law's account: the same orders, in lists -/
def lnL (l : Ln) : List V := [.str l.item, .int l.ordered, .int l.cents, .int l.pack, .int l.sent, .int l.home, .int l.again, .int l.credited]
structure AO where
  o : Addr
  ll : Addr
  rw : Addr
  las : List Addr
inductive ARole where
  | no | top | o (j : Nat) | ll (j : Nat) | rw (j : Nat) | ln (j i : Nat)
structure AL where
  ords : List AO
  own : Addr → ARole
def AL.foot (A : AL) (a : Addr) : Prop := A.own a ≠ .no
/-- one order of the account, as it is read -/
structure AoAt (H : Hp) (p : AO) (o : Od) : Prop where
  ob : H p.o = some (.lst [.ref p.ll, .int o.money, .ref p.rw])
  ll : H p.ll = some (.lst (p.las.map V.ref))
  len : p.las.length = o.lines.length
  ln : ∀ (i : Nat) a l, p.las[i]? = some a → o.lines[i]? = some l → H a = some (.lst (lnL l))
  rws : ∃ ts, H p.rw = some (.lst ts) ∧ Paired (MkAt H) ts o.marks
structure AoOwn (A : AL) (j : Nat) (p : AO) : Prop where
  o : A.own p.o = .o j
  ll : A.own p.ll = .ll j
  rw : A.own p.rw = .rw j
  ln : ∀ (i : Nat) a, p.las[i]? = some a → A.own a = .ln j i
structure AccAt (H : Hp) (a : Addr) (os : List Od) (A : AL) : Prop where
  top : H a = some (.lst (A.ords.map fun p => V.ref p.o))
  rt : A.own a = .top
  len : A.ords.length = os.length
  od : ∀ (j : Nat) p o, A.ords[j]? = some p → os[j]? = some o → AoAt H p o
  ro : ∀ (j : Nat) p, A.ords[j]? = some p → AoOwn A j p
  dom : ∀ x, A.own x ≠ .no → ∃ o, H x = some o
theorem AoAt.keep {H H' : Hp} {p : AO} {o : Od} {S : Addr → Prop} (h : AoAt H p o) (b : But S H H') (n : ∀ a, (a = p.o ∨ a = p.ll ∨ a = p.rw ∨ a ∈ p.las) → ¬ S a) : AoAt H' p o where
  ob := b.keep _ _ h.ob (n _ (.inl rfl))
  ll := b.keep _ _ h.ll (n _ (.inr (.inl rfl)))
  len := h.len
  ln := fun i a l e1 e2 => b.keep _ _ (h.ln i a l e1 e2) (n _ (.inr (.inr (.inr (List.mem_of_getElem? e1)))))
  rws := by
    obtain ⟨ts, e, q⟩ := h.rws
    exact ⟨ts, b.keep _ _ e (n _ (.inr (.inr (.inl rfl)))), b.mks q⟩
theorem AoAt.same {H H' : Hp} {p : AO} {o : Od} (h : AoAt H p o) (s : Same H H') : AoAt H' p o := h.keep (But.of (S := fun _ => False) s) fun _ _ => id
theorem AoOwn.foot {A : AL} {j : Nat} {p : AO} (h : AoOwn A j p) {a : Addr} (q : a = p.o ∨ a = p.ll ∨ a = p.rw ∨ a ∈ p.las) : A.own a = .o j ∨ A.own a = .ll j ∨ A.own a = .rw j ∨ ∃ i, A.own a = .ln j i := by
  rcases q with rfl | rfl | rfl | q
  · exact .inl h.o
  · exact .inr (.inl h.ll)
  · exact .inr (.inr (.inl h.rw))
  · obtain ⟨i, hi⟩ := List.getElem?_of_mem q
    exact .inr (.inr (.inr ⟨i, h.ln i a hi⟩))
theorem AoOwn.in_ {A : AL} {j : Nat} {p : AO} (h : AoOwn A j p) {a : Addr} (q : a = p.o ∨ a = p.ll ∨ a = p.rw ∨ a ∈ p.las) : A.own a ≠ .no := by
  rcases h.foot q with e | e | e | ⟨i, e⟩ <;> rw [e] <;> intro z <;> cases z
theorem AccAt.keep {H H' : Hp} {a : Addr} {os : List Od} {A : AL} {S : Addr → Prop} (h : AccAt H a os A) (b : But S H H') (n : ∀ x, A.own x ≠ .no → ¬ S x) : AccAt H' a os A where
  top := b.keep _ _ h.top (n _ (by rw [h.rt]; intro q; cases q))
  rt := h.rt
  len := h.len
  od := fun j p o e1 e2 => (h.od j p o e1 e2).keep b fun x q => n x ((h.ro j p e1).in_ q)
  ro := h.ro
  dom := fun x z => by
    obtain ⟨o, e⟩ := h.dom x z
    exact ⟨o, b.keep _ _ e (n x z)⟩
theorem AccAt.same {H H' : Hp} {a : Addr} {os : List Od} {A : AL} (h : AccAt H a os A) (s : Same H H') : AccAt H' a os A := h.keep (But.of (S := fun _ => False) s) fun _ _ => id
theorem AccAt.fresh {H : Hp} {a : Addr} {os : List Od} {A : AL} (h : AccAt H a os A) {x : Addr} (e : H x = none) : A.own x = .no := by
  by_cases z : A.own x = .no
  · exact z
  · obtain ⟨o, q⟩ := h.dom x z
    rw [e] at q
    cases q
/-- its texts are plain, and the bounds that reckoning asks -/
def Od.strs (o : Od) : Prop := (∀ l, l ∈ o.lines → isItem l.item = true) ∧ ∀ m, m ∈ o.marks → PyData.strOk m.1 = true
def OsOk (os : List Od) : Prop := os.length ≤ 100 ∧ ∀ o, o ∈ os → o.ok ∧ 1 ≤ o.lines.length ∧ o.strs
def spLLineWorth (_ : PySem.W.Frag) : Sp := fun vs H Q _ => ∃ (a : Addr) (l : Ln), vs = [.ref a] ∧ H a = some (.lst (lnL l)) ∧ l.ok ∧ Q (.int l.worth) H
theorem len_LLineWorth {K : PySem.W.Frag} {vs : List V} {H : Hp} {Q : VK} {E : XK} (h : spLLineWorth K vs H Q E) : vs.length = 1 := by
  obtain ⟨_, _, rfl, _⟩ := h; rfl
theorem Ln.ok.c {l : Ln} (h : l.ok) : -(2 ^ 64) < l.cents ∧ l.cents < 2 ^ 64 := by
  obtain ⟨⟨a, b⟩, _⟩ := h
  omega
theorem Ln.ok.p {l : Ln} (h : l.ok) : 0 < l.pack ∧ l.pack < 1073741824 := by
  obtain ⟨_, a, b⟩ := h
  omega
theorem ok_LLineWorth {P : Program} {w : World} {K : PySem.W.Frag} {mg : Str → Option Value} {base : Heap} (T : Tx w K mg) : FnOk P w K mg base CX0 1 (He.fAd K dLLineWorth.at_) (fdO K dLLineWorth.at_) P_LLineWorth (spLLineWorth K) := by
  refine T.f_LLineWorth.ok sc_LLineWorth (fun vs H Q E h => len_LLineWorth h) (fun cdv A outer s H vs Q E hr h => ⟨_, PSs.nox ((pss_one (ps_ret (pe_op op_fdiv (pe_op op_mul (pe_op op_sub (pe_ix ix_list (pv 0) pe_int (fun _ _ => rfl)) (pe_ix ix_list (pv 0) pe_int (fun _ _ => rfl))) (pe_ix ix_list (pv 0) pe_int (fun _ _ => rfl))) (pe_ix ix_list (pv 0) pe_int (fun _ _ => rfl)))))), ?_⟩)
  obtain ⟨a, l, rfl, ha, ok, k⟩ := h
  walk_at "rd"
  refine r_ixL (SqL.of ha) (atI_get (j := 4) rfl rfl) ?_
  walk_at "rd"
  refine r_ixL (SqL.of ha) (atI_get (j := 5) rfl rfl) ?_
  walk_at "rd"
  refine r_ixL (SqL.of ha) (atI_get (j := 2) rfl rfl) ?_
  refine r_I (.inr ok.c) ?_
  walk_at "rd"
  refine r_ixL (SqL.of ha) (atI_get (j := 3) rfl rfl) ?_
  exact r_I ok.p k
def spLOwedBy (_ : PySem.W.Frag) : Sp := fun vs H Q _ => ∃ (p : AO) (o : Od), vs = [.ref p.o] ∧ AoAt H p o ∧ o.ok ∧ ∀ H', Same H H' → Q (.int o.owing) H'
theorem len_LOwedBy {K : PySem.W.Frag} {vs : List V} {H : Hp} {Q : VK} {E : XK} (h : spLOwedBy K vs H Q E) : vs.length = 1 := by
  obtain ⟨_, _, rfl, _⟩ := h; rfl
theorem ok_LOwedBy {P : Program} {w : World} {K : PySem.W.Frag} {mg : Str → Option Value} {base : Heap} (T : Tx w K mg) : FnOk P w K mg base CX0 2 (He.fAd K dLOwedBy.at_) (fdO K dLOwedBy.at_) P_LOwedBy (spLOwedBy K) := by
  refine T.f_LOwedBy.ok sc_LOwedBy (fun vs H Q E h => len_LOwedBy h) (fun cdv A outer s H vs Q E hr h => ⟨_, PSs.nox ((pss_one (ps_ret (pe_op op_sub (pe_callB (cr_sum rfl) (by rfl) T.b_sum (by decide +kernel) (pa_cons (pe_lc (own := [("_law_line", 1)]) (g := gName 1) (tt := tYes) rfl sc_LOwedBy.nd (pi_list (pe_ix ix_list (pv 0) pe_int (fun _ _ => rfl))) (blkOk_by (N := N_LOwedBy) (sc := defScope sLOwedBy) (by decide +kernel)) (fun _ _ _ _ _ => pg_name (i := 1) sc_LOwedBy.nd rfl (Or.inl rfl)) (fun _ _ _ _ _ => pts_nil) (fun _ _ _ _ _ => (pe_op op_sub (pe_call (ok_LLineWorth T) (hr.mono (by decide)) rfl T.g_LLineWorth T.f_LLineWorth.kp T.b_LLineWorth .nil pass0 (pa_cons (pv 1) pa_nil)) (pe_ix (ix_listK (K := K) rfl) (pv 1) pe_int (fun _ _ => rfl))))) pa_nil)) (pe_ix ix_list (pv 0) pe_int (fun _ _ => rfl)))))), ?_⟩)
  obtain ⟨p, o, rfl, O, ok, k⟩ := h
  walk_at "rd"
  refine r_ixL (SqL.of O.ob) (atI_get (j := 0) rfl rfl) ?_
  refine lcp_list (ys := o.lines.map fun l => V.int l.charge) (SqL.of O.ll) (by simp [O.len]) (by have := ok.few; simp [O.len]; omega) ?_ ?_
  · intro i x y H' R ex ey s q
    obtain ⟨a, ea, rfl⟩ := ref_at ex
    rw [List.getElem?_map] at ey
    cases el : o.lines[i]? with
    | none => rw [el] at ey; cases ey
    | some l =>
      rw [el] at ey
      cases ey
      have hl := s _ _ (O.ln i a l ea el)
      walk_at "rd"
      refine ⟨a, l, rfl, hl, ok.ln l (List.mem_of_getElem? el), ?_⟩
      walk_at "rd"
      refine r_ixL (SqL.of hl) (atI_get (j := 7) rfl rfl) ?_
      walk_at "rd"
      exact q _ (Same.refl _)
  · intro D H' hD s e
    walk_at "rd"
    refine ⟨D, o.lines.map Ln.charge, rfl, SqL.of (by rw [e, List.map_map]; rfl), ?_⟩
    walk_at "rd"
    refine r_ixL (SqL.of (s _ _ O.ob)) (atI_get (j := 1) rfl rfl) ?_
    walk_at "rd"
    exact k _ s
def mostOf (os : List Od) (w : Str) (at' pl : Int) : Int := match at_ os at' with
  | none => 5
  | some (_, o) => if w = "pay" then o.owing else if w = "refund" ∨ w = "move" then -o.owing else match at_ o.lines pl with
    | none => 5
    | some (_, l) => if w = "deliver" then l.toCome else if w = "credit" then l.charge else l.kept
theorem acc_at {H : Hp} {a : Addr} {os : List Od} {A : AL} {j : Nat} {o : Od} (h : AccAt H a os A) (e : os[j]? = some o) : ∃ p, A.ords[j]? = some p ∧ AoAt H p o ∧ (A.ords.map fun p => V.ref p.o)[j]? = some (.ref p.o) := by
  have hl : j < A.ords.length := by rw [h.len]; exact (List.getElem?_eq_some_iff.mp e).1
  refine ⟨A.ords[j], List.getElem?_eq_getElem hl, h.od j _ o (List.getElem?_eq_getElem hl) e, ?_⟩
  rw [List.getElem?_map, List.getElem?_eq_getElem hl]
  rfl
theorem ao_at {H : Hp} {p : AO} {o : Od} {i : Nat} {l : Ln} (O : AoAt H p o) (e : o.lines[i]? = some l) : ∃ a, p.las[i]? = some a ∧ H a = some (.lst (lnL l)) ∧ (p.las.map V.ref)[i]? = some (.ref a) := by
  have hl : i < p.las.length := by rw [O.len]; exact (List.getElem?_eq_some_iff.mp e).1
  refine ⟨p.las[i], List.getElem?_eq_getElem hl, O.ln i _ l (List.getElem?_eq_getElem hl) e, ?_⟩
  rw [List.getElem?_map, List.getElem?_eq_getElem hl]
  rfl
def spLMost (_ : PySem.W.Frag) : Sp := fun vs H Q _ => ∃ (w : Str) (at' pl : Int) (a : Addr) (os : List Od) (A : AL), vs = [.str w, .int at', .int pl, .ref a] ∧ AccAt H a os A ∧ OsOk os ∧ ∀ H', Same H H' → Q (.int (mostOf os w at' pl)) H'
theorem len_LMost {K : PySem.W.Frag} {vs : List V} {H : Hp} {Q : VK} {E : XK} (h : spLMost K vs H Q E) : vs.length = 4 := by
  obtain ⟨_, _, _, _, _, _, rfl, _⟩ := h; rfl
/-- a chain 0 <= n < len, by the list -/
theorem chain_at {α : Type} {xs : List α} {n : Int} {A B : Prop} (hn : at_ xs n = none → A) (hs : ∀ (j : Nat) x, n = (j : Int) → xs[j]? = some x → at_ xs n = some (j, x) → B) :
    if decide (0 ≤ n) = true then (if (!decide (n < (xs.length : Int))) = true then A else B) else A := by
  rcases at_or xs n with ⟨e, c⟩ | ⟨j, x, rfl, ex, e⟩
  · refine r_itd (fun c1 => ?_) (fun _ => hn e)
    refine r_itn (fun _ => hn e) (fun c2 => absurd ⟨c1, c2⟩ c)
  · have := (List.getElem?_eq_some_iff.mp ex).1
    refine r_ity (by omega) ?_
    exact r_itn (fun c => absurd (by omega) c) (fun _ => hs j x rfl ex e)
theorem ok_LMost {P : Program} {w : World} {K : PySem.W.Frag} {mg : Str → Option Value} {base : Heap} (T : Tx w K mg) : FnOk P w K mg base CX0 3 (He.fAd K dLMost.at_) (fdO K dLMost.at_) P_LMost (spLMost K) := by
  refine T.f_LMost.ok sc_LMost (fun vs H Q E h => len_LMost h) (fun cdv A outer s H vs Q E hr h => ⟨_, PSs.nox ((pss_cons (ps_if (pt_not (pt_chain op_le op_lt pe_int (pv 1) (pe_callB call_len_seq (by rfl) T.b_len (by decide +kernel) (pa_cons (pv 3) pa_nil)))) (pss_one (ps_ret pe_int)) pss_nil)
      (pss_cons (ps_set (i := 4) sc_LMost.nd rfl (Or.inl rfl) (pe_call (ok_LOwedBy T) (hr.mono (by decide)) rfl T.g_LOwedBy T.f_LOwedBy.kp T.b_LOwedBy .nil pass0 (pa_cons (pe_ix ix_list (pv 3) (pv 1) (fun _ _ => rfl)) pa_nil)))
      (pss_cons (ps_if (pt_cmpR op_eq (pv 0) pe_str (nomark _)) (pss_one (ps_ret (pv 4))) pss_nil)
      (pss_cons (ps_if (PW.pt (pw_or (pt_cmpR op_eq (pv 0) pe_str (nomark _)) (pw_or1 (pt_cmpR op_eq (pv 0) pe_str (nomark _))))) (pss_one (ps_ret (pe_un un_neg (pv 4)))) pss_nil)
      (pss_cons (ps_if (pt_not (pt_chain op_le op_lt pe_int (pv 2) (pe_callB call_len_seq (by rfl) T.b_len (by decide +kernel) (pa_cons (pe_ix ix_list (pe_ix ix_list (pv 3) (pv 1) (fun _ _ => rfl)) pe_int (fun _ _ => rfl)) pa_nil)))) (pss_one (ps_ret pe_int)) pss_nil)
      (pss_cons (ps_set (i := 5) sc_LMost.nd rfl (Or.inl rfl) (pe_ix ix_list (pe_ix ix_list (pe_ix ix_list (pv 3) (pv 1) (fun _ _ => rfl)) pe_int (fun _ _ => rfl)) (pv 2) (fun _ _ => rfl)))
      (pss_cons (ps_if (pt_cmpR op_eq (pv 0) pe_str (nomark _)) (pss_one (ps_ret (pe_op op_add (pe_op op_sub (pe_ix ix_list (pv 5) pe_int (fun _ _ => rfl)) (pe_ix ix_list (pv 5) pe_int (fun _ _ => rfl))) (pe_ix ix_list (pv 5) pe_int (fun _ _ => rfl))))) pss_nil)
      (pss_cons (ps_if (pt_cmpR op_eq (pv 0) pe_str (nomark _)) (pss_one (ps_ret (pe_op op_sub (pe_call (ok_LLineWorth T) (hr.mono (by decide)) rfl T.g_LLineWorth T.f_LLineWorth.kp T.b_LLineWorth .nil pass0 (pa_cons (pv 5) pa_nil)) (pe_ix ix_list (pv 5) pe_int (fun _ _ => rfl))))) pss_nil)
      (pss_one (ps_ret (pe_op op_sub (pe_ix ix_list (pv 5) pe_int (fun _ _ => rfl)) (pe_ix ix_list (pv 5) pe_int (fun _ _ => rfl)))))))))))))), ?_⟩)
  obtain ⟨w', at', pl, a, os, A, rfl, h, ok, k⟩ := h
  unfold mostOf at k
  walk_at "rd"
  rcases at_or os at' with ⟨e, c⟩ | ⟨j, o, rfl, eo, e⟩
  · rw [e] at k
    refine r_itd (fun c1 => ?_) (fun c1 => ?_)
    · walk_at "rd"
      refine ⟨a, _, rfl, .inl (SqL.of h.top), ?_⟩
      walk_at "rd"
      rw [List.length_map, h.len]
      refine r_itn (fun _ => ?_) (fun c2 => absurd ⟨c1, c2⟩ c)
      walk_at "rd"
      exact k _ (Same.refl _)
    · walk_at "rd"
      exact k _ (Same.refl _)
  rw [e] at k
  dsimp only at k
  obtain ⟨p, ep, O, ev⟩ := acc_at h eo
  have hj := (List.getElem?_eq_some_iff.mp eo).1
  have oko := (ok.2 o (List.mem_of_getElem? eo)).1
  refine r_ity (by omega) ?_
  walk_at "rd"
  refine ⟨a, _, rfl, .inl (SqL.of h.top), ?_⟩
  walk_at "rd"
  rw [List.length_map, h.len]
  refine r_itn (fun c => absurd (by omega) c) (fun _ => ?_)
  walk_at "rd"
  refine r_ixL (SqL.of h.top) (atI_get rfl ev) ?_
  walk_at "rd"
  refine ⟨p, o, rfl, O, oko, fun H1 s1 => ?_⟩
  have O1 := O.same s1
  walk_at "rd"
  refine r_itd (fun c => ?_) (fun c => ?_)
  · rw [if_pos c] at k
    walk_at "rd"
    exact k _ s1
  rw [if_neg c] at k
  walk_at "rd"
  refine r_itd (fun c => ?_) (fun c1 => ?_)
  · rw [if_pos (.inl c)] at k
    walk_at "rd"
    exact k _ s1
  walk_at "rd"
  refine r_itd (fun c => ?_) (fun c2 => ?_)
  · rw [if_pos (.inr c)] at k
    walk_at "rd"
    exact k _ s1
  rw [if_neg (fun z => z.elim c1 c2)] at k
  walk_at "rd"
  rcases at_or o.lines pl with ⟨e, c⟩ | ⟨i, l, rfl, el, e⟩
  · rw [e] at k
    refine r_itd (fun c1 => ?_) (fun c1 => ?_)
    · walk_at "rd"
      refine r_ixL (SqL.of (s1 _ _ h.top)) (atI_get rfl ev) ?_
      walk_at "rd"
      refine r_ixL (SqL.of O1.ob) (atI_get (j := 0) rfl rfl) ?_
      walk_at "rd"
      refine ⟨_, _, rfl, .inl (SqL.of O1.ll), ?_⟩
      walk_at "rd"
      rw [List.length_map, O1.len]
      refine r_itn (fun _ => ?_) (fun c2 => absurd ⟨c1, c2⟩ c)
      walk_at "rd"
      exact k _ s1
    · walk_at "rd"
      exact k _ s1
  rw [e] at k
  dsimp only at k
  obtain ⟨la, ela, hla, elv⟩ := ao_at O1 el
  have hi := (List.getElem?_eq_some_iff.mp el).1
  refine r_ity (by omega) ?_
  walk_at "rd"
  refine r_ixL (SqL.of (s1 _ _ h.top)) (atI_get rfl ev) ?_
  walk_at "rd"
  refine r_ixL (SqL.of O1.ob) (atI_get (j := 0) rfl rfl) ?_
  walk_at "rd"
  refine ⟨_, _, rfl, .inl (SqL.of O1.ll), ?_⟩
  walk_at "rd"
  rw [List.length_map, O1.len]
  refine r_itn (fun c => absurd (by omega) c) (fun _ => ?_)
  walk_at "rd"
  refine r_ixL (SqL.of (s1 _ _ h.top)) (atI_get rfl ev) ?_
  walk_at "rd"
  refine r_ixL (SqL.of O1.ob) (atI_get (j := 0) rfl rfl) ?_
  walk_at "rd"
  refine r_ixL (SqL.of O1.ll) (atI_get rfl elv) ?_
  walk_at "rd"
  refine r_itd (fun c => ?_) (fun c => ?_)
  · rw [if_pos c] at k
    walk_at "rd"
    refine r_ixL (SqL.of hla) (atI_get (j := 1) rfl rfl) ?_
    walk_at "rd"
    refine r_ixL (SqL.of hla) (atI_get (j := 4) rfl rfl) ?_
    walk_at "rd"
    refine r_ixL (SqL.of hla) (atI_get (j := 6) rfl rfl) ?_
    walk_at "rd"
    exact k _ s1
  rw [if_neg c] at k
  walk_at "rd"
  refine r_itd (fun c => ?_) (fun c => ?_)
  · rw [if_pos c] at k
    walk_at "rd"
    refine ⟨la, l, rfl, hla, oko.ln l (List.mem_of_getElem? el), ?_⟩
    walk_at "rd"
    refine r_ixL (SqL.of hla) (atI_get (j := 7) rfl rfl) ?_
    walk_at "rd"
    exact k _ s1
  rw [if_neg c] at k
  walk_at "rd"
  refine r_ixL (SqL.of hla) (atI_get (j := 4) rfl rfl) ?_
  walk_at "rd"
  refine r_ixL (SqL.of hla) (atI_get (j := 5) rfl rfl) ?_
  walk_at "rd"
  exact k _ s1

/-! ### by what a deed is refused -/
def refOf (os : List Od) (d : Dd) : Str := match d with
  | .ord _ => ""
  | d => match step os d with
    | .error e => e.name
    | .ok _ => ""
def mostLn (w : Str) (l : Ln) : Int := if w = "deliver" then l.toCome else if w = "credit" then l.charge else l.kept
theorem turn_most {w : Str} {l : Ln} {n : Int} (g : w = "deliver" ∨ w = "back" ∨ w = "swap" ∨ w = "credit") : (n > mostLn w l → l.turn w n = none) ∧ (¬ n > mostLn w l → ∃ l', l.turn w n = some l') := by
  unfold mostLn Ln.turn
  rcases g with rfl | rfl | rfl | rfl
  · rw [if_pos rfl, if_pos rfl]
    unfold Ln.deliver
    exact ⟨fun h => if_pos h, fun h => ⟨_, if_neg h⟩⟩
  · rw [if_neg (by decide +kernel), if_neg (by decide +kernel), if_neg (by decide +kernel), if_neg (by decide +kernel)]
    unfold Ln.bring
    exact ⟨fun h => if_pos h, fun h => ⟨_, if_neg h⟩⟩
  · rw [if_neg (by decide +kernel), if_neg (by decide +kernel), if_neg (by decide +kernel), if_neg (by decide +kernel)]
    unfold Ln.bring
    exact ⟨fun h => if_pos h, fun h => ⟨_, if_neg h⟩⟩
  · rw [if_neg (by decide +kernel), if_pos rfl, if_neg (by decide +kernel), if_pos rfl]
    unfold Ln.reduce
    exact ⟨fun h => if_pos h, fun h => ⟨_, if_neg h⟩⟩
theorem most_ln {os : List Od} {w : Str} {j i : Nat} {o : Od} {l : Ln} (g : w = "deliver" ∨ w = "back" ∨ w = "swap" ∨ w = "credit") (eo : os[j]? = some o) (el : o.lines[i]? = some l) : mostOf os w (j : Int) (i : Int) = mostLn w l := by
  unfold mostOf mostLn
  rw [at_some eo]
  dsimp only
  rw [at_some el]
  dsimp only
  have h1 : ¬ w = "pay" := by rcases g with rfl | rfl | rfl | rfl <;> decide +kernel
  have h2 : ¬ (w = "refund" ∨ w = "move") := by rcases g with rfl | rfl | rfl | rfl <;> decide +kernel
  rw [if_neg h1, if_neg h2]
theorem most_mo {os : List Od} {w : Str} {j : Nat} {o : Od} {q : Int} (g : w = "refund" ∨ w = "move") (eo : os[j]? = some o) : mostOf os w (j : Int) q = -o.owing := by
  unfold mostOf
  rw [at_some eo]
  dsimp only
  have h1 : ¬ w = "pay" := by rcases g with rfl | rfl <;> decide +kernel
  rw [if_neg h1, if_pos g]
def spLRefusal (_ : PySem.W.Frag) : Sp := fun vs H Q _ => ∃ (F : Addr → Prop) (v : V) (d : Dd) (a : Addr) (os : List Od) (A : AL), vs = [v, .ref a] ∧ DdAt F H v d ∧ d.good ∧ AccAt H a os A ∧ OsOk os ∧ ∀ H', Same H H' → Q (.str (refOf os d)) H'
theorem len_LRefusal {K : PySem.W.Frag} {vs : List V} {H : Hp} {Q : VK} {E : XK} (h : spLRefusal K vs H Q E) : vs.length = 2 := by
  obtain ⟨_, _, _, _, _, _, rfl, _⟩ := h; rfl
theorem gln {w : Str} (g : w = "deliver" ∨ w = "back" ∨ w = "swap" ∨ w = "credit") : ¬ w = "order" ∧ ¬ w = "move" ∧ ¬ w = "pay" ∧ ¬ w = "refund" := by
  rcases g with rfl | rfl | rfl | rfl <;> decide +kernel
theorem gmo {w : Str} (g : w = "pay" ∨ w = "refund") : ¬ w = "order" ∧ ¬ w = "move" := by
  rcases g with rfl | rfl <;> decide +kernel
theorem ok_LRefusal {P : Program} {w : World} {K : PySem.W.Frag} {mg : Str → Option Value} {base : Heap} (T : Tx w K mg) : FnOk P w K mg base CX0 4 (He.fAd K dLRefusal.at_) (fdO K dLRefusal.at_) P_LRefusal (spLRefusal K) := by
  refine T.f_LRefusal.ok sc_LRefusal (fun vs H Q E h => len_LRefusal h) (fun cdv A outer s H vs Q E hr h => ⟨_, PSs.nox ((pss_cons (ps_if (pt_cmpR op_eq (pe_ix ix_tup (pv 0) pe_int (fun _ _ => rfl)) pe_str (nomark _)) (pss_one (ps_ret pe_str)) pss_nil)
      (pss_cons (ps_if (PW.pt (pw_or (pt_not (pt_chain op_le op_lt pe_int (pe_ix ix_tup (pv 0) pe_int (fun _ _ => rfl)) (pe_callB call_len_seq (by rfl) T.b_len (by decide +kernel) (pa_cons (pv 1) pa_nil)))) (pw_or1 (PW.pt (pw_and (pt_cmpR op_eq (pe_ix ix_tup (pv 0) pe_int (fun _ _ => rfl)) pe_str (nomark _)) (pw_and1 (pt_not (pt_chain op_le op_lt pe_int (pe_ix ix_tup (pv 0) pe_int (fun _ _ => rfl)) (pe_callB call_len_seq (by rfl) T.b_len (by decide +kernel) (pa_cons (pv 1) pa_nil)))))))))) (pss_one (ps_ret pe_str)) pss_nil)
      (pss_cons (ps_if (PW.pt (pw_and (pt_cmpR op_eq (pe_ix ix_tup (pv 0) pe_int (fun _ _ => rfl)) pe_str (nomark _)) (pw_and1 (pt_cmpR op_eq (pe_ix ix_tup (pv 0) pe_int (fun _ _ => rfl)) (pe_ix ix_tup (pv 0) pe_int (fun _ _ => rfl)) (nomark _))))) (pss_one (ps_ret pe_str)) pss_nil)
      (pss_cons (ps_set (i := 2) sc_LRefusal.nd rfl (Or.inl rfl) pe_int)
      (pss_cons (ps_if (PW.pt (pw_and (pt_cmpR op_eq (pe_callB call_len_seq (by rfl) T.b_len (by decide +kernel) (pa_cons (pv 0) pa_nil)) pe_int (nomark _)) (pw_and1 (pt_cmpR op_ne (pe_ix ix_tup (pv 0) pe_int (fun _ _ => rfl)) pe_str (nomark _))))) (pss_one (ps_set (i := 2) sc_LRefusal.nd rfl (Or.inl rfl) (pe_ix ix_tup (pv 0) pe_int (fun _ _ => rfl)))) pss_nil)
      (pss_cons (ps_if (pt_not (pt_chain op_le op_lt pe_int (pv 2) (pe_callB call_len_seq (by rfl) T.b_len (by decide +kernel) (pa_cons (pe_ix ix_list (pe_ix ix_list (pv 1) (pe_ix ix_tup (pv 0) pe_int (fun _ _ => rfl)) (fun _ _ => rfl)) pe_int (fun _ _ => rfl)) pa_nil)))) (pss_one (ps_ret pe_str)) pss_nil)
      (pss_cons (ps_set (i := 3) sc_LRefusal.nd rfl (Or.inl rfl) (pe_ix ix_tup (pv 0) (pe_op op_sub (pe_callB call_len_seq (by rfl) T.b_len (by decide +kernel) (pa_cons (pv 0) pa_nil)) pe_int) (fun _ _ => rfl)))
      (pss_cons (ps_if (pt_cmpR op_lt (pv 3) pe_int (nomark _)) (pss_one (ps_ret pe_str)) pss_nil)
      (pss_cons (ps_if (PW.pt (pw_and (pt_cmpR op_ne (pe_ix ix_tup (pv 0) pe_int (fun _ _ => rfl)) pe_str (nomark _)) (pw_and1 (pt_cmpR op_gt (pv 3) (pe_call (ok_LMost T) (hr.mono (by decide)) rfl T.g_LMost T.f_LMost.kp T.b_LMost .nil pass0 (pa_cons (pe_ix ix_tup (pv 0) pe_int (fun _ _ => rfl)) (pa_cons (pe_ix ix_tup (pv 0) pe_int (fun _ _ => rfl)) (pa_cons (pv 2) (pa_cons (pv 1) pa_nil))))) (nomark _))))) (pss_one (ps_ret pe_str)) pss_nil)
      (pss_one (ps_ret pe_str)))))))))))), ?_⟩)
  obtain ⟨F, v, d, a, os, A, rfl, hd, g, h, ok, k⟩ := h
  cases d with
  | ord ls =>
    obtain ⟨t, l, xs, rfl, ht, hl, _, pt⟩ := hd
    walk_at "rd"
    refine r_ixT (SqT.of ht) (atI_get (j := 0) rfl rfl) ?_
    walk_at "rd"
    refine r_ity rfl ?_
    walk_at "rd"
    exact k _ (Same.refl _)
  | ln w' o pl n =>
    obtain ⟨t, rfl, ht⟩ := hd
    obtain ⟨g1, g2, g3, g4⟩ := gln g
    simp only [refOf, step] at k
    unfold stepLn at k
    walk_at "rd"
    refine r_ixT (SqT.of ht) (atI_get (j := 0) rfl rfl) ?_
    walk_at "rd"
    refine r_itz g1 ?_
    walk_at "rd"
    refine r_ixT (SqT.of ht) (atI_get (j := 1) rfl rfl) ?_
    walk_at "rd"
    rcases at_or os o with ⟨e, c⟩ | ⟨j, od, rfl, eo, e⟩
    · rw [e] at k
      refine r_itd (fun c1 => ?_) (fun c1 => ?_)
      · walk_at "rd"
        refine ⟨a, _, rfl, .inl (SqL.of h.top), ?_⟩
        walk_at "rd"
        rw [List.length_map, h.len]
        refine r_itn (fun _ => ?_) (fun c2 => absurd ⟨c1, c2⟩ c)
        walk_at "rd"
        exact k _ (Same.refl _)
      · walk_at "rd"
        exact k _ (Same.refl _)
    rw [e] at k
    dsimp only at k
    obtain ⟨p, ep, O, ev⟩ := acc_at h eo
    have hj := (List.getElem?_eq_some_iff.mp eo).1
    have oko := ok.2 od (List.mem_of_getElem? eo)
    refine r_ity (by omega) ?_
    walk_at "rd"
    refine ⟨a, _, rfl, .inl (SqL.of h.top), ?_⟩
    walk_at "rd"
    rw [List.length_map, h.len]
    refine r_itn (fun c => absurd (by omega) c) (fun _ => ?_)
    walk_at "rd"
    refine r_ixT (SqT.of ht) (atI_get (j := 0) rfl rfl) ?_
    walk_at "rd"
    refine r_itz g2 ?_
    walk_at "rd"
    refine r_ixT (SqT.of ht) (atI_get (j := 0) rfl rfl) ?_
    walk_at "rd"
    refine r_itz g2 ?_
    walk_at "rd"
    refine ⟨t, _, rfl, .inr (SqT.of ht), ?_⟩
    walk_at "rd"
    refine r_ity rfl ?_
    walk_at "rd"
    refine r_ixT (SqT.of ht) (atI_get (j := 0) rfl rfl) ?_
    walk_at "rd"
    refine r_itn (fun _ => ?_) (fun c => absurd c g2)
    walk_at "rd"
    refine r_ixT (SqT.of ht) (atI_get (j := 2) rfl rfl) ?_
    walk_at "rd"
    rcases at_or od.lines pl with ⟨e, c⟩ | ⟨i, l, rfl, el, e⟩
    · rw [e] at k
      refine r_itd (fun c1 => ?_) (fun c1 => ?_)
      · walk_at "rd"
        refine r_ixT (SqT.of ht) (atI_get (j := 1) rfl rfl) ?_
        refine r_ixL (SqL.of h.top) (atI_get rfl ev) ?_
        walk_at "rd"
        refine r_ixL (SqL.of O.ob) (atI_get (j := 0) rfl rfl) ?_
        walk_at "rd"
        refine ⟨_, _, rfl, .inl (SqL.of O.ll), ?_⟩
        walk_at "rd"
        rw [List.length_map, O.len]
        refine r_itn (fun _ => ?_) (fun c2 => absurd ⟨c1, c2⟩ c)
        walk_at "rd"
        exact k _ (Same.refl _)
      · walk_at "rd"
        exact k _ (Same.refl _)
    rw [e] at k
    dsimp only at k
    have hi := (List.getElem?_eq_some_iff.mp el).1
    refine r_ity (by omega) ?_
    walk_at "rd"
    refine r_ixT (SqT.of ht) (atI_get (j := 1) rfl rfl) ?_
    refine r_ixL (SqL.of h.top) (atI_get rfl ev) ?_
    walk_at "rd"
    refine r_ixL (SqL.of O.ob) (atI_get (j := 0) rfl rfl) ?_
    walk_at "rd"
    refine ⟨_, _, rfl, .inl (SqL.of O.ll), ?_⟩
    walk_at "rd"
    rw [List.length_map, O.len]
    refine r_itn (fun c => absurd (by omega) c) (fun _ => ?_)
    walk_at "rd"
    refine ⟨t, _, rfl, .inr (SqT.of ht), ?_⟩
    walk_at "rd"
    refine r_ixT (SqT.of ht) (atI_get (j := 3) rfl rfl) ?_
    walk_at "rd"
    refine r_itd (fun c => ?_) (fun c => ?_)
    · rw [if_pos c] at k
      walk_at "rd"
      exact k _ (Same.refl _)
    rw [if_neg c] at k
    walk_at "rd"
    refine r_ixT (SqT.of ht) (atI_get (j := 0) rfl rfl) ?_
    walk_at "rd"
    refine r_itn (fun _ => ?_) (fun c => absurd c g3)
    walk_at "rd"
    refine r_ixT (SqT.of ht) (atI_get (j := 0) rfl rfl) ?_
    walk_at "rd"
    refine r_ixT (SqT.of ht) (atI_get (j := 1) rfl rfl) ?_
    walk_at "rd"
    refine ⟨w', _, _, a, os, A, rfl, h, ok, fun H1 s1 => ?_⟩
    walk_at "rd"
    rw [most_ln g eo el]
    refine r_itd (fun c => ?_) (fun c => ?_)
    · rw [(turn_most g).1 c] at k
      walk_at "rd"
      exact k _ s1
    · obtain ⟨l', e'⟩ := (turn_most (l := l) (n := n) g).2 c
      rw [e'] at k
      walk_at "rd"
      exact k _ s1
  | mo w' o n =>
    obtain ⟨t, rfl, ht⟩ := hd
    obtain ⟨g1, g2⟩ := gmo g
    simp only [refOf, step] at k
    unfold stepMo at k
    walk_at "rd"
    refine r_ixT (SqT.of ht) (atI_get (j := 0) rfl rfl) ?_
    walk_at "rd"
    refine r_itz g1 ?_
    walk_at "rd"
    refine r_ixT (SqT.of ht) (atI_get (j := 1) rfl rfl) ?_
    walk_at "rd"
    rcases at_or os o with ⟨e, c⟩ | ⟨j, od, rfl, eo, e⟩
    · rw [e] at k
      refine r_itd (fun c1 => ?_) (fun c1 => ?_)
      · walk_at "rd"
        refine ⟨a, _, rfl, .inl (SqL.of h.top), ?_⟩
        walk_at "rd"
        rw [List.length_map, h.len]
        refine r_itn (fun _ => ?_) (fun c2 => absurd ⟨c1, c2⟩ c)
        walk_at "rd"
        exact k _ (Same.refl _)
      · walk_at "rd"
        exact k _ (Same.refl _)
    rw [e] at k
    dsimp only at k
    obtain ⟨p, ep, O, ev⟩ := acc_at h eo
    have hj := (List.getElem?_eq_some_iff.mp eo).1
    have oko := ok.2 od (List.mem_of_getElem? eo)
    refine r_ity (by omega) ?_
    walk_at "rd"
    refine ⟨a, _, rfl, .inl (SqL.of h.top), ?_⟩
    walk_at "rd"
    rw [List.length_map, h.len]
    refine r_itn (fun c => absurd (by omega) c) (fun _ => ?_)
    walk_at "rd"
    refine r_ixT (SqT.of ht) (atI_get (j := 0) rfl rfl) ?_
    walk_at "rd"
    refine r_itz g2 ?_
    walk_at "rd"
    refine r_ixT (SqT.of ht) (atI_get (j := 0) rfl rfl) ?_
    walk_at "rd"
    refine r_itz g2 ?_
    walk_at "rd"
    refine ⟨t, _, rfl, .inr (SqT.of ht), ?_⟩
    walk_at "rd"
    refine r_itz (by show ¬ (3 : Int) = 4; decide) ?_
    walk_at "rd"
    refine r_ity (by decide) ?_
    walk_at "rd"
    refine r_ixT (SqT.of ht) (atI_get (j := 1) rfl rfl) ?_
    refine r_ixL (SqL.of h.top) (atI_get rfl ev) ?_
    walk_at "rd"
    refine r_ixL (SqL.of O.ob) (atI_get (j := 0) rfl rfl) ?_
    walk_at "rd"
    refine ⟨_, _, rfl, .inl (SqL.of O.ll), ?_⟩
    walk_at "rd"
    rw [List.length_map, O.len]
    refine r_itn (fun c => absurd (by omega) c) (fun _ => ?_)
    walk_at "rd"
    refine ⟨t, _, rfl, .inr (SqT.of ht), ?_⟩
    walk_at "rd"
    refine r_ixT (SqT.of ht) (atI_get (j := 2) rfl rfl) ?_
    walk_at "rd"
    refine r_itd (fun c => ?_) (fun c => ?_)
    · rw [if_pos c] at k
      walk_at "rd"
      exact k _ (Same.refl _)
    rw [if_neg c] at k
    walk_at "rd"
    refine r_ixT (SqT.of ht) (atI_get (j := 0) rfl rfl) ?_
    walk_at "rd"
    refine r_itn (fun np => ?_) (fun c => ?_)
    rotate_left
    · rw [if_pos c] at k
      walk_at "rd"
      exact k _ (Same.refl _)
    rw [if_neg np] at k
    have gr : w' = "refund" := g.elim (fun z => absurd z np) id
    walk_at "rd"
    refine r_ixT (SqT.of ht) (atI_get (j := 0) rfl rfl) ?_
    walk_at "rd"
    refine r_ixT (SqT.of ht) (atI_get (j := 1) rfl rfl) ?_
    walk_at "rd"
    refine ⟨w', _, _, a, os, A, rfl, h, ok, fun H1 s1 => ?_⟩
    walk_at "rd"
    rw [most_mo (.inl gr) eo]
    refine r_itd (fun c => ?_) (fun c => ?_)
    · rw [if_pos c] at k
      walk_at "rd"
      exact k _ s1
    · rw [if_neg c] at k
      walk_at "rd"
      exact k _ s1
  | mv o o2 n =>
    obtain ⟨t, rfl, ht⟩ := hd
    simp only [refOf, step] at k
    unfold stepMv at k
    walk_at "rd"
    refine r_ixT (SqT.of ht) (atI_get (j := 0) rfl rfl) ?_
    walk_at "rd"
    refine r_itz (by decide +kernel) ?_
    walk_at "rd"
    refine r_ixT (SqT.of ht) (atI_get (j := 1) rfl rfl) ?_
    walk_at "rd"
    rcases at_or os o with ⟨e, c⟩ | ⟨j, od, rfl, eo, e⟩
    · rw [e] at k
      refine r_itd (fun c1 => ?_) (fun c1 => ?_)
      · walk_at "rd"
        refine ⟨a, _, rfl, .inl (SqL.of h.top), ?_⟩
        walk_at "rd"
        rw [List.length_map, h.len]
        refine r_itn (fun _ => ?_) (fun c2 => absurd ⟨c1, c2⟩ c)
        walk_at "rd"
        exact k _ (Same.refl _)
      · walk_at "rd"
        exact k _ (Same.refl _)
    rw [e] at k
    dsimp only at k
    obtain ⟨p, ep, O, ev⟩ := acc_at h eo
    have hj := (List.getElem?_eq_some_iff.mp eo).1
    have oko := ok.2 od (List.mem_of_getElem? eo)
    refine r_ity (by omega) ?_
    walk_at "rd"
    refine ⟨a, _, rfl, .inl (SqL.of h.top), ?_⟩
    walk_at "rd"
    rw [List.length_map, h.len]
    refine r_itn (fun c => absurd (by omega) c) (fun _ => ?_)
    walk_at "rd"
    refine r_ixT (SqT.of ht) (atI_get (j := 0) rfl rfl) ?_
    walk_at "rd"
    refine r_ity rfl ?_
    walk_at "rd"
    refine r_ixT (SqT.of ht) (atI_get (j := 2) rfl rfl) ?_
    walk_at "rd"
    rcases at_or os o2 with ⟨e, c⟩ | ⟨j2, od2, rfl, eo2, e⟩
    · rw [e] at k
      refine r_itd (fun c1 => ?_) (fun c1 => ?_)
      · walk_at "rd"
        refine ⟨a, _, rfl, .inl (SqL.of h.top), ?_⟩
        walk_at "rd"
        rw [List.length_map, h.len]
        refine r_itn (fun _ => ?_) (fun c2 => absurd ⟨c1, c2⟩ c)
        walk_at "rd"
        exact k _ (Same.refl _)
      · walk_at "rd"
        exact k _ (Same.refl _)
    rw [e] at k
    dsimp only at k
    have hj2 := (List.getElem?_eq_some_iff.mp eo2).1
    refine r_ity (by omega) ?_
    walk_at "rd"
    refine ⟨a, _, rfl, .inl (SqL.of h.top), ?_⟩
    walk_at "rd"
    rw [List.length_map, h.len]
    refine r_itn (fun c => absurd (by omega) c) (fun _ => ?_)
    walk_at "rd"
    refine r_ixT (SqT.of ht) (atI_get (j := 0) rfl rfl) ?_
    walk_at "rd"
    refine r_ity rfl ?_
    walk_at "rd"
    refine r_ixT (SqT.of ht) (atI_get (j := 1) rfl rfl) ?_
    walk_at "rd"
    refine r_ixT (SqT.of ht) (atI_get (j := 2) rfl rfl) ?_
    walk_at "rd"
    refine r_itd (fun c => ?_) (fun c => ?_)
    · rw [if_pos c] at k
      walk_at "rd"
      exact k _ (Same.refl _)
    rw [if_neg c] at k
    walk_at "rd"
    refine ⟨t, _, rfl, .inr (SqT.of ht), ?_⟩
    walk_at "rd"
    refine r_ity rfl ?_
    walk_at "rd"
    refine r_ixT (SqT.of ht) (atI_get (j := 0) rfl rfl) ?_
    walk_at "rd"
    refine r_itn (fun c => absurd rfl c) (fun _ => ?_)
    walk_at "rd"
    refine r_ity (by decide) ?_
    walk_at "rd"
    refine r_ixT (SqT.of ht) (atI_get (j := 1) rfl rfl) ?_
    refine r_ixL (SqL.of h.top) (atI_get rfl ev) ?_
    walk_at "rd"
    refine r_ixL (SqL.of O.ob) (atI_get (j := 0) rfl rfl) ?_
    walk_at "rd"
    refine ⟨_, _, rfl, .inl (SqL.of O.ll), ?_⟩
    walk_at "rd"
    rw [List.length_map, O.len]
    refine r_itn (fun c => absurd (by omega) c) (fun _ => ?_)
    walk_at "rd"
    refine ⟨t, _, rfl, .inr (SqT.of ht), ?_⟩
    walk_at "rd"
    refine r_ixT (SqT.of ht) (atI_get (j := 3) rfl rfl) ?_
    walk_at "rd"
    refine r_itd (fun c => ?_) (fun c => ?_)
    · rw [if_pos c] at k
      walk_at "rd"
      exact k _ (Same.refl _)
    rw [if_neg c] at k
    walk_at "rd"
    refine r_ixT (SqT.of ht) (atI_get (j := 0) rfl rfl) ?_
    walk_at "rd"
    refine r_itn (fun _ => ?_) (fun c => absurd c (by decide +kernel))
    walk_at "rd"
    refine r_ixT (SqT.of ht) (atI_get (j := 0) rfl rfl) ?_
    walk_at "rd"
    refine r_ixT (SqT.of ht) (atI_get (j := 1) rfl rfl) ?_
    walk_at "rd"
    refine ⟨_, _, _, a, os, A, rfl, h, ok, fun H1 s1 => ?_⟩
    walk_at "rd"
    rw [most_mo (.inr rfl) eo]
    refine r_itd (fun c => ?_) (fun c => ?_)
    · rw [if_pos c] at k
      walk_at "rd"
      exact k _ s1
    · rw [if_neg c] at k
      walk_at "rd"
      exact k _ s1

/-! ### a deed's turn in the account -/
def AO.foot (p : AO) (a : Addr) : Prop := a = p.o ∨ a = p.ll ∨ a = p.rw ∨ a ∈ p.las
def ARole.of (j : Nat) (r : ARole) : Prop := r = .o j ∨ r = .ll j ∨ r = .rw j ∨ ∃ i, r = .ln j i
theorem ARole.of_inj {j k : Nat} {r : ARole} (h : r.of j) (g : r.of k) : j = k := by
  rcases h with rfl | rfl | rfl | ⟨i, rfl⟩ <;> rcases g with g | g | g | ⟨i', g⟩ <;> cases g <;> rfl
theorem ARole.of_top {j : Nat} (h : ARole.top.of j) : False := by
  rcases h with h | h | h | ⟨i, h⟩ <;> cases h
theorem ARole.of_no {j : Nat} (h : ARole.no.of j) : False := by
  rcases h with h | h | h | ⟨i, h⟩ <;> cases h
theorem AoAt.dom {H : Hp} {p : AO} {o : Od} (O : AoAt H p o) : ∀ a, p.foot a → ∃ u, H a = some u := by
  intro a f
  rcases f with f | f | f | f
  · exact ⟨_, by rw [f]; exact O.ob⟩
  · exact ⟨_, by rw [f]; exact O.ll⟩
  · obtain ⟨ts, e, _⟩ := O.rws
    exact ⟨_, by rw [f]; exact e⟩
  · obtain ⟨i, hi⟩ := List.getElem?_of_mem f
    have hl : i < o.lines.length := by rw [← O.len]; exact (List.getElem?_eq_some_iff.mp hi).1
    exact ⟨_, O.ln i a _ hi (List.getElem?_eq_getElem hl)⟩
/-- one order is changed -/
theorem AccAt.one {H H' : Hp} {a : Addr} {os : List Od} {A : AL} {j : Nat} {p : AO} {o' : Od} (h : AccAt H a os A) (hp : A.ords[j]? = some p) (O : AoAt H' p o') (bt : But p.foot H H') : AccAt H' a (os.set j o') A := by
  have ro := h.ro j p hp
  have n : ∀ x, ¬ (A.own x).of j → ¬ p.foot x := fun x z f => z (ro.foot f)
  refine ⟨bt.keep _ _ h.top (n _ (by rw [h.rt]; exact ARole.of_top)), h.rt, by simp [h.len], fun i q o e1 e2 => ?_, h.ro, fun x z => ?_⟩
  · by_cases hj : j = i
    · subst hj
      rw [hp] at e1
      cases e1
      have hl : j < os.length := by rw [← h.len]; exact (List.getElem?_eq_some_iff.mp hp).1
      rw [List.getElem?_set_self hl] at e2
      cases e2
      exact O
    · rw [List.getElem?_set_ne hj] at e2
      refine (h.od i q o e1 e2).keep bt fun x f => n x fun z => ?_
      exact hj (ARole.of_inj z ((h.ro i q e1).foot f))
  · by_cases f : p.foot x
    · exact O.dom x f
    · obtain ⟨o, e⟩ := h.dom x z
      exact ⟨o, bt.keep _ _ e f⟩
theorem AccAt.footOf {H : Hp} {a : Addr} {os : List Od} {A : AL} {j : Nat} {p : AO} (h : AccAt H a os A) (hp : A.ords[j]? = some p) : ∀ x, p.foot x → A.foot x := fun x f => (h.ro j p hp).in_ f
/-- the money is written -/
theorem AoAt.money {H : Hp} {A : AL} {j : Nat} {p : AO} {o : Od} {m : Int} (O : AoAt H p o) (R : AoOwn A j p) : AoAt (upd H p.o (.lst [.ref p.ll, .int m, .ref p.rw])) p { o with money := m } ∧ But p.foot H (upd H p.o (.lst [.ref p.ll, .int m, .ref p.rw])) := by
  have b : But (· = p.o) H (upd H p.o (.lst [.ref p.ll, .int m, .ref p.rw])) := But.lst O.ob rfl
  have d : ∀ x r, A.own x = r → r ≠ .o j → x ≠ p.o := fun x r e n z => by rw [z, R.o] at e; exact n e.symm
  refine ⟨⟨upd_same, b.keep _ _ O.ll (d _ _ R.ll (by intro q; cases q)), O.len, fun i x l e1 e2 => b.keep _ _ (O.ln i x l e1 e2) (d _ _ (R.ln i x e1) (by intro q; cases q)), ?_⟩, b.mono fun x z => .inl z⟩
  obtain ⟨ts, e, q⟩ := O.rws
  exact ⟨ts, b.keep _ _ e (d _ _ R.rw (by intro q; cases q)), b.mks q⟩
/-- a line is written -/
theorem AoAt.line {H : Hp} {A : AL} {j : Nat} {p : AO} {o : Od} {i : Nat} {la : Addr} {l : Ln} {l' : Ln} (O : AoAt H p o) (R : AoOwn A j p) (e : p.las[i]? = some la) (el : o.lines[i]? = some l) :
    AoAt (upd H la (.lst (lnL l'))) p { o with lines := o.lines.set i l' } ∧ But p.foot H (upd H la (.lst (lnL l'))) := by
  have b : But (· = la) H (upd H la (.lst (lnL l'))) := But.lst (O.ln i la l e el) rfl
  have R0 := R.ln i la e
  have d : ∀ x r, A.own x = r → r ≠ .ln j i → x ≠ la := fun x r e n z => by rw [z, R0] at e; exact n e.symm
  refine ⟨⟨b.keep _ _ O.ob (d _ _ R.o (by intro q; cases q)), b.keep _ _ O.ll (d _ _ R.ll (by intro q; cases q)), by simp [O.len], fun k x m e1 e2 => ?_, ?_⟩, b.mono fun x z => .inr (.inr (.inr (by rw [z]; exact List.mem_of_getElem? e)))⟩
  · have e2' : (o.lines.set i l')[k]? = some m := e2
    by_cases z : i = k
    · subst z
      rw [e] at e1
      cases e1
      rw [List.getElem?_set_self (List.getElem?_eq_some_iff.mp el).1] at e2'
      cases e2'
      exact upd_same
    · rw [List.getElem?_set_ne z] at e2'
      refine b.keep _ _ (O.ln k x m e1 e2') (d _ _ (R.ln k x e1) fun q => ?_)
      cases q
      exact z rfl
  · obtain ⟨ts, e, q⟩ := O.rws
    exact ⟨ts, b.keep _ _ e (d _ _ R.rw (by intro q; cases q)), b.mks q⟩
/-- a row is written behind -/
theorem AoAt.row {H : Hp} {A : AL} {j : Nat} {p : AO} {o : Od} {ts : List V} {t : Addr} {w : Str} {c : Int} (O : AoAt H p o) (R : AoOwn A j p) (et : H p.rw = some (.lst ts)) (hm : H t = some (.tup [.str w, .int c])) :
    AoAt (upd H p.rw (.lst (ts ++ [.ref t]))) p (o.mark w c) ∧ But p.foot H (upd H p.rw (.lst (ts ++ [.ref t]))) := by
  have b : But (· = p.rw) H (upd H p.rw (.lst (ts ++ [.ref t]))) := But.lst et rfl
  have d : ∀ x r, A.own x = r → r ≠ .rw j → x ≠ p.rw := fun x r e n z => by rw [z, R.rw] at e; exact n e.symm
  refine ⟨⟨b.keep _ _ O.ob (d _ _ R.o (by intro q; cases q)), b.keep _ _ O.ll (d _ _ R.ll (by intro q; cases q)), O.len, fun i x l e1 e2 => b.keep _ _ (O.ln i x l e1 e2) (d _ _ (R.ln i x e1) (by intro q; cases q)), ?_⟩, b.mono fun x z => .inr (.inr (.inl z))⟩
  obtain ⟨ts', e, q⟩ := O.rws
  rw [et] at e
  cases e
  exact ⟨_, upd_same, Paired.snoc (b.mks q) ⟨t, rfl, b.tup _ _ hm⟩⟩
def turnOf (os : List Od) : Dd → Option (List Od)
  | .ord _ => none
  | .ln w o l n => match at_ os o with
    | none => none
    | some (j, od) => match at_ od.lines l with
      | none => none
      | some (i, x) => match x.turn w n with
        | none => none
        | some x' => some (os.set j { od with lines := od.lines.set i x' })
  | .mo w o n => match at_ os o with
    | none => none
    | some (j, od) => some (os.set j (od.pay (if w = "pay" then n else -n)))
  | .mv o p n => match at_ os o with
    | none => none
    | some (i, a) => match at_ os p with
      | none => none
      | some (j, b) => if i = j then none else some ((os.set i (a.pay (-n))).set j (b.pay n))
theorem turn_def {w : Str} {l l' : Ln} {n : Int} (g : w = "deliver" ∨ w = "back" ∨ w = "swap" ∨ w = "credit") (e : l.turn w n = some l') :
    (w = "deliver" ∧ l' = { l with sent := l.sent + n }) ∨ (w = "credit" ∧ l' = { l with credited := l.credited + n }) ∨
    (¬ w = "deliver" ∧ ¬ w = "credit" ∧ l' = Ln.cut { l with home := l.home + n, again := l.again + n * (if w = "swap" then 1 else 0) }) := by
  unfold Ln.turn at e
  rcases g with rfl | rfl | rfl | rfl
  · rw [if_pos rfl] at e
    unfold Ln.deliver at e
    split at e
    · cases e
    · cases e
      exact .inl ⟨rfl, rfl⟩
  · rw [if_neg (by decide +kernel), if_neg (by decide +kernel)] at e
    refine .inr (.inr ⟨by decide +kernel, by decide +kernel, ?_⟩)
    rw [if_neg (by decide +kernel)]
    unfold Ln.bring at e
    split at e
    · cases e
    · cases e
      rw [Int.mul_zero, Int.add_zero]
      rfl
  · rw [if_neg (by decide +kernel), if_neg (by decide +kernel)] at e
    refine .inr (.inr ⟨by decide +kernel, by decide +kernel, ?_⟩)
    rw [if_pos rfl]
    unfold Ln.bring at e
    split at e
    · cases e
    · cases e
      rw [Int.mul_one]
      rfl
  · rw [if_neg (by decide +kernel), if_pos rfl] at e
    unfold Ln.reduce at e
    split at e
    · cases e
    · cases e
      exact .inr (.inl ⟨rfl, rfl⟩)
def spLTurned (_ : PySem.W.Frag) : Sp := fun vs H Q _ => ∃ (F : Addr → Prop) (v : V) (d : Dd) (a : Addr) (os os1 : List Od) (A : AL), vs = [v, .ref a] ∧ DdAt F H v d ∧ d.good ∧ AccAt H a os A ∧ OsOk os ∧ turnOf os d = some os1 ∧
  ∀ H', AccAt H' a os1 A → But A.foot H H' → Stay H H' → Q v H'
theorem len_LTurned {K : PySem.W.Frag} {vs : List V} {H : Hp} {Q : VK} {E : XK} (h : spLTurned K vs H Q E) : vs.length = 2 := by
  obtain ⟨_, _, _, _, _, _, _, rfl, _⟩ := h; rfl
theorem stay_lst {H : Hp} {a : Addr} {o u : HO} (h : H a = some u) : Stay H (upd H a o) := fun x e => by
  by_cases z : x = a
  · rw [z, upd_same] at e; cases e
  · rw [upd_ne z] at e; exact e
theorem r_int1b {H : Hp} {Q : VK} {b : Bool} (q : Q (.int (if b then 1 else 0)) H) : (∃ i, [V.bl b] = [V.int i] ∧ Q (.int i) H) ∨ ∃ k, [V.bl b] = [.bl k] ∧ Q (.int (if k then 1 else 0)) H := .inr ⟨b, rfl, q⟩
theorem ok_LTurned {P : Program} {w : World} {K : PySem.W.Frag} {mg : Str → Option Value} {base : Heap} (T : Tx w K mg) : FnOk P w K mg base CX0 2 (He.fAd K dLTurned.at_) (fdO K dLTurned.at_) P_LTurned (spLTurned K) := by
  refine T.f_LTurned.ok sc_LTurned (fun vs H Q E h => len_LTurned h) (fun cdv A outer s H vs Q E hr h => ⟨_, PSs.nox ((pss_cons (ps_set (i := 2) sc_LTurned.nd rfl (Or.inl rfl) (pe_ix ix_tup (pv 0) (pe_op op_sub (pe_callB call_len_seq (by rfl) T.b_len (by decide +kernel) (pa_cons (pv 0) pa_nil)) pe_int) (fun _ _ => rfl)))
      (pss_cons (ps_if (PW.pt (pw_or (pt_cmpR op_eq (pe_ix ix_tup (pv 0) pe_int (fun _ _ => rfl)) pe_str (nomark _)) (pw_or (pt_cmpR op_eq (pe_ix ix_tup (pv 0) pe_int (fun _ _ => rfl)) pe_str (nomark _)) (pw_or1 (pt_cmpR op_eq (pe_ix ix_tup (pv 0) pe_int (fun _ _ => rfl)) pe_str (nomark _)))))) (pss_cons (ps_set (i := 3) sc_LTurned.nd rfl (Or.inl rfl) (pe_op op_sub pe_int (pe_op op_mul pe_int (pe_callTy call_int1 (by rfl) T.b_int (by decide +kernel) (pa_cons (pe_cmpR op_ne (pe_ix ix_tup (pv 0) pe_int (fun _ _ => rfl)) pe_str (nomark _)) pa_nil)))))
      (pss_cons (ps_asg (pe_op op_add (pe_ix ix_list (pe_ix ix_list (pv 1) (pe_ix ix_tup (pv 0) pe_int (fun _ _ => rfl)) (fun _ _ => rfl)) pe_int (fun _ _ => rfl)) (pe_op op_mul (pv 3) (pv 2))) (pg_sub (pe_ix ix_list (pv 1) (pe_ix ix_tup (pv 0) pe_int (fun _ _ => rfl)) (fun _ _ => rfl)) pe_int set_list))
      (pss_cons (ps_if (pt_cmpR op_eq (pe_ix ix_tup (pv 0) pe_int (fun _ _ => rfl)) pe_str (nomark _)) (pss_one (ps_asg (pe_op op_add (pe_ix ix_list (pe_ix ix_list (pv 1) (pe_ix ix_tup (pv 0) pe_int (fun _ _ => rfl)) (fun _ _ => rfl)) pe_int (fun _ _ => rfl)) (pv 2)) (pg_sub (pe_ix ix_list (pv 1) (pe_ix ix_tup (pv 0) pe_int (fun _ _ => rfl)) (fun _ _ => rfl)) pe_int set_list))) pss_nil)
      (pss_one (ps_ret (pv 0)))))) pss_nil)
      (pss_cons (ps_set (i := 4) sc_LTurned.nd rfl (Or.inl rfl) (pe_ix ix_list (pe_ix ix_list (pe_ix ix_list (pv 1) (pe_ix ix_tup (pv 0) pe_int (fun _ _ => rfl)) (fun _ _ => rfl)) pe_int (fun _ _ => rfl)) (pe_ix ix_tup (pv 0) pe_int (fun _ _ => rfl)) (fun _ _ => rfl)))
      (pss_cons (ps_if (pt_cmpR op_eq (pe_ix ix_tup (pv 0) pe_int (fun _ _ => rfl)) pe_str (nomark _)) (pss_one (ps_asg (pe_op op_add (pe_ix ix_list (pv 4) pe_int (fun _ _ => rfl)) (pv 2)) (pg_sub (pv 4) pe_int set_list))) (pss_one (ps_if (pt_cmpR op_eq (pe_ix ix_tup (pv 0) pe_int (fun _ _ => rfl)) pe_str (nomark _)) (pss_one (ps_asg (pe_op op_add (pe_ix ix_list (pv 4) pe_int (fun _ _ => rfl)) (pv 2)) (pg_sub (pv 4) pe_int set_list))) (pss_cons (ps_asg (pe_op op_add (pe_ix ix_list (pv 4) pe_int (fun _ _ => rfl)) (pv 2)) (pg_sub (pv 4) pe_int set_list))
      (pss_cons (ps_asg (pe_op op_add (pe_ix ix_list (pv 4) pe_int (fun _ _ => rfl)) (pe_op op_mul (pv 2) (pe_callTy call_int1 (by rfl) T.b_int (by decide +kernel) (pa_cons (pe_cmpR op_eq (pe_ix ix_tup (pv 0) pe_int (fun _ _ => rfl)) pe_str (nomark _)) pa_nil)))) (pg_sub (pv 4) pe_int set_list))
      (pss_one (ps_asg (pe_callB (call_min2 rfl) (by rfl) T.b_min (by decide +kernel) (pa_cons (pe_ix ix_list (pv 4) pe_int (fun _ _ => rfl)) (pa_cons (pe_call (ok_LLineWorth T) (hr.mono (by decide)) rfl T.g_LLineWorth T.f_LLineWorth.kp T.b_LLineWorth .nil pass0 (pa_cons (pv 4) pa_nil)) pa_nil))) (pg_sub (pv 4) pe_int set_list))))))))
      (pss_one (ps_ret (pv 0)))))))), ?_⟩)
  obtain ⟨F, v, d, a, os, os1, A, rfl, hd, g, h, ok, tq, k⟩ := h
  cases d with
  | ord ls => cases tq
  | ln w' o pl n =>
    obtain ⟨t, rfl, ht⟩ := hd
    obtain ⟨g1, g2, g3, g4⟩ := gln g
    unfold turnOf at tq
    dsimp only at tq
    rcases at_or os o with ⟨e, c⟩ | ⟨j, od, rfl, eo, e⟩
    · rw [e] at tq; cases tq
    rw [e] at tq
    dsimp only at tq
    rcases at_or od.lines pl with ⟨e, c⟩ | ⟨i, l, rfl, el, e⟩
    · rw [e] at tq; cases tq
    rw [e] at tq
    dsimp only at tq
    cases et : l.turn w' n with
    | none => rw [et] at tq; cases tq
    | some l' =>
    rw [et] at tq
    cases tq
    obtain ⟨p, ep, O, ev⟩ := acc_at h eo
    obtain ⟨la, ela, hla, elv⟩ := ao_at O el
    have R := h.ro j p ep
    have lok := (ok.2 od (List.mem_of_getElem? eo)).1.ln l (List.mem_of_getElem? el)
    have ft : p.foot la := .inr (.inr (.inr (List.mem_of_getElem? ela)))
    have fin : ∀ l2 H2, l2 = l' → H2 = upd H la (.lst (lnL l2)) → Q (.ref t) H2 := fun l2 H2 e1 e2 => by
      subst e1 e2
      obtain ⟨O2, b2⟩ := O.line (l' := l2) R ela el
      exact k _ (h.one ep O2 b2) (b2.mono (h.footOf ep)) (stay_lst hla)
    have nt : t ≠ la := ne_of ht hla (by intro q; cases q)
    walk_at "rd"
    refine ⟨t, _, rfl, .inr (SqT.of ht), ?_⟩
    walk_at "rd"
    refine r_ixT (SqT.of ht) (atI_get (j := 3) rfl rfl) ?_
    walk_at "rd"
    refine r_ixT (SqT.of ht) (atI_get (j := 0) rfl rfl) ?_
    walk_at "rd"
    refine r_itz g3 ?_
    walk_at "rd"
    refine r_ixT (SqT.of ht) (atI_get (j := 0) rfl rfl) ?_
    walk_at "rd"
    refine r_itz g4 ?_
    walk_at "rd"
    refine r_ixT (SqT.of ht) (atI_get (j := 0) rfl rfl) ?_
    walk_at "rd"
    refine r_itz g2 ?_
    walk_at "rd"
    refine r_ixT (SqT.of ht) (atI_get (j := 1) rfl rfl) ?_
    refine r_ixL (SqL.of h.top) (atI_get rfl ev) ?_
    walk_at "rd"
    refine r_ixL (SqL.of O.ob) (atI_get (j := 0) rfl rfl) ?_
    walk_at "rd"
    refine r_ixT (SqT.of ht) (atI_get (j := 2) rfl rfl) ?_
    refine r_ixL (SqL.of O.ll) (atI_get rfl elv) ?_
    walk_at "rd"
    refine r_ixT (SqT.of ht) (atI_get (j := 0) rfl rfl) ?_
    walk_at "rd"
    rcases turn_def g et with ⟨c, rfl⟩ | ⟨c, rfl⟩ | ⟨c1, c2, rfl⟩
    · refine r_ity c ?_
      walk_at "rd"
      refine r_ixL (SqL.of hla) (atI_get (j := 4) rfl rfl) ?_
      walk_at "rd"
      refine r_setL hla (j := 4) rfl (by show 4 < 8; decide) ?_
      walk_at "rd"
      exact fin _ _ rfl rfl
    · refine r_itz (by rw [c]; decide +kernel) ?_
      walk_at "rd"
      refine r_ixT (SqT.of ht) (atI_get (j := 0) rfl rfl) ?_
      walk_at "rd"
      refine r_ity c ?_
      walk_at "rd"
      refine r_ixL (SqL.of hla) (atI_get (j := 7) rfl rfl) ?_
      walk_at "rd"
      refine r_setL hla (j := 7) rfl (by show 7 < 8; decide) ?_
      walk_at "rd"
      exact fin _ _ rfl rfl
    · refine r_itz c1 ?_
      walk_at "rd"
      refine r_ixT (SqT.of ht) (atI_get (j := 0) rfl rfl) ?_
      walk_at "rd"
      refine r_itz c2 ?_
      walk_at "rd"
      refine r_ixL (SqL.of hla) (atI_get (j := 5) rfl rfl) ?_
      walk_at "rd"
      refine r_setL hla (j := 5) rfl (by show 5 < 8; decide) ?_
      walk_at "rd"
      refine r_ixL (SqL.of (upd_same (H := H) (a := la) (o := .lst (lnL { l with home := l.home + n })))) (atI_get (j := 6) rfl rfl) ?_
      walk_at "rd"
      refine r_ixT (SqT.of (by rw [upd_ne nt]; exact ht)) (atI_get (j := 0) rfl rfl) ?_
      walk_at "rd"
      refine .inr ⟨_, rfl, ?_⟩
      walk_at "rd"
      refine r_I (.inr ?_) ?_
      · split <;> omega
      walk_at "rd"
      refine r_setL upd_same (j := 6) rfl (by show 6 < 8; decide) ?_
      rw [upd_upd]
      obtain ⟨l2, el2⟩ : ∃ l2 : Ln, l2 = { l with home := l.home + n, again := l.again + n * (if w' = "swap" then 1 else 0) } := ⟨_, rfl⟩
      have lok2 : l2.ok := by rw [el2]; exact lok
      have eL : List.set (List.set (lnL l) 5 (.int (l.home + n))) 6 (.int (l.again + n * if decide (w' = "swap") = true then 1 else 0)) = lnL l2 := by
        rw [el2]
        simp only [decide_eq_true_eq]
        rfl
      rw [← el2] at fin
      have eL2 : List.set (lnL { l with home := l.home + n }) 6 (.int (l.again + n * if decide (w' = "swap") = true then 1 else 0)) = lnL l2 := eL
      rw [eL]
      walk_at "rd"
      refine r_ixL (SqL.of (upd_same (o := .lst (lnL l2)))) (atI_get (j := 7) rfl rfl) ?_
      walk_at "rd"
      refine ⟨la, l2, rfl, upd_same, lok2, ?_⟩
      walk_at "rd"
      refine ⟨_, _, rfl, ?_⟩
      walk_at "rd"
      refine r_setL (upd_same (H := H) (a := la) (o := .lst (lnL l2))) (j := 7) rfl (by show 7 < 8; decide) ?_
      rw [upd_upd]
      walk_at "rd"
      exact fin _ _ rfl rfl
  | mo w' o n =>
    obtain ⟨t, rfl, ht⟩ := hd
    obtain ⟨g1, g2⟩ := gmo g
    unfold turnOf at tq
    dsimp only at tq
    rcases at_or os o with ⟨e, c⟩ | ⟨j, od, rfl, eo, e⟩
    · rw [e] at tq; cases tq
    rw [e] at tq
    cases tq
    obtain ⟨p, ep, O, ev⟩ := acc_at h eo
    have R := h.ro j p ep
    have fin : ∀ m : Int, m = od.money + (if w' = "pay" then n else -n) → Q (.ref t) (upd H p.o (.lst [.ref p.ll, .int m, .ref p.rw])) := fun m e1 => by
      subst e1
      obtain ⟨O2, b2⟩ := O.money (m := od.money + (if w' = "pay" then n else -n)) R
      exact k _ (h.one ep O2 b2) (b2.mono (h.footOf ep)) (stay_lst O.ob)
    have nt : t ≠ p.o := ne_of ht O.ob (by intro q; cases q)
    walk_at "rd"
    refine ⟨t, _, rfl, .inr (SqT.of ht), ?_⟩
    walk_at "rd"
    refine r_ixT (SqT.of ht) (atI_get (j := 2) rfl rfl) ?_
    walk_at "rd"
    refine r_ixT (SqT.of ht) (atI_get (j := 0) rfl rfl) ?_
    walk_at "rd"
    rcases g with c | c
    · refine r_ity c ?_
      walk_at "rd"
      refine r_ixT (SqT.of ht) (atI_get (j := 0) rfl rfl) ?_
      walk_at "rd"
      refine .inr ⟨_, rfl, ?_⟩
      walk_at "rd"
      refine r_I (.inl ⟨by decide, by decide⟩) ?_
      walk_at "rd"
      refine r_ixT (SqT.of ht) (atI_get (j := 1) rfl rfl) ?_
      refine r_ixL (SqL.of h.top) (atI_get rfl ev) ?_
      walk_at "rd"
      refine r_ixL (SqL.of O.ob) (atI_get (j := 1) rfl rfl) ?_
      walk_at "rd"
      refine r_I (.inl ?_) ?_
      · split <;> exact ⟨by decide, by decide⟩
      walk_at "rd"
      refine r_ixT (SqT.of ht) (atI_get (j := 1) rfl rfl) ?_
      refine r_ixL (SqL.of h.top) (atI_get rfl ev) ?_
      walk_at "rd"
      refine r_setL O.ob (j := 1) rfl (by show 1 < 3; decide) ?_
      walk_at "rd"
      refine r_ixT (SqT.of (by rw [upd_ne nt]; exact ht)) (atI_get (j := 0) rfl rfl) ?_
      walk_at "rd"
      refine r_itz g2 ?_
      walk_at "rd"
      refine fin _ ?_
      rw [if_pos c]
      simp [c]
    · have np : ¬ w' = "pay" := by rw [c]; decide +kernel
      refine r_itz np ?_
      walk_at "rd"
      refine r_ixT (SqT.of ht) (atI_get (j := 0) rfl rfl) ?_
      walk_at "rd"
      refine r_ity c ?_
      walk_at "rd"
      refine r_ixT (SqT.of ht) (atI_get (j := 0) rfl rfl) ?_
      walk_at "rd"
      refine .inr ⟨_, rfl, ?_⟩
      walk_at "rd"
      refine r_I (.inl ⟨by decide, by decide⟩) ?_
      walk_at "rd"
      refine r_ixT (SqT.of ht) (atI_get (j := 1) rfl rfl) ?_
      refine r_ixL (SqL.of h.top) (atI_get rfl ev) ?_
      walk_at "rd"
      refine r_ixL (SqL.of O.ob) (atI_get (j := 1) rfl rfl) ?_
      walk_at "rd"
      refine r_I (.inl ?_) ?_
      · split <;> exact ⟨by decide, by decide⟩
      walk_at "rd"
      refine r_ixT (SqT.of ht) (atI_get (j := 1) rfl rfl) ?_
      refine r_ixL (SqL.of h.top) (atI_get rfl ev) ?_
      walk_at "rd"
      refine r_setL O.ob (j := 1) rfl (by show 1 < 3; decide) ?_
      walk_at "rd"
      refine r_ixT (SqT.of (by rw [upd_ne nt]; exact ht)) (atI_get (j := 0) rfl rfl) ?_
      walk_at "rd"
      refine r_itz g2 ?_
      walk_at "rd"
      refine fin _ ?_
      rw [if_neg np]
      simp [np]
  | mv o o2 n =>
    obtain ⟨t, rfl, ht⟩ := hd
    unfold turnOf at tq
    dsimp only at tq
    rcases at_or os o with ⟨e, c⟩ | ⟨i, od, rfl, eo, e⟩
    · rw [e] at tq; cases tq
    rw [e] at tq
    dsimp only at tq
    rcases at_or os o2 with ⟨e, c⟩ | ⟨j, od2, rfl, eo2, e⟩
    · rw [e] at tq; cases tq
    rw [e] at tq
    dsimp only at tq
    by_cases ij : i = j
    · rw [if_pos ij] at tq; cases tq
    rw [if_neg ij] at tq
    cases tq
    obtain ⟨p, ep, O, ev⟩ := acc_at h eo
    have R := h.ro i p ep
    obtain ⟨O2, b2⟩ := O.money (m := od.money + -n) R
    have h2 := h.one ep O2 b2
    have st2 := stay_lst (o := .lst [.ref p.ll, .int (od.money + -n), .ref p.rw]) O.ob
    have eo2' : (os.set i { od with money := od.money + -n })[j]? = some od2 := by rw [List.getElem?_set_ne ij]; exact eo2
    obtain ⟨p2, ep2, O3, ev3⟩ := acc_at h2 eo2'
    have R2 := h2.ro j p2 ep2
    obtain ⟨O4, b4⟩ := O3.money (m := od2.money + n) R2
    have h4 := h2.one ep2 O4 b4
    have st4 := stay_lst (o := .lst [.ref p2.ll, .int (od2.money + n), .ref p2.rw]) O3.ob
    have ht2 := b2.tup _ _ ht
    walk_at "rd"
    refine ⟨t, _, rfl, .inr (SqT.of ht), ?_⟩
    walk_at "rd"
    refine r_ixT (SqT.of ht) (atI_get (j := 3) rfl rfl) ?_
    walk_at "rd"
    refine r_ixT (SqT.of ht) (atI_get (j := 0) rfl rfl) ?_
    walk_at "rd"
    refine r_itz (by decide +kernel) ?_
    walk_at "rd"
    refine r_ixT (SqT.of ht) (atI_get (j := 0) rfl rfl) ?_
    walk_at "rd"
    refine r_itz (by decide +kernel) ?_
    walk_at "rd"
    refine r_ixT (SqT.of ht) (atI_get (j := 0) rfl rfl) ?_
    walk_at "rd"
    refine r_ity rfl ?_
    walk_at "rd"
    refine r_ixT (SqT.of ht) (atI_get (j := 0) rfl rfl) ?_
    walk_at "rd"
    refine .inr ⟨_, rfl, ?_⟩
    walk_at "rd"
    refine r_I (.inl ⟨by decide, by decide⟩) ?_
    walk_at "rd"
    refine r_ixT (SqT.of ht) (atI_get (j := 1) rfl rfl) ?_
    refine r_ixL (SqL.of h.top) (atI_get rfl ev) ?_
    walk_at "rd"
    refine r_ixL (SqL.of O.ob) (atI_get (j := 1) rfl rfl) ?_
    walk_at "rd"
    refine r_I (.inl ?_) ?_
    · split <;> exact ⟨by decide, by decide⟩
    walk_at "rd"
    refine r_ixT (SqT.of ht) (atI_get (j := 1) rfl rfl) ?_
    refine r_ixL (SqL.of h.top) (atI_get rfl ev) ?_
    walk_at "rd"
    refine r_setL O.ob (j := 1) rfl (by show 1 < 3; decide) ?_
    have em : od.money + (1 - 2 * (if (!decide (("move" : Str) = "pay")) = true then 1 else 0)) * n = od.money + -n := by
      rw [if_pos (by decide +kernel)]
      omega
    rw [em]
    show tSeq _ _ _ _ (upd H p.o (.lst [.ref p.ll, .int (od.money + -n), .ref p.rw]))
    revert h2 O2 b2 st2 O3 O4 b4 h4 st4 ht2
    generalize upd H p.o (.lst [.ref p.ll, .int (od.money + -n), .ref p.rw]) = H2
    intro O2 b2 h2 st2 O3 O4 b4 h4 st4 ht2
    walk_at "rd"
    refine r_ixT (SqT.of ht2) (atI_get (j := 0) rfl rfl) ?_
    walk_at "rd"
    refine r_ity rfl ?_
    walk_at "rd"
    refine r_ixT (SqT.of ht2) (atI_get (j := 2) rfl rfl) ?_
    refine r_ixL (SqL.of h2.top) (atI_get rfl ev3) ?_
    walk_at "rd"
    refine r_ixL (SqL.of O3.ob) (atI_get (j := 1) rfl rfl) ?_
    walk_at "rd"
    refine r_ixT (SqT.of ht2) (atI_get (j := 2) rfl rfl) ?_
    refine r_ixL (SqL.of h2.top) (atI_get rfl ev3) ?_
    walk_at "rd"
    refine r_setL O3.ob (j := 1) rfl (by show 1 < 3; decide) ?_
    walk_at "rd"
    exact k _ h4 ((b2.mono (h.footOf ep)).trans (b4.mono (h2.footOf ep2))) (st2.trans st4)

/-! ### regions that change -/
structure Md (S S' : Addr → Prop) (H H' : Hp) : Prop where
  but : But S H H'
  grow : ∀ a, S' a → S a ∨ H a = none
theorem Md.no {S S' : Addr → Prop} {H H' : Hp} (m : Md S S' H H') {a : Addr} {u : HO} (e : H a = some u) (n : ¬ S a) : H' a = some u ∧ ¬ S' a := by
  refine ⟨m.but.keep _ _ e n, fun z => ?_⟩
  rcases m.grow a z with q | q
  · exact n q
  · rw [e] at q; cases q
theorem Mod.md {L L' : Lay} {H H' : Hp} (m : Mod L L' H H') : Md L.foot L'.foot H H' := ⟨m.but, m.grow⟩
theorem Md.same {S : Addr → Prop} {H H' : Hp} (s : Same H H') : Md S S H H' := ⟨But.of s, fun _ z => .inl z⟩
theorem Md.of {S : Addr → Prop} {H H' : Hp} (b : But S H H') : Md S S H H' := ⟨b, fun _ z => .inl z⟩
theorem Md.trans {S S1 S2 : Addr → Prop} {H H1 H2 : Hp} (a : Md S S1 H H1) (b : Md S1 S2 H1 H2) (st : Stay H H1) : Md S S2 H H2 where
  but := a.but.mut b.but fun x z => (a.grow x z).elim .inl .inr
  grow := fun x z => (b.grow x z).elim (fun q => a.grow x q) fun q => .inr (st x q)
/-- a comprehension whose elements are new objects -/
theorem lcp_new {K : PySem.W.Frag} {te : TE} {j : Nat} {σ : L2.St} {H1 : Hp} {Q : VK} {a : Addr} {xs : List V} {zs : List HO} (hs : SqL K H1 a xs) (hl : zs.length = xs.length) (hz : xs.length ≤ 100000)
    (he : ∀ (i : Nat) (x : V) (z : HO) (H' : Hp) (W : VK), xs[i]? = some x → zs[i]? = some z → Same H1 H' → (∀ y H'', Same H' H'' → H' y = none → H'' y = some z → W (.ref y) H'') → te ((wipe σ [j]).set j (some x)) H' W)
    (k : ∀ (D : Addr) (H' : Hp) (as : List Addr), H1 D = none → Same H1 H' → H' D = some (.lst (as.map V.ref)) → as.length = zs.length → as.Nodup → (∀ b, b ∈ as → H1 b = none ∧ b ≠ D) →
      (∀ (i : Nat) b z, as[i]? = some b → zs[i]? = some z → H' b = some z) → Q (.ref D) H') : ∃ a', V.ref a = V.ref a' ∧ (∃ xs, SqL K H1 a' xs) ∧ Lcs (Itl K a') (gName j) tYes te [j] σ H1 Q := by
  refine ⟨a, rfl, ⟨xs, hs⟩, fun D hD => ?_⟩
  refine lc_list (K := K) (a := a) (xs := xs) (fun i H' => ∃ as : List Addr, as.length = i ∧ H' D = some (.lst (as.map V.ref)) ∧ as.Nodup ∧ Same H1 H' ∧ (∀ b, b ∈ as → H1 b = none ∧ b ≠ D) ∧ ∀ (j : Nat) b z, as[j]? = some b → zs[j]? = some z → H' b = some z)
    ⟨[], rfl, upd_same, List.nodup_nil, same_upd hD, fun b hb => (by cases hb), fun j b z e => by simp at e⟩ (fun i H' _ ⟨_, _, _, _, s, _⟩ => s.seq hs) ?_ ?_
  · rintro i x H' hi ⟨as, hlen, hd, nd, s, fr, hln⟩
    have hi1 : i < xs.length := (List.getElem?_eq_some_iff.mp hi).1
    have hi2 : i < zs.length := by rw [hl]; exact hi1
    have ez : zs[i]? = some zs[i] := List.getElem?_eq_getElem hi2
    refine ⟨wipe1, r_yes (r_itT ?_)⟩
    refine he i x _ H' _ hi ez s fun y H2 s2 ny h2 => ?_
    have nyD : y ≠ D := Ne.symm (ne_of_none hd ny)
    have nya : ¬ y ∈ as := fun hm => by
      obtain ⟨j', hj⟩ := List.getElem?_of_mem hm
      have hj2 : j' < as.length := (List.getElem?_eq_some_iff.mp hj).1
      have hjt : j' < zs.length := by omega
      have q := hln j' y _ hj (List.getElem?_eq_getElem hjt)
      rw [q] at ny
      cases ny
    refine ⟨_, s2 _ _ hd, ?_, as ++ [y], by simp [hlen], ?_, nodup_snoc nd nya, ?_, ?_, ?_⟩
    · refine sz5l ?_
      rw [List.length_map, hlen]
      omega
    · rw [upd_same, List.map_append]; rfl
    · exact fun b o e => by
        rw [upd_ne (ne_of_none e hD)]
        exact s2 _ _ (s _ _ e)
    · intro b hb
      rcases List.mem_append.mp hb with h | h
      · exact fr b h
      · have e : b = y := by simpa using h
        subst e
        exact ⟨Same.free s ny, nyD⟩
    · intro j' b t e1 e2
      by_cases hj : j' < as.length
      · rw [List.getElem?_append_left hj] at e1
        rw [upd_ne (fr b (List.mem_of_getElem? e1)).2]
        exact s2 _ _ (hln j' b t e1 e2)
      · have hj2 : j' = as.length := by
          have := (List.getElem?_eq_some_iff.mp e1).1
          simp at this
          omega
        subst hj2
        rw [List.getElem?_append_right (Nat.le_refl _), Nat.sub_self] at e1
        cases e1
        rw [hlen, ez] at e2
        cases e2
        rw [upd_ne nyD]
        exact h2
  · rintro H' ⟨as, hlen, hd, nd, s, fr, hln⟩
    exact k D H' as hD s hd (by omega) nd fr hln
/-! ### a new order in the account -/
def AL.add (A : AL) (p : AO) : AL := ⟨A.ords ++ [p], fun a => if a = p.o then .o A.ords.length else if a = p.ll then .ll A.ords.length else if a = p.rw then .rw A.ords.length else if a ∈ p.las then .ln A.ords.length (p.las.idxOf a) else A.own a⟩
theorem idx_nd : ∀ {xs : List Addr} {i : Nat} {a : Addr}, xs.Nodup → xs[i]? = some a → xs.idxOf a = i
  | [], _, _, _, e => by simp at e
  | x :: xs, 0, a, _, e => by
    cases e
    simp [List.idxOf_cons]
  | x :: xs, i + 1, a, nd, e => by
    have e' : xs[i]? = some a := by simpa using e
    have n := (List.nodup_cons.mp nd)
    have ne : ¬ x = a := fun z => n.1 (by rw [z]; exact List.mem_of_getElem? e')
    have ih := idx_nd n.2 e'
    have nb : (x == a) = false := by simpa using ne
    simp [List.idxOf_cons, nb, ih]
theorem AL.add_own {A : AL} {p : AO} (d1 : p.ll ≠ p.o) (d2 : p.rw ≠ p.o) (d3 : p.rw ≠ p.ll) (nd : p.las.Nodup) (n : ∀ x, x ∈ p.las → x ≠ p.o ∧ x ≠ p.ll ∧ x ≠ p.rw) : AoOwn (A.add p) A.ords.length p where
  o := by simp [AL.add]
  ll := by simp [AL.add, d1]
  rw := by simp [AL.add, d2, d3]
  ln := fun i a e => by
    have m := List.mem_of_getElem? e
    obtain ⟨n1, n2, n3⟩ := n a m
    simp only [AL.add, if_neg n1, if_neg n2, if_neg n3, if_pos m, idx_nd nd e]
theorem AccAt.add {H H2 : Hp} {a : Addr} {os : List Od} {A : AL} {p : AO} {o : Od} (h : AccAt H a os A) (hx : ∀ x, p.foot x → H x = none) (R : AoOwn (A.add p) A.ords.length p) (O : AoAt H2 p o) (s : Same H H2) :
    AccAt (upd H2 a (.lst ((A.ords ++ [p]).map fun p => V.ref p.o))) a (os ++ [o]) (A.add p) ∧ Md A.foot (A.add p).foot H (upd H2 a (.lst ((A.ords ++ [p]).map fun p => V.ref p.o))) := by
  have top2 := s _ _ h.top
  have bt2 : But (· = a) H2 (upd H2 a (.lst ((A.ords ++ [p]).map fun p => V.ref p.o))) := But.lst top2 rfl
  have bt : But (· = a) H (upd H2 a (.lst ((A.ords ++ [p]).map fun p => V.ref p.o))) := (But.of s).trans bt2
  have out : ∀ x, ¬ p.foot x → (A.add p).own x = A.own x := fun x f => by
    simp only [AL.add]
    rw [if_neg (fun z => f (.inl z)), if_neg (fun z => f (.inr (.inl z))), if_neg (fun z => f (.inr (.inr (.inl z)))), if_neg (fun z => f (.inr (.inr (.inr z))))]
  have old : ∀ x, A.own x ≠ .no → ¬ p.foot x := fun x z f => by
    obtain ⟨u, q⟩ := h.dom x z
    rw [hx x f] at q
    cases q
  have fe : ∀ x, p.foot x → ¬ x = a := fun x f z => by
    have q := h.top
    rw [← z, hx x f] at q
    cases q
  have z1 : ∀ {r : ARole} {x : Addr}, A.own x = r → r ≠ .no → (A.add p).own x = r := fun {r x} e n => by
    rw [out x (old x (by rw [e]; exact n)), e]
  refine ⟨⟨upd_same, z1 h.rt (by intro q; cases q), by simp [AL.add, h.len], fun j q u e1 e2 => ?_, fun j q e1 => ?_, fun x z => ?_⟩, ⟨bt.mono fun x y => ?_, fun x z => ?_⟩⟩
  · by_cases hj : j < A.ords.length
    · have e1' : (A.ords ++ [p])[j]? = some q := e1
      rw [List.getElem?_append_left hj] at e1'
      rw [List.getElem?_append_left (by rw [← h.len]; exact hj)] at e2
      refine (h.od j q u e1' e2).keep bt fun x f z => ?_
      have q1 := (h.ro j q e1').foot f
      have z' : x = a := z
      rw [z', h.rt] at q1
      exact ARole.of_top q1
    · have e1' : (A.ords ++ [p])[j]? = some q := e1
      have hj2 : j = A.ords.length := by
        have := (List.getElem?_eq_some_iff.mp e1').1
        simp at this
        omega
      subst hj2
      rw [List.getElem?_append_right (Nat.le_refl _), Nat.sub_self] at e1'
      cases e1'
      rw [h.len, List.getElem?_append_right (Nat.le_refl _), Nat.sub_self] at e2
      cases e2
      exact O.keep bt2 fun x f z => fe x f z
  · by_cases hj : j < A.ords.length
    · have e1' : (A.ords ++ [p])[j]? = some q := e1
      rw [List.getElem?_append_left hj] at e1'
      have R' := h.ro j q e1'
      exact ⟨z1 R'.o (by intro q; cases q), z1 R'.ll (by intro q; cases q), z1 R'.rw (by intro q; cases q), fun i x e => z1 (R'.ln i x e) (by intro q; cases q)⟩
    · have e1' : (A.ords ++ [p])[j]? = some q := e1
      have hj2 : j = A.ords.length := by
        have := (List.getElem?_eq_some_iff.mp e1').1
        simp at this
        omega
      subst hj2
      rw [List.getElem?_append_right (Nat.le_refl _), Nat.sub_self] at e1'
      cases e1'
      exact R
  · by_cases f : p.foot x
    · obtain ⟨u, q⟩ := O.dom x f
      exact ⟨u, bt2.keep _ _ q (fe x f)⟩
    · rw [out x f] at z
      by_cases y : x = a
      · exact ⟨_, by rw [y]; exact upd_same⟩
      · obtain ⟨u, q⟩ := h.dom x z
        exact ⟨u, bt.keep _ _ q y⟩
  · have y' : x = a := y
    show A.own x ≠ .no
    rw [y', h.rt]
    intro q
    cases q
  · by_cases f : p.foot x
    · exact .inr (hx x f)
    · have z' : (A.add p).own x ≠ .no := z
      rw [out x f] at z'
      exact .inl z'
/-! ### a step of the account -/
def word : Dd → Str
  | .ord _ => "order"
  | .ln w _ _ _ => w
  | .mo w _ _ => w
  | .mv _ _ _ => "move"
def places : Dd → List Int
  | .ord _ => []
  | .ln _ o _ _ => [o]
  | .mo _ o _ => [o]
  | .mv o p _ => [o, p]
theorem dd_form {F : Addr → Prop} {H : Hp} {v : V} {d : Dd} (g : d.good) (h : DdAt F H v d) (no : ∀ ls, d ≠ .ord ls) : ∃ t o1 r, v = .ref t ∧ H t = some (.tup (.str (word d) :: .int o1 :: r)) ∧ ¬ word d = "order" ∧
    ((word d = "move" ∧ ∃ o2 r', r = .int o2 :: r' ∧ places d = [o1, o2]) ∨ (¬ word d = "move" ∧ places d = [o1])) := by
  cases d with
  | ord ls => exact absurd rfl (no ls)
  | ln w o l n =>
    obtain ⟨t, e, q⟩ := h
    exact ⟨t, o, _, e, q, (gln g).1, .inr ⟨(gln g).2.1, rfl⟩⟩
  | mo w o n =>
    obtain ⟨t, e, q⟩ := h
    exact ⟨t, o, _, e, q, (gmo g).1, .inr ⟨(gmo g).2, rfl⟩⟩
  | mv o p n =>
    obtain ⟨t, e, q⟩ := h
    exact ⟨t, o, _, e, q, by show ¬ ("move" : Str) = "order"; decide +kernel, .inl ⟨rfl, p, _, rfl, rfl⟩⟩
def owAt (os : List Od) (n : Int) : Int := match at_ os n with
  | none => 0
  | some (_, o) => o.owing
def mark1 (w : Str) (os : List Od) (c : Int × Int) : List Od := match at_ os c.1 with
  | none => os
  | some (j, o) => os.set j (o.mark w c.2)
def markAll (os : List Od) (w : Str) (cs : List (Int × Int)) : List Od := cs.foldl (mark1 w) os
theorem mark_snoc {os : List Od} {w : Str} {cs : List (Int × Int)} {i : Nat} {c : Int × Int} (h : cs[i]? = some c) : markAll os w (cs.take (i + 1)) = mark1 w (markAll os w (cs.take i)) c := by
  unfold markAll
  rw [take_snoc h, List.foldl_append]
  rfl
theorem mark1_len {w : Str} {os : List Od} {c : Int × Int} : (mark1 w os c).length = os.length := by
  unfold mark1
  split <;> simp
theorem markAll_len {w : Str} : ∀ {cs : List (Int × Int)} {os : List Od}, (markAll os w cs).length = os.length
  | [], _ => rfl
  | c :: cs, os => by
    show (markAll (mark1 w os c) w cs).length = _
    rw [markAll_len, mark1_len]
theorem set_same {α : Type} {xs : List α} {j : Nat} {x : α} (h : xs[j]? = some x) : xs.set j x = xs := by
  apply List.ext_getElem?
  intro i
  by_cases e : j = i
  · subst e
    rw [List.getElem?_set_self (List.getElem?_eq_some_iff.mp h).1, h]
  · rw [List.getElem?_set_ne e]
/-- a deed that is done: its turn, and the rows behind it -/
theorem step_turn {os es : List Od} {cs : List (Int × Int)} {d : Dd} (no : ∀ ls, d ≠ .ord ls) (e : step os d = .ok (es, cs)) : ∃ os1, turnOf os d = some os1 ∧ os1.length = os.length ∧ cs = (places d).map (fun p => (p, owAt os1 p - owAt os p)) ∧
    es = markAll os1 (word d) cs ∧ ∀ p, p ∈ places d → ∃ j : Nat, p = (j : Int) ∧ j < os.length := by
  cases d with
  | ord ls => exact absurd rfl (no ls)
  | ln w o l n =>
    have e' : stepLn os w o l n = .ok (es, cs) := e
    unfold stepLn at e'
    unfold turnOf
    dsimp only
    rcases at_or os o with ⟨q, _⟩ | ⟨j, od, rfl, eo, q⟩
    · rw [q] at e'; cases e'
    rw [q] at e' ⊢
    dsimp only at e' ⊢
    rcases at_or od.lines l with ⟨q2, _⟩ | ⟨i, x, rfl, el, q2⟩
    · rw [q2] at e'; cases e'
    rw [q2] at e' ⊢
    dsimp only at e' ⊢
    split at e'
    · cases e'
    cases et : x.turn w n with
    | none => rw [et] at e'; cases e'
    | some x' =>
    rw [et] at e'
    cases e'
    have hj := (List.getElem?_eq_some_iff.mp eo).1
    have es1 : (os.set j { od with lines := od.lines.set i x' })[j]? = some { od with lines := od.lines.set i x' } := List.getElem?_set_self hj
    refine ⟨_, rfl, by simp, ?_, ?_, fun p hp => ⟨j, by simpa [places] using hp, hj⟩⟩
    · simp only [places, List.map_cons, List.map_nil]
      unfold owAt
      rw [at_some es1, q]
    · unfold markAll mark1
      simp only [List.foldl_cons, List.foldl_nil]
      rw [at_some es1]
      simp only [List.set_set]
      rfl
  | mo w o n =>
    have e' : stepMo os w o n = .ok (es, cs) := e
    unfold stepMo at e'
    unfold turnOf
    dsimp only
    rcases at_or os o with ⟨q, _⟩ | ⟨j, od, rfl, eo, q⟩
    · rw [q] at e'; cases e'
    rw [q] at e' ⊢
    dsimp only at e' ⊢
    split at e'
    · cases e'
    have hj := (List.getElem?_eq_some_iff.mp eo).1
    have key : ∀ x : Od, es = os.set j (x.mark w (x.owing - od.owing)) → cs = [((j : Int), x.owing - od.owing)] → cs = (places (.mo w j n)).map (fun p => (p, owAt (os.set j x) p - owAt os p)) ∧ es = markAll (os.set j x) (word (.mo w j n)) cs := fun x h1 h2 => by
      have es1 : (os.set j x)[j]? = some x := List.getElem?_set_self hj
      subst h1 h2
      refine ⟨?_, ?_⟩
      · simp only [places, List.map_cons, List.map_nil]
        unfold owAt
        rw [at_some es1, q]
      · unfold markAll mark1
        simp only [List.foldl_cons, List.foldl_nil]
        rw [at_some es1]
        simp only [List.set_set]
        rfl
    by_cases c : w = "pay"
    · rw [if_pos c] at e' ⊢
      cases e'
      obtain ⟨k1, k2⟩ := key (od.pay n) rfl rfl
      exact ⟨_, rfl, by simp, k1, k2, fun p hp => ⟨j, by simpa [places] using hp, hj⟩⟩
    · rw [if_neg c] at e' ⊢
      split at e'
      · cases e'
      cases e'
      obtain ⟨k1, k2⟩ := key (od.pay (-n)) rfl rfl
      exact ⟨_, rfl, by simp, k1, k2, fun p hp => ⟨j, by simpa [places] using hp, hj⟩⟩
  | mv o o2 n =>
    have e' : stepMv os o o2 n = .ok (es, cs) := e
    unfold stepMv at e'
    unfold turnOf
    dsimp only
    rcases at_or os o with ⟨q, _⟩ | ⟨i, a, rfl, eo, q⟩
    · rw [q] at e'; cases e'
    rw [q] at e' ⊢
    dsimp only at e' ⊢
    rcases at_or os o2 with ⟨q2, _⟩ | ⟨j, b, rfl, eo2, q2⟩
    · rw [q2] at e'; cases e'
    rw [q2] at e' ⊢
    dsimp only at e' ⊢
    split at e'
    · cases e'
    rename_i nij
    have ij : ¬ i = j := fun z => nij (by rw [z])
    rw [if_neg ij]
    split at e'
    · cases e'
    split at e'
    · cases e'
    cases e'
    have hi := (List.getElem?_eq_some_iff.mp eo).1
    have hj := (List.getElem?_eq_some_iff.mp eo2).1
    have e1 : ((os.set i (a.pay (-n))).set j (b.pay n))[i]? = some (a.pay (-n)) := by
      rw [List.getElem?_set_ne (Ne.symm ij), List.getElem?_set_self hi]
    have e2 : ((os.set i (a.pay (-n))).set j (b.pay n))[j]? = some (b.pay n) := List.getElem?_set_self (by simpa using hj)
    refine ⟨_, rfl, by simp, ?_, ?_, fun p hp => ?_⟩
    · simp only [places, List.map_cons, List.map_nil]
      unfold owAt
      rw [at_some e1, at_some e2, q, q2]
    · unfold markAll mark1
      simp only [List.foldl_cons, List.foldl_nil]
      rw [at_some e1]
      dsimp only
      have e3 : (((os.set i (a.pay (-n))).set j (b.pay n)).set i ((a.pay (-n)).mark (word (.mv i j n)) ((a.pay (-n)).owing - a.owing)))[j]? = some (b.pay n) := by
        rw [List.getElem?_set_ne ij]
        exact e2
      rw [at_some e3]
      dsimp only
      have c1 : ∀ A A' B : Od, ((os.set i A).set j B).set i A' = (os.set i A').set j B := fun A A' B => by
        rw [List.set_comm _ _ (Ne.symm ij), List.set_set]
      rw [c1, List.set_set]
      rfl
    · have hp' : p = (i : Int) ∨ p = (j : Int) := by simpa [places] using hp
      rcases hp' with rfl | rfl
      · exact ⟨i, rfl, hi⟩
      · exact ⟨j, rfl, hj⟩
theorem turn_item {w : Str} {l l' : Ln} {n : Int} (e : l.turn w n = some l') : l'.item = l.item := by
  unfold Ln.turn Ln.deliver Ln.reduce Ln.bring Ln.cut at e
  repeat' split at e
  all_goals first
    | (cases e; rfl)
    | cases e
theorem Od.strs.line {o : Od} {i : Nat} {l l' : Ln} {w : Str} {n : Int} (h : o.strs) (el : o.lines[i]? = some l) (e : l.turn w n = some l') : Od.strs { o with lines := o.lines.set i l' } := by
  refine ⟨fun x hx => ?_, h.2⟩
  have hx' : x ∈ o.lines.set i l' := hx
  rcases List.mem_or_eq_of_mem_set hx' with z | z
  · exact h.1 x z
  · rw [z, turn_item e]
    exact h.1 l (List.mem_of_getElem? el)
theorem turn_okk {os os1 : List Od} {d : Dd} (ok : OsOk os) (g : d.good) (e : turnOf os d = some os1) : OsOk os1 := by
  have set1 : ∀ {xs : List Od} {j : Nat} {x : Od}, OsOk xs → x.ok ∧ 1 ≤ x.lines.length ∧ x.strs → OsOk (xs.set j x) := fun {xs j x} h hx => ⟨by simpa using h.1, fun o ho => by
    rcases List.mem_or_eq_of_mem_set ho with z | z
    · exact h.2 o z
    · rw [z]; exact hx⟩
  cases d with
  | ord ls => cases e
  | ln w o l n =>
    unfold turnOf at e
    dsimp only at e
    rcases at_or os o with ⟨q, _⟩ | ⟨j, od, rfl, eo, q⟩
    · rw [q] at e; cases e
    rw [q] at e
    dsimp only at e
    rcases at_or od.lines l with ⟨q2, _⟩ | ⟨i, x, rfl, el, q2⟩
    · rw [q2] at e; cases e
    rw [q2] at e
    dsimp only at e
    cases et : x.turn w n with
    | none => rw [et] at e; cases e
    | some x' =>
    rw [et] at e
    cases e
    have oo := ok.2 od (List.mem_of_getElem? eo)
    exact set1 ok ⟨oo.1.line el et, by simpa using oo.2.1, oo.2.2.line el et⟩
  | mo w o n =>
    unfold turnOf at e
    dsimp only at e
    rcases at_or os o with ⟨q, _⟩ | ⟨j, od, rfl, eo, q⟩
    · rw [q] at e; cases e
    rw [q] at e
    cases e
    have oo := ok.2 od (List.mem_of_getElem? eo)
    exact set1 ok ⟨oo.1.pay, oo.2⟩
  | mv o o2 n =>
    unfold turnOf at e
    dsimp only at e
    rcases at_or os o with ⟨q, _⟩ | ⟨i, a, rfl, eo, q⟩
    · rw [q] at e; cases e
    rw [q] at e
    dsimp only at e
    rcases at_or os o2 with ⟨q2, _⟩ | ⟨j, b, rfl, eo2, q2⟩
    · rw [q2] at e; cases e
    rw [q2] at e
    dsimp only at e
    split at e
    · cases e
    cases e
    have oa := ok.2 a (List.mem_of_getElem? eo)
    have ob := ok.2 b (List.mem_of_getElem? eo2)
    exact set1 (set1 ok ⟨oa.1.pay, oa.2⟩) ⟨ob.1.pay, ob.2⟩

theorem word_str {d : Dd} (g : d.good) : PyData.strOk (word d) = true := by
  cases d with
  | ord ls => show PyData.strOk "order" = true; decide +kernel
  | ln w o l n => rcases g with rfl | rfl | rfl | rfl <;> (simp only [word]; decide +kernel)
  | mo w o n => rcases g with rfl | rfl <;> (simp only [word]; decide +kernel)
  | mv o p n => show PyData.strOk "move" = true; decide +kernel
theorem mark_okk {w : Str} (hw : PyData.strOk w = true) : ∀ {cs : List (Int × Int)} {os : List Od}, OsOk os → OsOk (markAll os w cs)
  | [], _, h => h
  | c :: cs, os, h => by
    show OsOk (markAll (mark1 w os c) w cs)
    refine mark_okk hw ?_
    unfold mark1
    rcases at_or os c.1 with ⟨q, _⟩ | ⟨j, o, q0, eo, q⟩
    · rw [q]; exact h
    · rw [q]
      dsimp only
      refine ⟨by simpa using h.1, fun x hx => ?_⟩
      rcases List.mem_or_eq_of_mem_set hx with z | z
      · exact h.2 x z
      · have oo := h.2 o (List.mem_of_getElem? eo)
        rw [z]
        refine ⟨oo.1.mark, oo.2.1, oo.2.2.1, fun m hm => ?_⟩
        have hm' : m ∈ o.marks ++ [(w, c.2)] := hm
        rcases List.mem_append.mp hm' with y | y
        · exact oo.2.2.2 m y
        · have e : m = (w, c.2) := by simpa using y
          rw [e]; exact hw
theorem step_okk {os es : List Od} {cs : List (Int × Int)} {d : Dd} (h : OsOk os) (g : d.good) (gd : ∀ ls, d = .ord ls → Good ls) (l : os.length < 100) (e : step os d = .ok (es, cs)) : OsOk es := by
  by_cases no : ∃ ls, d = .ord ls
  · obtain ⟨ls, rfl⟩ := no
    have G := gd ls rfl
    have e' : stepOrd os ls = .ok (es, cs) := e
    unfold stepOrd at e'
    split at e'
    · cases e'
    cases e'
    refine ⟨by simp; omega, fun o ho => ?_⟩
    rcases List.mem_append.mp ho with z | z
    · exact h.2 o z
    · have eo : o = ⟨ls.map Lt.ln, 0, []⟩ := by simpa using z
      subst eo
      refine ⟨⟨fun x hx => ?_, by simpa using G.1.2⟩, by simpa using G.1.1, fun x hx => ?_, fun m hm => by cases hm⟩
      · obtain ⟨t, ht, rfl⟩ := List.mem_map.mp hx
        have q := (G.2 t ht).2
        exact ⟨q.2.1, q.2.2⟩
      · obtain ⟨t, ht, rfl⟩ := List.mem_map.mp hx
        exact (G.2 t ht).1
  · obtain ⟨os1, tq, _, _, ees, _⟩ := step_turn (fun ls e => no ⟨ls, e⟩) e
    rw [ees]
    exact mark_okk (word_str g) (turn_okk h g tq)
theorem step_len {os es : List Od} {cs : List (Int × Int)} {d : Dd} (e : step os d = .ok (es, cs)) : es.length ≤ os.length + 1 ∧ ((∀ ls, d ≠ .ord ls) → es.length = os.length) ∧ ((∃ ls, d = .ord ls) → es.length = os.length + 1) := by
  by_cases no : ∃ ls, d = .ord ls
  · obtain ⟨ls, rfl⟩ := no
    have e' : stepOrd os ls = .ok (es, cs) := e
    unfold stepOrd at e'
    split at e'
    · cases e'
    cases e'
    exact ⟨by simp, fun z => absurd rfl (z ls), fun _ => by simp⟩
  · obtain ⟨os1, tq, l1, _, ees, _⟩ := step_turn (fun ls e => no ⟨ls, e⟩) e
    have : es.length = os.length := by rw [ees, markAll_len, l1]
    exact ⟨by omega, fun _ => this, fun z => absurd z no⟩

/-! ### the law's step -/
def spLStep (_ : PySem.W.Frag) : Sp := fun vs H Q _ => ∃ (F : Addr → Prop) (v : V) (d : Dd) (a : Addr) (os es : List Od) (cs : List (Int × Int)) (A : AL), vs = [v, .ref a] ∧ DdAt F H v d ∧ d.good ∧ (∀ ls, d = .ord ls → ls.length ≤ 100000) ∧ AccAt H a os A ∧ OsOk os ∧
  (∀ o, o ∈ es → o.marks.length < 100000) ∧ step os d = .ok (es, cs) ∧ ∀ r A' H', AccAt H' a es A' → Md A.foot A'.foot H H' → Stay H H' → H r = none → A'.own r = .no → ChAt H' r cs → Q (.ref r) H'
theorem len_LStep {K : PySem.W.Frag} {vs : List V} {H : Hp} {Q : VK} {E : XK} (h : spLStep K vs H Q E) : vs.length = 2 := by
  obtain ⟨_, _, _, _, _, _, _, _, rfl, _⟩ := h; rfl
theorem AccAt.byn {H : Hp} {a : Addr} {os : List Od} {A : AL} (h : AccAt H a os A) {x : Addr} (e : A.own x = .no) : x ≠ a := fun z => by
  rw [z, h.rt] at e; cases e
theorem ok_LStep {P : Program} {w : World} {K : PySem.W.Frag} {mg : Str → Option Value} {base : Heap} (T : Tx w K mg) : FnOk P w K mg base CX0 3 (He.fAd K dLStep.at_) (fdO K dLStep.at_) P_LStep (spLStep K) := by
  refine T.f_LStep.ok sc_LStep (fun vs H Q E h => len_LStep h) (fun cdv A outer s H vs Q E hr h => ⟨_, PSs.nox ((pss_cons (ps_if (pt_cmpR op_eq (pe_ix ix_tup (pv 0) pe_int (fun _ _ => rfl)) pe_str (nomark _)) (pss_cons (ps_expr (pe_bm PySem.F.plainAttrs_list PySem.F.slot_list_append PySem.F.type_list_append mt_append (pv 1) (pa_cons (pe_lst (pa_cons (pe_lc (own := [("_law_line", 2)]) (g := gName 2) (tt := tYes) rfl sc_LStep.nd (pi_list (pe_ix ix_tup (pv 0) pe_int (fun _ _ => rfl))) (blkOk_by (N := N_LStep) (sc := defScope sLStep) (by decide +kernel)) (fun _ _ _ _ _ => pg_name (i := 2) sc_LStep.nd rfl (Or.inl rfl)) (fun _ _ _ _ _ => pts_nil) (fun _ _ _ _ _ => (pe_op op_cat (pe_callTy (call_listK (K := K) rfl) (by rfl) T.b_list (by decide +kernel) (pa_cons (pv 2) pa_nil)) (pe_lst (pa_cons pe_int (pa_cons pe_int (pa_cons pe_int (pa_cons pe_int pa_nil)))))))) (pa_cons pe_int (pa_cons (pe_lst pa_nil) pa_nil)))) pa_nil)))
      (pss_one (ps_ret (pe_lst pa_nil)))) pss_nil)
      (pss_cons (ps_set (i := 3) sc_LStep.nd rfl (Or.inl rfl) (pe_lst (pa_cons (pe_ix ix_tup (pv 0) pe_int (fun _ _ => rfl)) pa_nil)))
      (pss_cons (ps_if (pt_cmpR op_eq (pe_ix ix_tup (pv 0) pe_int (fun _ _ => rfl)) pe_str (nomark _)) (pss_one (ps_set (i := 3) sc_LStep.nd rfl (Or.inl rfl) (pe_lst (pa_cons (pe_ix ix_tup (pv 0) pe_int (fun _ _ => rfl)) (pa_cons (pe_ix ix_tup (pv 0) pe_int (fun _ _ => rfl)) pa_nil))))) pss_nil)
      (pss_cons (ps_set (i := 5) sc_LStep.nd rfl (Or.inr rfl) (pe_lc (own := [("_law_order", 4)]) (g := gName 4) (tt := tYes) rfl sc_LStep.nd (pi_list (pv 1)) (blkOk_by (N := N_LStep) (sc := defScope sLStep) (by decide +kernel)) (fun _ _ _ _ _ => pg_name (i := 4) sc_LStep.nd rfl (Or.inl rfl)) (fun _ _ _ _ _ => pts_nil) (fun _ _ _ _ _ => (pe_call (ok_LOwedBy T) (hr.mono (by decide)) rfl T.g_LOwedBy T.f_LOwedBy.kp T.b_LOwedBy .nil pass0 (pa_cons (pv 4) pa_nil)))))
      (pss_cons (ps_expr (pe_call (ok_LTurned T) (hr.mono (by decide)) rfl T.g_LTurned T.f_LTurned.kp T.b_LTurned .nil pass0 (pa_cons (pv 0) (pa_cons (pv 1) pa_nil))))
      (pss_cons (ps_setLc (i := 7) (own := [("_law_at", 6)]) (g := gName 6) (tt := tYes) rfl sc_LStep.nd rfl rfl (sw_true rfl rfl rfl (by decide +kernel)) (pi_list (pv 3)) (blkOk_by (N := N_LStep) (sc := defScope sLStep) (by decide +kernel)) (fun _ _ _ _ _ => pg_name (i := 6) sc_LStep.nd rfl (Or.inl rfl)) (fun _ _ _ _ _ => pts_nil) (fun _ _ _ _ _ => (pe_tup (pa_cons (pv 6) (pa_cons (pe_op op_sub (pe_call (ok_LOwedBy T) (hr.mono (by decide)) rfl T.g_LOwedBy T.f_LOwedBy.kp T.b_LOwedBy .nil pass0 (pa_cons (pe_ix (ix_listK (K := K) rfl) (pv 1) (pv 6) (fun _ _ => rfl)) pa_nil)) (pe_ix (ix_listK (K := K) rfl) (pv 5) (pv 6) (fun _ _ => rfl))) pa_nil)))))
      (pss_cons (ps_for PassesOwn.never rfl (pi_list (pv 7)) (pg_name (i := 8) sc_LStep.nd rfl (Or.inl rfl)) (pss_one (ps_expr (pe_bm PySem.F.plainAttrs_list PySem.F.slot_list_append PySem.F.type_list_append mt_append (pe_ix ix_list (pe_ix ix_list (pv 1) (pe_ix ix_tup (pv 8) pe_int (fun _ _ => rfl)) (fun _ _ => rfl)) pe_int (fun _ _ => rfl)) (pa_cons (pe_tup (pa_cons (pe_ix ix_tup (pv 0) pe_int (fun _ _ => rfl)) (pa_cons (pe_ix ix_tup (pv 8) pe_int (fun _ _ => rfl)) pa_nil))) pa_nil)))))
      (pss_one (ps_ret (pv 7))))))))))), ?_⟩)
  obtain ⟨F, v, d, a, os, es, cs, A, rfl, hd, g, few, h, ok, mks, st, k⟩ := h
  by_cases no : ∃ ls, d = .ord ls
  · obtain ⟨ls, rfl⟩ := no
    obtain ⟨t, l, xs, rfl, ht, hl, _, pt⟩ := hd
    have e0 : stepOrd os ls = .ok (es, cs) := st
    unfold stepOrd at e0
    have few' := few ls rfl
    split at e0
    · cases e0
    cases e0
    walk_at "rd"
    refine r_ixT (SqT.of ht) (atI_get (j := 0) rfl rfl) ?_
    walk_at "rd"
    refine r_ity rfl ?_
    walk_at "rd"
    refine r_tyL (SqL.of h.top) ?_
    walk_at "rd"
    refine r_ixT (SqT.of ht) (atI_get (j := 1) rfl rfl) ?_
    refine lcp_new (zs := ls.map fun t => HO.lst (lnL t.ln)) (SqL.of hl) (by simp [pt.length]) (by rw [pt.length]; exact few') ?_ ?_
    · intro i x z H' W ex ez s q
      obtain ⟨u, eu, tt, rfl, htt⟩ := Paired.get_ex pt ex
      rw [List.getElem?_map, eu] at ez
      cases ez
      walk_at "rd"
      refine ⟨tt, _, rfl, .inr (SqT.of (s _ _ htt)), fun l1 hl1 => ?_⟩
      walk_at "rd"
      refine r_mk (by simp) fun l2 hl2 => ?_
      refine ⟨l1, l2, _, _, rfl, rfl, by rw [upd_ne (ne_of_none upd_same hl2)]; exact upd_same, upd_same, by show 4 + 4 ≤ sizeLine; rw [sizeLine_eq]; decide, fun p hp => ?_⟩
      refine q p _ (((same_upd hl1).trans (same_upd hl2)).trans (same_upd hp)) (upd_none (upd_none hp).2).2 upd_same
    · intro D H1 as hD s1 eD hlen nd fr hln
      walk_at "rd"
      refine r_mk (by simp) fun M hM => ?_
      walk_at "rd"
      refine r_mk (by simp) fun p hp => ?_
      obtain ⟨pM, hp1⟩ := upd_none hp
      have s2 := same_upd (o := .lst []) hM
      have s3 := same_upd (o := .lst [.ref D, .int 0, .ref M]) hp
      have s : Same H (upd (upd H1 M (.lst [])) p (.lst [.ref D, .int 0, .ref M])) := (s1.trans s2).trans s3
      have nM : H M = none := Same.free s1 hM
      have np : H p = none := Same.free s1 hp1
      have DM : D ≠ M := ne_of_none eD hM
      have Dp' : D ≠ p := ne_of_none eD hp1
      have asx : ∀ x, x ∈ as → H x = none ∧ x ≠ D ∧ x ≠ M ∧ x ≠ p := fun x hx => by
        obtain ⟨j, hj⟩ := List.getElem?_of_mem hx
        have hj2 : j < (ls.map fun t => HO.lst (lnL t.ln)).length := by rw [← hlen]; exact (List.getElem?_eq_some_iff.mp hj).1
        have q := hln j x _ hj (List.getElem?_eq_getElem hj2)
        exact ⟨(fr x hx).1, (fr x hx).2, ne_of_none q hM, ne_of_none q hp1⟩
      have hlen2 : as.length = ls.length := by simpa using hlen
      have R : AoOwn (A.add ⟨p, D, M, as⟩) A.ords.length ⟨p, D, M, as⟩ := AL.add_own Dp' (Ne.symm pM) (Ne.symm DM) nd fun x hx => ⟨(asx x hx).2.2.2, (asx x hx).2.1, (asx x hx).2.2.1⟩
      have O : AoAt (upd (upd H1 M (.lst [])) p (.lst [.ref D, .int 0, .ref M])) ⟨p, D, M, as⟩ ⟨ls.map Lt.ln, 0, []⟩ := ⟨upd_same, s3 _ _ (s2 _ _ eD), (by simp [hlen2]), fun i x l e1 e2 => by
        have e2' : (ls.map Lt.ln)[i]? = some l := e2
        rw [List.getElem?_map] at e2'
        cases et : ls[i]? with
        | none => rw [et] at e2'; cases e2'
        | some u =>
          rw [et] at e2'
          cases e2'
          exact s3 _ _ (s2 _ _ (hln i x _ e1 (by rw [List.getElem?_map, et]; rfl))), ⟨[], s3 _ _ upd_same, .nil⟩⟩
      have hx : ∀ x, AO.foot ⟨p, D, M, as⟩ x → H x = none := fun x f => by
        rcases f with f | f | f | f
        · rw [f]; exact np
        · rw [f]; exact hD
        · rw [f]; exact nM
        · exact (asx x f).1
      obtain ⟨BA, MA⟩ := h.add hx R O s
      have e3 : (A.ords ++ [(⟨p, D, M, as⟩ : AO)]).map (fun p => V.ref p.o) = A.ords.map (fun p => V.ref p.o) ++ [V.ref p] := by
        rw [List.map_append]; rfl
      rw [e3] at BA MA
      walk_at "rd"
      refine r_app (s _ _ h.top) (by rw [List.length_map, h.len]; have := ok.1; refine sz5l ?_; omega) ?_
      walk_at "rd"
      refine r_mk (by simp) fun r hr => ?_
      obtain ⟨ra, hr2⟩ := upd_none hr
      have nr : H r = none := Same.free s hr2
      refine k r (A.add ⟨p, D, M, as⟩) _ (BA.same (same_upd hr)) ⟨MA.but.trans (But.of (same_upd hr)), MA.grow⟩ (fun x e => ?_) nr (BA.fresh hr) ⟨[], upd_same, .nil⟩
      exact Same.free s (upd_none (upd_none e).2).2
  · have no' : ∀ ls, d ≠ .ord ls := fun ls e => no ⟨ls, e⟩
    obtain ⟨os1, tq, len1, ecs, ees, inr⟩ := step_turn no' st
    obtain ⟨t, o1, r0, rfl, ht, nord, shape⟩ := dd_form g hd no'
    have ok1 := turn_okk ok g tq
    walk_at "rs"
    walk_at "rd1"
    walk_at "rs"
    refine r_ixT (SqT.of ht) (atI_get (j := 0) rfl rfl) ?_
    walk_at "rs"
    refine r_itz nord ?_
    walk_at "rd"
    refine r_ixT (SqT.of ht) (atI_get (j := 1) rfl rfl) ?_
    walk_at "rs"
    refine r_mk (by simp) fun pl hpl => ?_
    have s0 := same_upd (o := .lst [.int o1]) hpl
    have epl : upd H pl (.lst [.int o1]) pl = some (.lst [.int o1]) := upd_same
    walk_at "rs"
    with_reducible refine r_join (fun σ' H' => Same H H' ∧ ∃ pl, H pl = none ∧ H' pl = some (.lst ((places d).map V.int)) ∧ σ' = [some (.ref t), some (.ref a), none, some (.ref pl), none, none, none, none, none]) ?_ fun N hN => ?_
    rotate_left
    · walk_at "rd"
      refine r_ixT (SqT.of (s0 _ _ ht)) (atI_get (j := 0) rfl rfl) ?_
      walk_at "rd"
      rcases shape with ⟨c, o2, r', rfl, ep⟩ | ⟨c, ep⟩
      · refine r_ity c ?_
        walk_at "rd"
        refine r_ixT (SqT.of (s0 _ _ ht)) (atI_get (j := 1) rfl rfl) ?_
        walk_at "rd"
        refine r_ixT (SqT.of (s0 _ _ ht)) (atI_get (j := 2) rfl rfl) ?_
        walk_at "rd"
        refine r_mk (by simp) fun pl2 hpl2 => ?_
        walk_at "rd"
        exact hN _ _ ⟨s0.trans (same_upd hpl2), pl2, (upd_none hpl2).2, by rw [ep]; exact upd_same, rfl⟩
      · refine r_itz c ?_
        walk_at "rd"
        exact hN _ _ ⟨s0, pl, hpl, by rw [ep]; exact epl, rfl⟩
    rintro σ' H1 ⟨s1, pl, npl, epl, rfl⟩
    have h1 := h.same s1
    walk_at "rd1"
    walk_at "rs"
    refine lcp_list (ys := os.map fun o => V.int o.owing) (SqL.of h1.top) (by simp [h.len]) (by have := ok.1; simp [h.len]; omega) ?_ ?_
    · intro i x y H' R ex ey s q
      rw [List.getElem?_map] at ex ey
      cases eo : os[i]? with
      | none => rw [eo] at ey; cases ey
      | some o =>
        rw [eo] at ey
        cases ey
        obtain ⟨p, ep, O, ev⟩ := acc_at h1 eo
        rw [ep] at ex
        cases ex
        walk_at "rd"
        refine ⟨p, o, rfl, O.same s, (ok.2 o (List.mem_of_getElem? eo)).1, fun H2 s2 => ?_⟩
        walk_at "rd"
        exact q _ s2
    intro ah H2 hah s2 eah
    have h2 := h1.same s2
    have npl1 : ∀ {x : Addr}, H x = none → A.own x = .no := fun e => h.fresh e
    walk_at "rd"
    refine ⟨F, _, d, a, os, os1, A, rfl, ?_, g, h2, ok, tq, fun H3 h3 b3 st3 => ?_⟩
    · exact hd.keep (But.of (S := fun _ => False) (s1.trans s2)) fun _ _ => id
    have oah : A.own ah = .no := h1.fresh hah
    have opl : A.own pl = .no := h.fresh npl
    have eah3 := b3.keep _ _ eah fun z => z oah
    have epl3 := b3.keep _ _ (s2 _ _ epl) fun z => z opl
    have ht3 := b3.tup _ _ (s2 _ _ (s1 _ _ ht))
    walk_at "rd"
    refine lcp_rel (R := PrAt) (zs := cs) (SqL.of epl3) (by rw [ecs]; simp) (by
      rcases shape with ⟨_, _, _, _, ep⟩ | ⟨_, ep⟩ <;> rw [ep] <;> simp) (fun H H' v z ⟨t, e, q⟩ st => ⟨t, e, st _ _ q⟩) ?_ ?_
    · intro i x z H' W ex ez s q
      rw [List.getElem?_map] at ex
      cases epi : (places d)[i]? with
      | none => rw [epi] at ex; cases ex
      | some pi =>
        rw [epi] at ex
        cases ex
        rw [ecs, List.getElem?_map, epi] at ez
        cases ez
        obtain ⟨j, rfl, hj⟩ := inr pi (List.mem_of_getElem? epi)
        have eo : os[j]? = some os[j] := List.getElem?_eq_getElem hj
        have eo1 : os1[j]? = some (os1[j]'(by omega)) := List.getElem?_eq_getElem (by omega)
        obtain ⟨p, ep, O, ev⟩ := acc_at (h3.same s) eo1
        walk_at "rd"
        refine r_ixL (SqL.of (h3.same s).top) (atI_get rfl ev) ?_
        walk_at "rd"
        refine ⟨p, _, rfl, O, (ok1.2 _ (List.mem_of_getElem? eo1)).1, fun H4 s4 => ?_⟩
        walk_at "rd"
        refine r_ixL (SqL.of (s4 _ _ (s _ _ eah3))) (atI_get (j := j) rfl (by rw [List.getElem?_map, eo]; rfl)) ?_
        walk_at "rd"
        refine r_mk (by simp) fun u hu => ?_
        refine q _ _ (s4.trans (same_upd hu)) ⟨u, rfl, ?_⟩
        rw [upd_same]
        have w1 : owAt os1 (j : Int) = (os1[j]'(by omega)).owing := by
          unfold owAt
          rw [at_some eo1]
        have w2 : owAt os (j : Int) = os[j].owing := by
          unfold owAt
          rw [at_some eo]
        show _ = some (HO.tup [V.int (j : Int), V.int (owAt os1 (j : Int) - owAt os (j : Int))])
        rw [w1, w2]
    intro D H4 acc hD s4 eD pr
    have h4 := h3.same s4
    have oD : A.own D = .no := h3.fresh hD
    have hk3 : ∀ x, H3 x = none → H x = none := fun x e => Same.free s1 (Same.free s2 (st3 x e))
    walk_at "rd"
    refine ⟨D, rfl, ⟨acc, SqL.of eD⟩, for_list (K := K) (a := D) (xs := acc) (fun i σ H' => ∃ v8, σ = [some (.ref t), some (.ref a), none, some (.ref pl), none, some (.ref ah), none, some (.ref D), v8] ∧ AccAt H' a (markAll os1 (word d) (cs.take i)) A ∧ But A.foot H4 H' ∧ Stay H4 H')
      ⟨none, rfl, h4, But.refl, fun _ e => e⟩ (fun i σ H' _ ⟨_, _, _, b, _⟩ => SqL.of (b.keep _ _ eD fun z => z oD)) ?_ ?_⟩
    · rintro i x σ H5 hi ⟨v8, rfl, h5, b5, st5⟩
      obtain ⟨c, ec, u, rfl, hu⟩ := Paired.get_ex pr hi
      have hu5 := b5.tup _ _ hu
      have ht5 := b5.tup _ _ (s4 _ _ ht3)
      have hc1 : c.1 ∈ places d := by
        rw [ecs, List.getElem?_map] at ec
        cases epi : (places d)[i]? with
        | none => rw [epi] at ec; cases ec
        | some pi =>
          rw [epi] at ec
          cases ec
          exact List.mem_of_getElem? epi
      obtain ⟨j, ej, hj⟩ := inr _ hc1
      have eo5 : (markAll os1 (word d) (cs.take i))[j]? = some ((markAll os1 (word d) (cs.take i))[j]'(by rw [markAll_len]; omega)) := List.getElem?_eq_getElem (by rw [markAll_len]; omega)
      revert eo5
      generalize ((markAll os1 (word d) (cs.take i))[j]'(by rw [markAll_len]; omega)) = o5
      intro eo5
      obtain ⟨p, ep, O, ev⟩ := acc_at h5 eo5
      obtain ⟨ts, ets, pts⟩ := O.rws
      walk_at "rd"
      refine r_ixT (SqT.of hu5) (atI_get (j := 0) rfl rfl) ?_
      rw [ej]
      refine r_ixL (SqL.of h5.top) (atI_get rfl ev) ?_
      walk_at "rd"
      refine r_ixL (SqL.of O.ob) (atI_get (j := 2) rfl rfl) ?_
      refine r_tyL (SqL.of ets) ?_
      walk_at "rd"
      refine r_ixT (SqT.of ht5) (atI_get (j := 0) rfl rfl) ?_
      walk_at "rd"
      refine r_ixT (SqT.of hu5) (atI_get (j := 1) rfl rfl) ?_
      walk_at "rd"
      refine r_mk (by simp) fun q hq => ?_
      have s6 := same_upd (o := .tup [.str (word d), .int c.2]) hq
      obtain ⟨O7, b7⟩ := (O.same s6).row (t := q) (w := word d) (c := c.2) (h5.ro j p ep) (s6 _ _ ets) upd_same
      have em : markAll os1 (word d) (cs.take (i + 1)) = (markAll os1 (word d) (cs.take i)).set j (o5.mark (word d) c.2) := by
        rw [mark_snoc ec]
        unfold mark1
        rw [ej, at_some eo5]
      walk_at "rd"
      refine r_app (s6 _ _ ets) ?_ ?_
      · have mm : ∀ o : Od, o ∈ es → o.marks.length < 100000 := mks
        have gr : ∀ (cs' : List (Int × Int)) (os' : List Od) (o' : Od), os'[j]? = some o' → ∃ o'', (markAll os' (word d) cs')[j]? = some o'' ∧ o'.marks.length ≤ o''.marks.length := by
          intro cs'
          induction cs' with
          | nil => exact fun os' o' e => ⟨o', e, Nat.le_refl _⟩
          | cons c' r ih =>
            intro os' o' e
            have h1 : ∃ o2, (mark1 (word d) os' c')[j]? = some o2 ∧ o'.marks.length ≤ o2.marks.length := by
              unfold mark1
              rcases at_or os' c'.1 with ⟨q, _⟩ | ⟨jj, oo, q0, eoo, q⟩
              · rw [q]; exact ⟨o', e, Nat.le_refl _⟩
              · rw [q]
                dsimp only
                by_cases z : jj = j
                · subst z
                  rw [e] at eoo
                  cases eoo
                  refine ⟨_, List.getElem?_set_self (List.getElem?_eq_some_iff.mp e).1, ?_⟩
                  show _ ≤ (o'.marks ++ [_]).length
                  simp
                · exact ⟨o', by rw [List.getElem?_set_ne z]; exact e, Nat.le_refl _⟩
            obtain ⟨o2, e2, l2⟩ := h1
            obtain ⟨o3, e3, l3⟩ := ih _ o2 e2
            exact ⟨o3, e3, Nat.le_trans l2 l3⟩
        obtain ⟨o9, e9, l9⟩ := gr (cs.drop i) _ o5 eo5
        have e10 : markAll (markAll os1 (word d) (cs.take i)) (word d) (cs.drop i) = es := by
          rw [ees]
          unfold markAll
          rw [← List.foldl_append, List.take_append_drop]
        rw [e10] at e9
        have := mm o9 (List.mem_of_getElem? e9)
        refine sz5l ?_
        rw [pts.length]
        omega
      · refine ⟨_, rfl, by rw [em]; exact (h5.same s6).one ep O7 b7, (b5.trans (But.of s6)).trans (b7.mono (h5.footOf ep)), fun x e => st5 x ?_⟩
        exact (upd_none (stay_lst (s6 _ _ ets) x e)).2
    · rintro σ H5 ⟨v8, rfl, h5, b5, st5⟩
      rw [pr.length, List.take_length, ← ees] at h5
      walk_at "rd"
      have nD : H D = none := hk3 D hD
      refine k D A H5 h5 (Md.of ((((But.of s1).trans (But.of s2)).trans b3).trans ((But.of s4).trans b5))) (fun x e => hk3 x (Same.free s4 (st5 x e))) nD oD ⟨acc, b5.keep _ _ eD fun z => z oD, ?_⟩
      exact b5.prs pr

/-! ### handed in, tried -/
theorem ifj {σ : L2.St} {H : Hp} {D : Ends} {c : TT} {t u : TS} (P : Bool → Hp → Prop) (h2 : ∀ b H', P b H' → if b = true then t D σ H' else u D σ H') (h1 : ∀ QB' : Bool → Hp → Prop, (∀ b H', P b H' → QB' b H') → c σ H QB') : tIfS c t u D σ H := h1 _ h2
def spLHanded (_ : PySem.W.Frag) : Sp := fun vs H Q _ => ∃ (F : Addr → Prop) (v : V) (d : Dd), vs = [v] ∧ DdAt F H v d ∧ d.good ∧ ∀ v' H', Same H H' → DdAt (fun a => (∀ ls, d = .ord ls → H a = none)) H' v' d → Q v' H'
theorem len_LHanded {K : PySem.W.Frag} {vs : List V} {H : Hp} {Q : VK} {E : XK} (h : spLHanded K vs H Q E) : vs.length = 1 := by
  obtain ⟨_, _, _, rfl, _⟩ := h; rfl
theorem ok_LHanded {P : Program} {w : World} {K : PySem.W.Frag} {mg : Str → Option Value} {base : Heap} (T : Tx w K mg) : FnOk P w K mg base CX0 1 (He.fAd K dLHanded.at_) (fdO K dLHanded.at_) P_LHanded (spLHanded K) := by
  refine T.f_LHanded.ok sc_LHanded (fun vs H Q E h => len_LHanded h) (fun cdv A outer s H vs Q E hr h => ⟨_, PSs.nox ((pss_cons (ps_if (pt_cmpR op_eq (pe_ix ix_tup (pv 0) pe_int (fun _ _ => rfl)) pe_str (nomark _)) (pss_one (ps_ret (pe_tup (pa_cons pe_str (pa_cons (pe_callTy call_list_of (by rfl) T.b_list (by decide +kernel) (pa_cons (pe_ix ix_tup (pv 0) pe_int (fun _ _ => rfl)) pa_nil)) pa_nil))))) pss_nil)
      (pss_one (ps_ret (pv 0))))), ?_⟩)
  obtain ⟨F, v, d, rfl, hd, g, k⟩ := h
  by_cases no : ∃ ls, d = .ord ls
  · obtain ⟨ls, rfl⟩ := no
    obtain ⟨t, l, xs, rfl, ht, hl, _, pt⟩ := hd
    walk_at "rd"
    refine r_ixT (SqT.of ht) (atI_get (j := 0) rfl rfl) ?_
    walk_at "rd"
    refine r_ity rfl ?_
    walk_at "rd"
    refine r_ixT (SqT.of ht) (atI_get (j := 1) rfl rfl) ?_
    walk_at "rd"
    refine ⟨l, xs, rfl, .inl (SqL.of hl), fun l2 hl2 => ?_⟩
    walk_at "rd"
    refine r_mk (by simp) fun t2 ht2 => ?_
    have s := (same_upd (o := .lst xs) hl2).trans (same_upd (o := .tup [.str "order", .ref l2]) ht2)
    exact k _ _ s ⟨t2, l2, xs, rfl, upd_same, same_upd ht2 _ _ upd_same, fun _ _ => hl2, (But.of (S := fun _ => False) s).lts pt⟩
  · obtain ⟨t, o1, r0, rfl, ht, nord, _⟩ := dd_form g hd fun ls e => no ⟨ls, e⟩
    walk_at "rd"
    refine r_ixT (SqT.of ht) (atI_get (j := 0) rfl rfl) ?_
    walk_at "rd"
    refine r_itz nord ?_
    walk_at "rd"
    refine k _ _ (Same.refl _) (hd.imp fun a _ _ ls e => absurd ⟨ls, e⟩ no)
theorem step_err9 {os : List Od} {d : Dd} {e : Er} (h : step os d = .error e) : e ≠ .nothingDone := by
  intro z
  subst z
  cases d with
  | ord ls =>
    have h' : stepOrd os ls = .error .nothingDone := h
    unfold stepOrd at h'
    split at h'
    · rename_i e q
      cases h'
      unfold ordErr at q
      split at q
      · cases q
      · split at q
        · rename_i e2 q2
          cases q
          unfold firstErr at q2
          obtain ⟨t, _, ht⟩ := List.exists_of_findSome?_eq_some q2
          unfold ltCheck at ht
          repeat' split at ht
          all_goals cases ht
        · split at q <;> cases q
    · cases h'
  | ln w o l n =>
    have h' : stepLn os w o l n = .error .nothingDone := h
    unfold stepLn at h'
    repeat' split at h'
    all_goals cases h'
  | mo w o n =>
    have h' : stepMo os w o n = .error .nothingDone := h
    unfold stepMo at h'
    repeat' split at h'
    all_goals cases h'
  | mv o p n =>
    have h' : stepMv os o p n = .error .nothingDone := h
    unfold stepMv at h'
    repeat' split at h'
    all_goals cases h'
abbrev lawErs : List Er := [.noDeed, .noLines, .noItem, .noNumber, .fullBook, .noOrder, .sameOrder, .noLine, .tooMuch]
abbrev spLTried (K : PySem.W.Frag) := spTried K lawErs
abbrev len_LTried {K : PySem.W.Frag} {vs : List V} {H : Hp} {Q : VK} {E : XK} (h : spLTried K vs H Q E) := len_tried h
theorem ok_LTried {P : Program} {w : World} {K : PySem.W.Frag} {mg : Str → Option Value} {base : Heap} (T : Tx w K mg) : FnOk P w K mg base CX0 8 (He.fAd K dLTried.at_) (fdO K dLTried.at_) P_LTried (spLTried K) := by
  refine T.f_LTried.ok sc_LTried (fun vs H Q E h => len_LTried h) (fun cdv A outer s H vs Q E hr h => ⟨_, PSs.nox ((pss_one (ps_try_many rfl rfl takes0 (fun W pn xe tk po => (pss_one (ps_ret (pe_mX (pv 0) T.cl_Book T.m_Book_do (ok_BookDo T) (hr.mono (by decide)) T.b_BookDo (fun σ => passAt tk σ) (pa_cons (pv 1) pa_nil))))) (.cons ⟨rfl, by decide, .inl T.g_NoDeed⟩ (fun a oe cls d pn hz hf => (pss_one (ps_ret pe_str))) (.cons ⟨rfl, by decide, .inl T.g_NoLines⟩ (fun a oe cls d pn hz hf => (pss_one (ps_ret pe_str))) (.cons ⟨rfl, by decide, .inl T.g_NoItem⟩ (fun a oe cls d pn hz hf => (pss_one (ps_ret pe_str))) (.cons ⟨rfl, by decide, .inl T.g_NoNumber⟩ (fun a oe cls d pn hz hf => (pss_one (ps_ret pe_str))) (.cons ⟨rfl, by decide, .inl T.g_FullBook⟩ (fun a oe cls d pn hz hf => (pss_one (ps_ret pe_str))) (.cons ⟨rfl, by decide, .inl T.g_NoOrder⟩ (fun a oe cls d pn hz hf => (pss_one (ps_ret pe_str))) (.cons ⟨rfl, by decide, .inl T.g_SameOrder⟩ (fun a oe cls d pn hz hf => (pss_one (ps_ret pe_str))) (.cons ⟨rfl, by decide, .inl T.g_NoLine⟩ (fun a oe cls d pn hz hf => (pss_one (ps_ret pe_str))) (.cons ⟨rfl, by decide, .inl T.g_TooMuch⟩ (fun a oe cls d pn hz hf => (pss_one (ps_ret pe_str))) .nil)))))))))))), ?_⟩)
  obtain ⟨b, B, L, v, rfl, h, ok, hz, d, hd, g, few, kE, k⟩ := h
  obtain ⟨dx, hb⟩ := h.ob
  walk_at "rd"
  refine r_m hb (no_Book_do _ _) ?_
  walk_at "rd"
  refine ⟨b, B, L, v, rfl, h, ok, hz, .inl ⟨d, hd, g, few, fun e q H' s => ?_, k⟩⟩
  obtain ⟨m, f⟩ := kE e q
  have f2 := f H' s
  rcases List.mem_cons.mp m with rfl | m
  · refine ⟨true, T.e_NoDeed_NoDeed, fun _ a _ => ?_, fun z => (by cases z)⟩
    walk_at "rd"
    exact f2
  rcases List.mem_cons.mp m with rfl | m
  · refine ⟨false, T.e_NoLines_NoDeed, (fun z => by cases z), fun _ => ⟨true, T.e_NoLines_NoLines, fun _ a _ => ?_, fun z => (by cases z)⟩⟩
    walk_at "rd"
    exact f2
  rcases List.mem_cons.mp m with rfl | m
  · refine ⟨false, T.e_NoItem_NoDeed, (fun z => by cases z), fun _ => ⟨false, T.e_NoItem_NoLines, (fun z => by cases z), fun _ => ⟨true, T.e_NoItem_NoItem, fun _ a _ => ?_, fun z => (by cases z)⟩⟩⟩
    walk_at "rd"
    exact f2
  rcases List.mem_cons.mp m with rfl | m
  · refine ⟨false, T.e_NoNumber_NoDeed, (fun z => by cases z), fun _ => ⟨false, T.e_NoNumber_NoLines, (fun z => by cases z), fun _ => ⟨false, T.e_NoNumber_NoItem, (fun z => by cases z), fun _ => ⟨true, T.e_NoNumber_NoNumber, fun _ a _ => ?_, fun z => (by cases z)⟩⟩⟩⟩
    walk_at "rd"
    exact f2
  rcases List.mem_cons.mp m with rfl | m
  · refine ⟨false, T.e_FullBook_NoDeed, (fun z => by cases z), fun _ => ⟨false, T.e_FullBook_NoLines, (fun z => by cases z), fun _ => ⟨false, T.e_FullBook_NoItem, (fun z => by cases z), fun _ => ⟨false, T.e_FullBook_NoNumber, (fun z => by cases z), fun _ => ⟨true, T.e_FullBook_FullBook, fun _ a _ => ?_, fun z => (by cases z)⟩⟩⟩⟩⟩
    walk_at "rd"
    exact f2
  rcases List.mem_cons.mp m with rfl | m
  · refine ⟨false, T.e_NoOrder_NoDeed, (fun z => by cases z), fun _ => ⟨false, T.e_NoOrder_NoLines, (fun z => by cases z), fun _ => ⟨false, T.e_NoOrder_NoItem, (fun z => by cases z), fun _ => ⟨false, T.e_NoOrder_NoNumber, (fun z => by cases z), fun _ => ⟨false, T.e_NoOrder_FullBook, (fun z => by cases z), fun _ => ⟨true, T.e_NoOrder_NoOrder, fun _ a _ => ?_, fun z => (by cases z)⟩⟩⟩⟩⟩⟩
    walk_at "rd"
    exact f2
  rcases List.mem_cons.mp m with rfl | m
  · refine ⟨false, T.e_SameOrder_NoDeed, (fun z => by cases z), fun _ => ⟨false, T.e_SameOrder_NoLines, (fun z => by cases z), fun _ => ⟨false, T.e_SameOrder_NoItem, (fun z => by cases z), fun _ => ⟨false, T.e_SameOrder_NoNumber, (fun z => by cases z), fun _ => ⟨false, T.e_SameOrder_FullBook, (fun z => by cases z), fun _ => ⟨false, T.e_SameOrder_NoOrder, (fun z => by cases z), fun _ => ⟨true, T.e_SameOrder_SameOrder, fun _ a _ => ?_, fun z => (by cases z)⟩⟩⟩⟩⟩⟩⟩
    walk_at "rd"
    exact f2
  rcases List.mem_cons.mp m with rfl | m
  · refine ⟨false, T.e_NoLine_NoDeed, (fun z => by cases z), fun _ => ⟨false, T.e_NoLine_NoLines, (fun z => by cases z), fun _ => ⟨false, T.e_NoLine_NoItem, (fun z => by cases z), fun _ => ⟨false, T.e_NoLine_NoNumber, (fun z => by cases z), fun _ => ⟨false, T.e_NoLine_FullBook, (fun z => by cases z), fun _ => ⟨false, T.e_NoLine_NoOrder, (fun z => by cases z), fun _ => ⟨false, T.e_NoLine_SameOrder, (fun z => by cases z), fun _ => ⟨true, T.e_NoLine_NoLine, fun _ a _ => ?_, fun z => (by cases z)⟩⟩⟩⟩⟩⟩⟩⟩
    walk_at "rd"
    exact f2
  rcases List.mem_cons.mp m with rfl | m
  · refine ⟨false, T.e_TooMuch_NoDeed, (fun z => by cases z), fun _ => ⟨false, T.e_TooMuch_NoLines, (fun z => by cases z), fun _ => ⟨false, T.e_TooMuch_NoItem, (fun z => by cases z), fun _ => ⟨false, T.e_TooMuch_NoNumber, (fun z => by cases z), fun _ => ⟨false, T.e_TooMuch_FullBook, (fun z => by cases z), fun _ => ⟨false, T.e_TooMuch_NoOrder, (fun z => by cases z), fun _ => ⟨false, T.e_TooMuch_SameOrder, (fun z => by cases z), fun _ => ⟨false, T.e_TooMuch_NoLine, (fun z => by cases z), fun _ => ⟨true, T.e_TooMuch_TooMuch, fun _ a _ => ?_, fun z => (by cases z)⟩⟩⟩⟩⟩⟩⟩⟩⟩
    walk_at "rd"
    exact f2
  · cases m
theorem ers_all {os : List Od} {d : Dd} {e : Er} (h : step os d = .error e) : e ∈ lawErs := by
  have n := step_err9 h
  cases e <;> first | exact absurd rfl n | decide
/-! ### rows compared -/
def RowsAt (H : Hp) (r : Addr) (rs : List (List V)) : Prop := ∃ xs, H r = some (.lst xs) ∧ Paired (TupAt H) xs rs
theorem tup_keep {S : Addr → Prop} {H H' : Hp} (b : But S H H') {xs : List V} {rs : List (List V)} (h : Paired (TupAt H) xs rs) : Paired (TupAt H') xs rs := Paired.mapP h fun _ _ ⟨t, e, q⟩ => ⟨t, e, b.tup _ _ q⟩
theorem RowsAt.keep {S : Addr → Prop} {H H' : Hp} {r : Addr} {rs : List (List V)} (h : RowsAt H r rs) (b : But S H H') (n : ¬ S r) : RowsAt H' r rs := by
  obtain ⟨xs, e, p⟩ := h
  exact ⟨xs, b.keep _ _ e n, tup_keep b p⟩
theorem RowsAt.same {H H' : Hp} {r : Addr} {rs : List (List V)} (h : RowsAt H r rs) (s : Same H H') : RowsAt H' r rs := h.keep (But.of (S := fun _ => False) s) id
theorem ChAt.rows {H : Hp} {r : Addr} {cs : List (Int × Int)} (h : ChAt H r cs) : RowsAt H r (cs.map prRow) := by
  obtain ⟨xs, e, p⟩ := h
  exact ⟨xs, e, pr_rows p⟩
def spLPairsAlike (_ : PySem.W.Frag) : Sp := fun vs H Q _ => ∃ (r q : Addr) (rs : List (List V)), vs = [.ref r, .ref q] ∧ RowsAt H r rs ∧ RowsAt H q rs ∧ Rws rs ∧ rs.length ≤ 100000 ∧ Q (.bl true) H
theorem len_LPairsAlike {K : PySem.W.Frag} {vs : List V} {H : Hp} {Q : VK} {E : XK} (h : spLPairsAlike K vs H Q E) : vs.length = 2 := by
  obtain ⟨_, _, _, rfl, _⟩ := h; rfl
theorem ok_LPairsAlike {P : Program} {w : World} {K : PySem.W.Frag} {mg : Str → Option Value} {base : Heap} (T : Tx w K mg) : FnOk P w K mg base CX0 2 (He.fAd K dLPairsAlike.at_) (fdO K dLPairsAlike.at_) P_LPairsAlike (spLPairsAlike K) := by
  refine T.f_LPairsAlike.ok sc_LPairsAlike (fun vs H Q E h => len_LPairsAlike h) (fun cdv A outer s H vs Q E hr h => ⟨_, PSs.nox ((pss_cons (ps_if (PW.pt (pw_or (pt_not (pt_val (pe_callB call_isi (by rfl) T.b_isinstance (by decide +kernel) (pa_cons (pv 0) (pa_cons (pe_bltn (v := .ty "list") (by rfl) T.b_list (by decide +kernel) rfl) pa_nil))))) (pw_or1 (pt_cmpR op_ne (pe_callB call_len_seq (by rfl) T.b_len (by decide +kernel) (pa_cons (pv 0) pa_nil)) (pe_callB call_len_seq (by rfl) T.b_len (by decide +kernel) (pa_cons (pv 1) pa_nil)) (nomark _))))) (pss_one (ps_ret pe_bl)) pss_nil)
      (pss_cons (ps_for PassesOwn.never rfl (pi_range1 (by rfl) T.b_range (pa_cons (pe_callB call_len_seq (by rfl) T.b_len (by decide +kernel) (pa_cons (pv 1) pa_nil)) pa_nil)) (pg_name (i := 2) sc_LPairsAlike.nd rfl (Or.inl rfl)) (pss_cons (ps_if (PW.pt (pw_or (pt_not (pt_val (pe_callB call_isi (by rfl) T.b_isinstance (by decide +kernel) (pa_cons (pe_ix ix_list (pv 0) (pv 2) (fun _ _ => rfl)) (pa_cons (pe_bltn (v := .ty "tuple") (by rfl) T.b_tuple (by decide +kernel) rfl) pa_nil))))) (pw_or1 (pt_cmpR (op_neD hr.units) (pe_ix ix_list (pv 0) (pv 2) (fun _ _ => rfl)) (pe_ix ix_list (pv 1) (pv 2) (fun _ _ => rfl)) (nomark _))))) (pss_one (ps_ret pe_bl)) pss_nil)
      (pss_one (ps_for PassesOwn.never rfl (pi_tup (pe_ix ix_list (pv 0) (pv 2) (fun _ _ => rfl))) (pg_name (i := 3) sc_LPairsAlike.nd rfl (Or.inl rfl)) (pss_one (ps_if (PW.pt (pw_and (pt_not (pt_val (pe_callB call_isi (by rfl) T.b_isinstance (by decide +kernel) (pa_cons (pv 3) (pa_cons (pe_bltn (v := .ty "str") (by rfl) T.b_str (by decide +kernel) rfl) pa_nil))))) (pw_and1 (pt_not (pt_val (pe_call (ok_LWhole T) (hr.mono (by decide)) rfl T.g_LWhole T.f_LWhole.kp T.b_LWhole .nil pass0 (pa_cons (pv 3) pa_nil))))))) (pss_one (ps_ret pe_bl)) pss_nil))))))
      (pss_one (ps_ret pe_bl))))), ?_⟩)
  obtain ⟨r, q, rs, rfl, ⟨xs, hr, pr⟩, ⟨ys, hq, pq⟩, ok, hz, k⟩ := h
  walk_at "rd"
  refine r_is_lst_list hr ?_
  walk_at "rd"
  refine ⟨r, xs, rfl, .inl (SqL.of hr), ?_⟩
  walk_at "rd"
  refine ⟨q, ys, rfl, .inl (SqL.of hq), ?_⟩
  walk_at "rd"
  have l1 := pr.length
  have l2 := pq.length
  refine r_itn (fun z => absurd (by omega) z) (fun _ => ?_)
  walk_at "rd"
  refine ⟨q, ys, rfl, .inl (SqL.of hq), ?_⟩
  walk_at "rd"
  refine ⟨_, rfl, by omega, by omega, for_range (lo := 0) (n := ((ys.length : Nat) : Int).toNat) (fun i σ H' => ∃ v2 v3, σ = [some (.ref r), some (.ref q), v2, v3] ∧ H' = H) ⟨none, none, rfl, rfl⟩ ?_ ?_⟩
  · rintro i σ H' hi ⟨v2, v3, rfl, rfl⟩
    rw [Int.zero_add]
    have hi1 : i < xs.length := by omega
    have hi2 : i < ys.length := by omega
    obtain ⟨c, ec, t, et, ht⟩ := Paired.get_ex pr (List.getElem?_eq_getElem hi1)
    obtain ⟨c', ec', t', et', ht'⟩ := Paired.get_ex pq (List.getElem?_eq_getElem hi2)
    have e2 : c' = c := by
      rw [ec] at ec'
      exact (Option.some.inj ec').symm
    subst e2
    have sc := ok c' (List.mem_of_getElem? ec)
    have gx : xs[i]? = some (.ref t) := by rw [List.getElem?_eq_getElem hi1, et]
    have gy : ys[i]? = some (.ref t') := by rw [List.getElem?_eq_getElem hi2, et']
    walk_at "rd"
    refine r_ixL (SqL.of hr) (atI_get (j := i) rfl gx) ?_
    walk_at "rd"
    refine r_is_tup_tuple ht ?_
    walk_at "rd"
    refine r_ixL (SqL.of hr) (atI_get (j := i) rfl gx) ?_
    walk_at "rd"
    refine r_ixL (SqL.of hq) (atI_get (j := i) rfl gy) ?_
    refine r_neTT (SqT.of ht) (SqT.of ht') sc sc ?_
    walk_at "rd"
    refine r_itn (fun z => absurd rfl z) (fun _ => ?_)
    walk_at "rd"
    refine r_ixL (SqL.of hr) (atI_get (j := i) rfl gx) ?_
    refine ⟨t, rfl, ⟨c', SqT.of ht⟩, for_tup (K := K) (a := t) (xs := c') (fun i' σ H2 => ∃ v3, σ = [some (.ref r), some (.ref q), some (.int (i : Int)), v3] ∧ H2 = H') ⟨_, rfl, rfl⟩ (fun _ _ _ _ ⟨_, _, e⟩ => by rw [e]; exact SqT.of ht) ?_ ?_⟩
    · rintro i' x σ H2 hi' ⟨v4, rfl, rfl⟩
      have sx := sc x (List.mem_of_getElem? hi')
      rcases sx with ⟨n, rfl⟩ | ⟨z, rfl, _⟩
      · walk_at "rd"
        refine ⟨_, rfl, ?_⟩
        walk_at "rd"
        exact ⟨_, rfl, rfl⟩
      · walk_at "rd"
        exact ⟨_, rfl, rfl⟩
    · rintro σ H2 ⟨v4, rfl, rfl⟩
      exact ⟨_, _, rfl, rfl⟩
  · rintro σ H' ⟨v2, v3, rfl, rfl⟩
    walk_at "rd"
    exact k
theorem td_rows {H : Hp} : ∀ {xs : List V} {ls : List Ln}, Paired (TdAt H) xs ls → Paired (TupAt H) xs (ls.map lnTold)
  | _, _, .nil => .nil
  | _, _, .cons ⟨t, e, h⟩ r => .cons ⟨t, e, h⟩ (td_rows r)
theorem told_ok {ls : List Ln} (h : ∀ l, l ∈ ls → isItem l.item = true) : Rws (ls.map lnTold) := fun r hr => by
  obtain ⟨l, hl, rfl⟩ := List.mem_map.mp hr
  exact .cons (.inr ⟨_, rfl, item_str (h l hl)⟩) (.cons .int (.cons .int (.cons .int (.cons .int (.cons .int .nil)))))
def spLLinesTold (_ : PySem.W.Frag) : Sp := fun vs H Q _ => ∃ (p : AO) (o : Od), vs = [.ref p.o] ∧ AoAt H p o ∧ o.ok ∧ ∀ r H', Same H H' → H r = none → RowsAt H' r (o.lines.map lnTold) → Q (.ref r) H'
theorem len_LLinesTold {K : PySem.W.Frag} {vs : List V} {H : Hp} {Q : VK} {E : XK} (h : spLLinesTold K vs H Q E) : vs.length = 1 := by
  obtain ⟨_, _, rfl, _⟩ := h; rfl
theorem ok_LLinesTold {P : Program} {w : World} {K : PySem.W.Frag} {mg : Str → Option Value} {base : Heap} (T : Tx w K mg) : FnOk P w K mg base CX0 1 (He.fAd K dLLinesTold.at_) (fdO K dLLinesTold.at_) P_LLinesTold (spLLinesTold K) := by
  refine T.f_LLinesTold.ok sc_LLinesTold (fun vs H Q E h => len_LLinesTold h) (fun cdv A outer s H vs Q E hr h => ⟨_, PSs.nox ((pss_one (ps_ret (pe_lc (own := [("_law_line", 1)]) (g := gName 1) (tt := tYes) rfl sc_LLinesTold.nd (pi_list (pe_ix ix_list (pv 0) pe_int (fun _ _ => rfl))) (blkOk_by (N := N_LLinesTold) (sc := defScope sLLinesTold) (by decide +kernel)) (fun _ _ _ _ _ => pg_name (i := 1) sc_LLinesTold.nd rfl (Or.inl rfl)) (fun _ _ _ _ _ => pts_nil) (fun _ _ _ _ _ => (pe_tup (pa_cons (pe_ix (ix_listK (K := K) rfl) (pv 1) pe_int (fun _ _ => rfl)) (pa_cons (pe_ix (ix_listK (K := K) rfl) (pv 1) pe_int (fun _ _ => rfl)) (pa_cons (pe_ix (ix_listK (K := K) rfl) (pv 1) pe_int (fun _ _ => rfl)) (pa_cons (pe_ix (ix_listK (K := K) rfl) (pv 1) pe_int (fun _ _ => rfl)) (pa_cons (pe_ix (ix_listK (K := K) rfl) (pv 1) pe_int (fun _ _ => rfl)) (pa_cons (pe_ix (ix_listK (K := K) rfl) (pv 1) pe_int (fun _ _ => rfl)) pa_nil)))))))))))), ?_⟩)
  obtain ⟨p, o, rfl, O, ok, k⟩ := h
  walk_at "rd"
  refine r_ixL (SqL.of O.ob) (atI_get (j := 0) rfl rfl) ?_
  refine lcp_rel (R := TdAt) (zs := o.lines) (SqL.of O.ll) (by simp [O.len]) (by have := ok.few; simp [O.len]; omega) (fun H H' v z ⟨t, e, q⟩ st => ⟨t, e, st _ _ q⟩) ?_ ?_
  · intro i x l H' W ex el s q
    obtain ⟨a, ea, rfl⟩ := ref_at ex
    have hl := s _ _ (O.ln i a l ea el)
    walk_at "rd"
    refine r_ixL (SqL.of hl) (atI_get (j := 0) rfl rfl) ?_
    walk_at "rd"
    refine r_ixL (SqL.of hl) (atI_get (j := 1) rfl rfl) ?_
    walk_at "rd"
    refine r_ixL (SqL.of hl) (atI_get (j := 4) rfl rfl) ?_
    walk_at "rd"
    refine r_ixL (SqL.of hl) (atI_get (j := 5) rfl rfl) ?_
    walk_at "rd"
    refine r_ixL (SqL.of hl) (atI_get (j := 6) rfl rfl) ?_
    walk_at "rd"
    refine r_ixL (SqL.of hl) (atI_get (j := 7) rfl rfl) ?_
    walk_at "rd"
    exact r_mk (by simp) fun t ht => q _ _ (same_upd ht) ⟨t, rfl, upd_same⟩
  · intro D H' acc hD s e pr
    exact k D H' s hD ⟨acc, e, td_rows pr⟩

/-! ### the account as data -/
theorem DpAll.of_get {K : PySem.W.Frag} {H : Hp} : ∀ {xs : List V} {ds : List PyData}, xs.length = ds.length → (∀ (i : Nat) x d, xs[i]? = some x → ds[i]? = some d → Dp K H x d) → DpAll K H xs ds
  | [], [], _, _ => .nil
  | [], _ :: _, h, _ => by cases h
  | _ :: _, [], h, _ => by cases h
  | x :: xs, d :: ds, h, g => .cons (g 0 x d rfl rfl) (DpAll.of_get (by simpa using h) fun i y e h1 h2 => g (i + 1) y e (by simpa using h1) (by simpa using h2))
def mkRow (m : Str × Int) : List V := [.str m.1, .int m.2]
def dLn (l : Ln) : PyData := .list ((lnL l).map dOf)
def dOd (o : Od) : PyData := .list [.list (o.lines.map dLn), .int o.money, dRows (o.marks.map mkRow)]
def dAcc (os : List Od) : PyData := .list (os.map dOd)
theorem mk_rows {H : Hp} : ∀ {xs : List V} {ms : List (Str × Int)}, Paired (MkAt H) xs ms → Paired (TupAt H) xs (ms.map mkRow)
  | _, _, .nil => .nil
  | _, _, .cons ⟨t, e, h⟩ r => .cons ⟨t, e, h⟩ (mk_rows r)
theorem mk_rws {ms : List (Str × Int)} (h : ∀ m, m ∈ ms → PyData.strOk m.1 = true) : Rws (ms.map mkRow) := fun r hr => by
  obtain ⟨m, hm, rfl⟩ := List.mem_map.mp hr
  exact .cons (.inr ⟨_, rfl, h m hm⟩) (.cons .int .nil)
theorem lnL_sc {l : Ln} (h : isItem l.item = true) : Scs (lnL l) := .cons (.inr ⟨_, rfl, item_str h⟩) (.cons .int (.cons .int (.cons .int (.cons .int (.cons .int (.cons .int (.cons .int .nil)))))))
theorem lay_all : ∀ {ds : List PyData} {n : Nat}, (∀ d, d ∈ ds → PyData.canLay0 d = true ∧ PyData.depth d ≤ n) → PyData.canLayAll0 ds = true ∧ PyData.depthAll ds ≤ n
  | [], n, _ => ⟨by simp only [PyData.canLayAll0], by simp only [PyData.depthAll]; omega⟩
  | d :: ds, n, h => by
    obtain ⟨a, b⟩ := h d List.mem_cons_self
    obtain ⟨c, e⟩ := lay_all (ds := ds) (n := n) fun u hu => h u (List.mem_cons_of_mem _ hu)
    refine ⟨by simp only [PyData.canLayAll0, a, c, Bool.and_self], by simp only [PyData.depthAll]; omega⟩
theorem dOd_dp {K : PySem.W.Frag} {H : Hp} {p : AO} {o : Od} (O : AoAt H p o) (s : o.strs) : Dp K H (.ref p.o) (dOd o) := by
  obtain ⟨ts, et, pt⟩ := O.rws
  refine .lst (SqL.of O.ob) (.cons (.lst (SqL.of O.ll) (DpAll.of_get (by simp [O.len]) fun i x d ex ed => ?_)) (.cons (.int _) (.cons (dRows_dp (SqL.of et) (mk_rows pt) (mk_rws s.2)) .nil)))
  obtain ⟨a, ea, rfl⟩ := ref_at ex
  rw [List.getElem?_map] at ed
  cases el : o.lines[i]? with
  | none => rw [el] at ed; cases ed
  | some l =>
    rw [el] at ed
    cases ed
    exact .lst (SqL.of (O.ln i a l ea el)) (lnL_sc (s.1 l (List.mem_of_getElem? el))).dp
theorem dOd_lay {o : Od} (s : o.strs) : PyData.canLay0 (dOd o) = true ∧ PyData.depth (dOd o) ≤ 4 := by
  obtain ⟨a, b⟩ := dRows_lay (mk_rws s.2)
  have h1 : PyData.canLay0 (.list (o.lines.map dLn)) = true ∧ PyData.depth (.list (o.lines.map dLn)) ≤ 2 := by
    obtain ⟨c, e⟩ := lay_all (ds := o.lines.map dLn) (n := 1) fun d hd => by
      obtain ⟨l, hl, rfl⟩ := List.mem_map.mp hd
      obtain ⟨x, y⟩ := (lnL_sc (s.1 l hl)).lay
      refine ⟨by simp only [dLn, PyData.canLay0]; exact x, by simp only [dLn, PyData.depth]; omega⟩
    exact ⟨by simp only [PyData.canLay0]; exact c, by simp only [PyData.depth]; omega⟩
  obtain ⟨c, e⟩ := lay_all (ds := [.list (o.lines.map dLn), .int o.money, dRows (o.marks.map mkRow)]) (n := 3) fun d hd => by
    simp only [List.mem_cons, List.not_mem_nil, or_false] at hd
    rcases hd with rfl | rfl | rfl
    · exact ⟨h1.1, by omega⟩
    · exact ⟨by simp only [PyData.canLay0], by simp only [PyData.depth]; omega⟩
    · exact ⟨a, by omega⟩
  exact ⟨by simp only [dOd, PyData.canLay0]; exact c, by simp only [dOd, PyData.depth]; omega⟩
theorem dAcc_shaped {os : List Od} (ok : OsOk os) : SeqAt.shaped (dAcc os) = true := by
  obtain ⟨a, b⟩ := lay_all (ds := os.map dOd) (n := 4) fun d hd => by
    obtain ⟨o, ho, rfl⟩ := List.mem_map.mp hd
    exact dOd_lay (ok.2 o ho).2.2
  have c : PyData.canLay0 (dAcc os) = true := by simp only [dAcc, PyData.canLay0]; exact a
  have e : PyData.depth (dAcc os) ≤ 5 := by simp only [dAcc, PyData.depth]; omega
  unfold SeqAt.shaped
  rw [c, decide_eq_true (by omega)]
  rfl
theorem AccAt.dp {K : PySem.W.Frag} {H : Hp} {a : Addr} {os : List Od} {A : AL} (h : AccAt H a os A) (ok : OsOk os) : Dp K H (.ref a) (dAcc os) := by
  refine .lst (SqL.of h.top) (DpAll.of_get (by simp [h.len]) fun i x d ex ed => ?_)
  rw [List.getElem?_map] at ex ed
  cases eo : os[i]? with
  | none => rw [eo] at ed; cases ed
  | some o =>
    rw [eo] at ed
    cases ed
    obtain ⟨p, ep, O, ev⟩ := acc_at h eo
    rw [ep] at ex
    cases ex
    exact dOd_dp O (ok.2 o (List.mem_of_getElem? eo)).2.2
theorem r_eqAcc {K : PySem.W.Frag} {H : Hp} {Q : VK} {a e : Addr} {os : List Od} {A : AL} (h : AccAt H a os A) (ok : OsOk os) (he : H e = some (.lst [])) (k : Q (.bl (decide (os = []))) H) : rEqD K (.ref a) (.ref e) H Q := by
  refine ⟨dAcc os, .list [], h.dp ok, .lst (SqL.of he) .nil, dAcc_shaped ok, by decide +kernel, ?_⟩
  have q : PyData.eqv (dAcc os) (.list []) = decide (os = []) := by
    cases os with
    | nil => simp [dAcc, PyData.eqv, PyData.eqvAll]
    | cons o r => simp [dAcc, PyData.eqv, PyData.eqvAll]
  rw [q]
  exact k
/-! ### deeds made -/
def wLn (w : Str) : Prop := w = "deliver" ∨ w = "back" ∨ w = "swap" ∨ w = "credit"
def wMo (w : Str) : Prop := w = "pay" ∨ w = "refund"
def words12 : List V := [.str "deliver", .str "deliver", .str "deliver", .str "deliver", .str "back", .str "swap", .str "credit", .str "pay", .str "pay", .str "refund", .str "move", .str "order"]
theorem word12 (z : Int) : ∃ w : Str, (wLn w ∨ wMo w ∨ w = "move" ∨ w = "order") ∧ atI words12 (z % 12) = some (.str w) := by
  have h : z % 12 = ((0 : Nat) : Int) ∨ z % 12 = ((1 : Nat) : Int) ∨ z % 12 = ((2 : Nat) : Int) ∨ z % 12 = ((3 : Nat) : Int) ∨ z % 12 = ((4 : Nat) : Int) ∨ z % 12 = ((5 : Nat) : Int) ∨ z % 12 = ((6 : Nat) : Int) ∨ z % 12 = ((7 : Nat) : Int) ∨ z % 12 = ((8 : Nat) : Int) ∨ z % 12 = ((9 : Nat) : Int) ∨ z % 12 = ((10 : Nat) : Int) ∨ z % 12 = ((11 : Nat) : Int) := by omega
  rcases h with h | h | h | h | h | h | h | h | h | h | h | h
  · exact ⟨_, .inl (.inl rfl), atI_get h rfl⟩
  · exact ⟨_, .inl (.inl rfl), atI_get h rfl⟩
  · exact ⟨_, .inl (.inl rfl), atI_get h rfl⟩
  · exact ⟨_, .inl (.inl rfl), atI_get h rfl⟩
  · exact ⟨_, .inl (.inr (.inl rfl)), atI_get h rfl⟩
  · exact ⟨_, .inl (.inr (.inr (.inl rfl))), atI_get h rfl⟩
  · exact ⟨_, .inl (.inr (.inr (.inr rfl))), atI_get h rfl⟩
  · exact ⟨_, .inr (.inl (.inl rfl)), atI_get h rfl⟩
  · exact ⟨_, .inr (.inl (.inl rfl)), atI_get h rfl⟩
  · exact ⟨_, .inr (.inl (.inr rfl)), atI_get h rfl⟩
  · exact ⟨_, .inr (.inr (.inl rfl)), atI_get h rfl⟩
  · exact ⟨_, .inr (.inr (.inr rfl)), atI_get h rfl⟩
def Dd.bnd (M : Int) : Dd → Prop
  | .ord _ => True
  | .ln _ o l n => (-M ≤ o ∧ o ≤ M) ∧ (-M ≤ l ∧ l ≤ M) ∧ (-M ≤ n ∧ n ≤ M)
  | .mo _ o n => (-M ≤ o ∧ o ≤ M) ∧ (-M ≤ n ∧ n ≤ M)
  | .mv o p n => (-M ≤ o ∧ o ≤ M) ∧ (-M ≤ p ∧ p ≤ M) ∧ (-M ≤ n ∧ n ≤ M)
def DB (os : List Od) (d : Dd) : Prop := ∀ M : Int, 10000000000000 ≤ M → (∀ w a p, -M ≤ mostOf os w a p ∧ mostOf os w a p ≤ M) → d.bnd (M + 1)
theorem pb_in {s n M : Int} (p : PB s n) (h0 : 0 ≤ s) (h1 : s ≤ 1000) (h : 10000000000000 ≤ M) : -(M + 1) ≤ n ∧ n ≤ M + 1 := by
  have := p h0
  omega
def spLDeedBy (_ : PySem.W.Frag) : Sp := fun vs H Q _ => ∃ (c m : Int) (a : Addr) (os : List Od) (A : AL), vs = [.int c, .int m, .ref a] ∧ AccAt H a os A ∧ OsOk os ∧
  ∀ v d H', Same H H' → DdAt (fun l => H l = none) H' v d → d.good → (∀ ls, d = .ord ls → Good ls ∧ os.length < 4) → DB os d → Q v H'
theorem len_LDeedBy {K : PySem.W.Frag} {vs : List V} {H : Hp} {Q : VK} {E : XK} (h : spLDeedBy K vs H Q E) : vs.length = 3 := by
  obtain ⟨_, _, _, _, _, rfl, _⟩ := h; rfl
theorem ok_LDeedBy {P : Program} {w : World} {K : PySem.W.Frag} {mg : Str → Option Value} {base : Heap} (T : Tx w K mg) : FnOk P w K mg base CX0 4 (He.fAd K dLDeedBy.at_) (fdO K dLDeedBy.at_) P_LDeedBy (spLDeedBy K) := by
  refine T.f_LDeedBy.ok sc_LDeedBy (fun vs H Q E h => len_LDeedBy h) (fun cdv A outer s H vs Q E hr h => ⟨_, PSs.nox ((pss_cons (ps_set (i := 3) sc_LDeedBy.nd rfl (Or.inl rfl) (pe_lst (pa_cons pe_str (pa_cons pe_str (pa_cons pe_str (pa_cons pe_str (pa_cons pe_str (pa_cons pe_str (pa_cons pe_str (pa_cons pe_str (pa_cons pe_str pa_nil)))))))))))
      (pss_cons (ps_set (i := 3) sc_LDeedBy.nd rfl (Or.inl rfl) (pe_op op_cat (pv 3) (pe_lst (pa_cons pe_str (pa_cons pe_str (pa_cons pe_str pa_nil))))))
      (pss_cons (ps_set (i := 4) sc_LDeedBy.nd rfl (Or.inl rfl) (pe_ix ix_list (pv 3) (pe_op op_mod (pe_op op_mod (pe_op op_mul (pv 0) pe_int) pe_int) pe_int) (fun _ _ => rfl)))
      (pss_cons (ps_if (PW.pt (pw_or (pt_cmpR (op_eqD hr.units) (pv 2) (pe_lst pa_nil) (nomark _)) (pw_or1 (PW.pt (pw_and (pt_cmpR op_eq (pv 4) pe_str (nomark _)) (pw_and1 (pt_cmpR op_lt (pe_callB call_len_seq (by rfl) T.b_len (by decide +kernel) (pa_cons (pv 2) pa_nil)) pe_int (nomark _)))))))) (pss_one (ps_ret (pe_tup (pa_cons pe_str (pa_cons (pe_call (ok_LLinesBy T) (hr.mono (by decide)) rfl T.g_LLinesBy T.f_LLinesBy.kp T.b_LLinesBy .nil pass0 (pa_cons (pv 1) pa_nil)) pa_nil))))) pss_nil)
      (pss_cons (ps_if (pt_cmpR op_eq (pv 4) pe_str (nomark _)) (pss_one (ps_set (i := 4) sc_LDeedBy.nd rfl (Or.inl rfl) pe_str)) pss_nil)
      (pss_cons (ps_set (i := 5) sc_LDeedBy.nd rfl (Or.inl rfl) (pe_call (ok_LPlaceBy T) (hr.mono (by decide)) rfl T.g_LPlaceBy T.f_LPlaceBy.kp T.b_LPlaceBy .nil pass0 (pa_cons (pv 0) (pa_cons pe_int (pa_cons (pe_callB call_len_seq (by rfl) T.b_len (by decide +kernel) (pa_cons (pv 2) pa_nil)) pa_nil)))))
      (pss_cons (ps_if (PW.pt (pw_or (pt_cmpR op_eq (pv 4) pe_str (nomark _)) (pw_or1 (pt_cmpR op_eq (pv 4) pe_str (nomark _))))) (pss_one (ps_ret (pe_tup (pa_cons (pv 4) (pa_cons (pv 5) (pa_cons (pe_call (ok_LNumberBy T) (hr.mono (by decide)) rfl T.g_LNumberBy T.f_LNumberBy.kp T.b_LNumberBy .nil pass0 (pa_cons (pv 1) (pa_cons (pe_call (ok_LMost T) (hr.mono (by decide)) rfl T.g_LMost T.f_LMost.kp T.b_LMost .nil pass0 (pa_cons (pv 4) (pa_cons (pv 5) (pa_cons pe_int (pa_cons (pv 2) pa_nil))))) pa_nil))) pa_nil)))))) pss_nil)
      (pss_cons (ps_if (pt_cmpR op_eq (pv 4) pe_str (nomark _)) (pss_cons (ps_set (i := 6) sc_LDeedBy.nd rfl (Or.inl rfl) (pe_call (ok_LPlaceBy T) (hr.mono (by decide)) rfl T.g_LPlaceBy T.f_LPlaceBy.kp T.b_LPlaceBy .nil pass0 (pa_cons (pv 1) (pa_cons pe_int (pa_cons (pe_callB call_len_seq (by rfl) T.b_len (by decide +kernel) (pa_cons (pv 2) pa_nil)) pa_nil)))))
      (pss_one (ps_ret (pe_tup (pa_cons (pv 4) (pa_cons (pv 5) (pa_cons (pv 6) (pa_cons (pe_call (ok_LNumberBy T) (hr.mono (by decide)) rfl T.g_LNumberBy T.f_LNumberBy.kp T.b_LNumberBy .nil pass0 (pa_cons (pv 1) (pa_cons (pe_call (ok_LMost T) (hr.mono (by decide)) rfl T.g_LMost T.f_LMost.kp T.b_LMost .nil pass0 (pa_cons (pv 4) (pa_cons (pv 5) (pa_cons pe_int (pa_cons (pv 2) pa_nil))))) pa_nil))) pa_nil)))))))) pss_nil)
      (pss_cons (ps_set (i := 7) sc_LDeedBy.nd rfl (Or.inl rfl) pe_int)
      (pss_cons (ps_if (pt_chain op_le op_lt pe_int (pv 5) (pe_callB call_len_seq (by rfl) T.b_len (by decide +kernel) (pa_cons (pv 2) pa_nil))) (pss_one (ps_set (i := 7) sc_LDeedBy.nd rfl (Or.inl rfl) (pe_callB call_len_seq (by rfl) T.b_len (by decide +kernel) (pa_cons (pe_ix ix_list (pe_ix ix_list (pv 2) (pv 5) (fun _ _ => rfl)) pe_int (fun _ _ => rfl)) pa_nil)))) pss_nil)
      (pss_cons (ps_set (i := 8) sc_LDeedBy.nd rfl (Or.inl rfl) (pe_call (ok_LPlaceBy T) (hr.mono (by decide)) rfl T.g_LPlaceBy T.f_LPlaceBy.kp T.b_LPlaceBy .nil pass0 (pa_cons (pv 0) (pa_cons pe_int (pa_cons (pv 7) pa_nil)))))
      (pss_one (ps_ret (pe_tup (pa_cons (pv 4) (pa_cons (pv 5) (pa_cons (pv 8) (pa_cons (pe_call (ok_LNumberBy T) (hr.mono (by decide)) rfl T.g_LNumberBy T.f_LNumberBy.kp T.b_LNumberBy .nil pass0 (pa_cons (pv 1) (pa_cons (pe_call (ok_LMost T) (hr.mono (by decide)) rfl T.g_LMost T.f_LMost.kp T.b_LMost .nil pass0 (pa_cons (pv 4) (pa_cons (pv 5) (pa_cons (pv 8) (pa_cons (pv 2) pa_nil))))) pa_nil))) pa_nil))))))))))))))))))), ?_⟩)
  obtain ⟨c, m, a, os, A, rfl, h, ok, k⟩ := h
  walk_at "rd"
  refine r_mk (by simp) fun w1 hw1 => ?_
  walk_at "rd"
  refine r_mk (by simp) fun w2 hw2 => ?_
  refine ⟨w1, w2, _, _, rfl, rfl, by rw [upd_ne (ne_of_none upd_same hw2)]; exact upd_same, upd_same, by show 9 + 3 ≤ sizeLine; rw [sizeLine_eq]; decide, fun w3 hw3 => ?_⟩
  have s3 := ((same_upd (o := .lst [.str "deliver", .str "deliver", .str "deliver", .str "deliver", .str "back", .str "swap", .str "credit", .str "pay", .str "pay"]) hw1).trans (same_upd (o := .lst [.str "refund", .str "move", .str "order"]) hw2)).trans (same_upd (o := .lst words12) hw3)
  have e3 : upd (upd (upd H w1 (.lst [.str "deliver", .str "deliver", .str "deliver", .str "deliver", .str "back", .str "swap", .str "credit", .str "pay", .str "pay"])) w2 (.lst [.str "refund", .str "move", .str "order"])) w3 (.lst words12) w3 = some (.lst words12) := upd_same
  change tSeq _ _ _ _ (upd (upd (upd H w1 (.lst [.str "deliver", .str "deliver", .str "deliver", .str "deliver", .str "back", .str "swap", .str "credit", .str "pay", .str "pay"])) w2 (.lst [.str "refund", .str "move", .str "order"])) w3 (.lst words12))
  revert s3 e3
  generalize upd (upd (upd H w1 (.lst [.str "deliver", .str "deliver", .str "deliver", .str "deliver", .str "back", .str "swap", .str "credit", .str "pay", .str "pay"])) w2 (.lst [.str "refund", .str "move", .str "order"])) w3 (.lst words12) = H3
  intro s3 e3
  have h3 := h.same s3
  walk_at "rd"
  walk_at "ml"
  walk_at "rd"
  walk_at "md"
  walk_at "rd"
  walk_at "md"
  obtain ⟨w', hw, ew⟩ := word12 (c * 48271 % 10007)
  refine r_ixL (SqL.of e3) ew ?_
  walk_at "rs"
  with_reducible refine r_seq ?_
  with_reducible refine ifj (fun b H' => Same H3 H' ∧ (b = true → os.length < 4) ∧ (b = false → os ≠ [])) ?_ fun QB hQB => ?_
  rotate_left
  · walk_at "rd"
    refine r_mk (by simp) fun e he => ?_
    have se := same_upd (o := .lst []) he
    refine r_eqAcc (h3.same se) ok upd_same ?_
    walk_at "rd"
    refine r_itd (fun c1 => ?_) (fun c1 => ?_)
    · exact hQB _ _ ⟨se, fun _ => (by rw [c1]; decide), fun z => by cases z⟩
    · walk_at "rd"
      refine r_itd (fun c2 => ?_) (fun c2 => ?_)
      · walk_at "rd"
        refine ⟨a, _, rfl, .inl (SqL.of (h3.same se).top), ?_⟩
        walk_at "rd"
        rw [List.length_map, h.len]
        refine hQB _ _ ⟨se, fun z => ?_, fun _ => c1⟩
        have := of_decide_eq_true z
        omega
      · exact hQB _ _ ⟨se, fun z => (by cases z), fun _ => c1⟩
  rintro b H4 ⟨s4, b1, b2⟩
  have h4 := h3.same s4
  have s04 := s3.trans s4
  refine r_itb (fun cb => ?_) (fun cb => ?_)
  · walk_at "rd"
    refine ⟨m, rfl, fun r ls H5 gl s5 hr ⟨xs, e5, p5⟩ => ?_⟩
    walk_at "rd"
    refine r_mk (by simp) fun t ht => ?_
    have s6 := same_upd (o := .tup [.str "order", .ref r]) ht
    refine k _ (.ord ls) _ (s04.trans (s5.trans s6)) ⟨t, r, xs, rfl, upd_same, s6 _ _ e5, Same.free s04 hr, (But.of (S := fun _ => False) s6).lts p5⟩ trivial (fun ls' q => ?_) fun _ _ _ => trivial
    cases q
    exact ⟨gl, b1 cb⟩
  walk_at "rs"
  with_reducible refine r_join (fun σ' H' => H4 = H' ∧ ∃ w2 : Str, (wLn w2 ∨ wMo w2 ∨ w2 = "move") ∧ σ' = [some (.int c), some (.int m), some (.ref a), some (.ref w3), some (.str w2), none, none, none, none]) ?_ fun N hN => ?_
  rotate_left
  · walk_at "rd"
    refine r_itd (fun c1 => ?_) (fun c1 => ?_)
    · walk_at "rd"
      exact hN _ _ ⟨rfl, _, .inr (.inr rfl), rfl⟩
    · walk_at "rd"
      refine hN _ _ ⟨rfl, w', ?_, rfl⟩
      rcases hw with q | q | q | q
      · exact .inl q
      · exact .inr (.inl q)
      · exact .inr (.inr q)
      · exact absurd q c1
  rintro σ' _ ⟨rfl, w2, hw2, rfl⟩
  walk_at "rd"
  refine ⟨a, _, rfl, .inl (SqL.of h4.top), ?_⟩
  walk_at "rd"
  rw [List.length_map, h4.len]
  have few := ok.1
  refine ⟨_, _, _, rfl, by decide, fun at' pat => ?_⟩
  walk_at "rd"
  have lnmo : wLn w2 → ¬ w2 = "pay" ∧ ¬ w2 = "refund" ∧ ¬ w2 = "move" := fun g => ⟨(gln g).2.2.1, (gln g).2.2.2, (gln g).2.1⟩
  rcases hw2 with g | g | g
  rotate_left
  · -- money
    have fin : ∀ H6 t n, Same H4 H6 → H6 t = none → NB (mostOf os w2 at' 0) n → Q (.ref t) (upd H6 t (.tup [.str w2, .int at', .int n])) := fun H6 t n s6 ht nb => by
      have s7 := same_upd (o := .tup [.str w2, .int at', .int n]) ht
      exact k _ (.mo w2 at' n) _ (s04.trans (s6.trans s7)) ⟨t, rfl, upd_same⟩ g (fun ls q => by cases q) fun M hM hm => ⟨pb_in pat (by omega) (by omega) hM, nb M hM (hm _ _ _).1 (hm _ _ _).2⟩
    rcases g with c1 | c1
    · refine r_ity c1 ?_
      walk_at "rd"
      refine ⟨w2, at', 0, a, os, A, rfl, h4, ok, fun H5 s5 => ?_⟩
      walk_at "rd"
      refine ⟨_, _, rfl, fun n nb => ?_⟩
      walk_at "rd"
      exact r_mk (by simp) fun t ht => fin _ _ _ s5 ht nb
    · refine r_itz (by rw [c1]; decide +kernel) ?_
      walk_at "rd"
      refine r_ity c1 ?_
      walk_at "rd"
      refine ⟨w2, at', 0, a, os, A, rfl, h4, ok, fun H5 s5 => ?_⟩
      walk_at "rd"
      refine ⟨_, _, rfl, fun n nb => ?_⟩
      walk_at "rd"
      exact r_mk (by simp) fun t ht => fin _ _ _ s5 ht nb
  · -- move
    refine r_itz (by rw [g]; decide +kernel) ?_
    walk_at "rd"
    refine r_itz (by rw [g]; decide +kernel) ?_
    walk_at "rd"
    refine r_ity g ?_
    walk_at "rd"
    refine ⟨a, _, rfl, .inl (SqL.of h4.top), ?_⟩
    walk_at "rd"
    rw [List.length_map, h4.len]
    refine ⟨_, _, _, rfl, by decide, fun ot pot => ?_⟩
    walk_at "rd"
    refine ⟨w2, at', 0, a, os, A, rfl, h4, ok, fun H5 s5 => ?_⟩
    walk_at "rd"
    refine ⟨_, _, rfl, fun n nb => ?_⟩
    walk_at "rd"
    refine r_mk (by simp) fun t ht => ?_
    have s7 := same_upd (o := .tup [.str w2, .int at', .int ot, .int n]) ht
    refine k _ (.mv at' ot n) _ (s04.trans (s5.trans s7)) ⟨t, rfl, ?_⟩ trivial (fun ls q => by cases q) fun M hM hm => ⟨pb_in pat (by omega) (by omega) hM, pb_in pot (by omega) (by omega) hM, nb M hM (hm _ _ _).1 (hm _ _ _).2⟩
    rw [upd_same, g]
  · obtain ⟨n1, n2, n3⟩ := lnmo g
    refine r_itz n1 ?_
    walk_at "rd"
    refine r_itz n2 ?_
    walk_at "rd"
    refine r_itz n3 ?_
    walk_at "rs"
    walk_at "rd1"
    walk_at "rs"
    with_reducible refine r_join (fun σ' H' => H4 = H' ∧ ∃ sz : Int, (0 ≤ sz ∧ sz ≤ 1000) ∧ σ' = [some (.int c), some (.int m), some (.ref a), some (.ref w3), some (.str w2), some (.int at'), none, some (.int sz), none]) ?_ fun N hN => ?_
    rotate_left
    · walk_at "rd"
      refine r_itd (fun c1 => ?_) (fun c1 => ?_)
      · walk_at "rd"
        refine ⟨a, _, rfl, .inl (SqL.of h4.top), ?_⟩
        walk_at "rd"
        rw [List.length_map, h.len]
        refine r_itd (fun c2 => ?_) (fun c2 => ?_)
        · walk_at "rd"
          obtain ⟨j, rfl⟩ : ∃ j : Nat, at' = (j : Int) := ⟨at'.toNat, by omega⟩
          have hj : j < os.length := by omega
          obtain ⟨p, ep, O, ev⟩ := acc_at h4 (List.getElem?_eq_getElem hj)
          refine r_ixL (SqL.of h4.top) (atI_get rfl ev) ?_
          walk_at "rd"
          refine r_ixL (SqL.of O.ob) (atI_get (j := 0) rfl rfl) ?_
          walk_at "rd"
          refine ⟨_, _, rfl, .inl (SqL.of O.ll), ?_⟩
          walk_at "rd"
          refine hN _ _ ⟨rfl, _, ?_, rfl⟩
          rw [List.length_map, O.len]
          have := (ok.2 _ (List.getElem_mem hj)).1.few
          omega
        · walk_at "rd"
          exact hN _ _ ⟨rfl, _, ⟨by decide, by decide⟩, rfl⟩
      · walk_at "rd"
        exact hN _ _ ⟨rfl, _, ⟨by decide, by decide⟩, rfl⟩
    rintro σ' _ ⟨rfl, sz, bsz, rfl⟩
    walk_at "rd"
    refine ⟨_, _, _, rfl, by decide, fun pl ppl => ?_⟩
    walk_at "rd"
    refine ⟨w2, at', pl, a, os, A, rfl, h4, ok, fun H5 s5 => ?_⟩
    walk_at "rd"
    refine ⟨_, _, rfl, fun n nb => ?_⟩
    walk_at "rd"
    refine r_mk (by simp) fun t ht => ?_
    have s7 := same_upd (o := .tup [.str w2, .int at', .int pl, .int n]) ht
    exact k _ (.ln w2 at' pl n) _ (s04.trans (s5.trans s7)) ⟨t, rfl, upd_same⟩ g (fun ls q => by cases q) fun M hM hm => ⟨pb_in pat (by omega) (by omega) hM, pb_in ppl bsz.1 bsz.2 hM, nb M hM (hm _ _ _).1 (hm _ _ _).2⟩

/-! ### a deed as data, what it touches -/
def ltRow (t : Lt) : List V := [.str t.item, .int t.pieces, .int t.cents, .int t.pack]
def dDeed : Dd → PyData
  | .ord ls => .tuple [.str "order", dRows (ls.map ltRow)]
  | .ln w o l n => dTup [.str w, .int o, .int l, .int n]
  | .mo w o n => dTup [.str w, .int o, .int n]
  | .mv o p n => dTup [.str "move", .int o, .int p, .int n]
theorem lt_rows {H : Hp} : ∀ {xs : List V} {ls : List Lt}, LtsAt H xs ls → Paired (TupAt H) xs (ls.map ltRow)
  | _, _, .nil => .nil
  | _, _, .cons ⟨t, e, h⟩ r => .cons ⟨t, e, h⟩ (lt_rows r)
theorem lt_rws {ls : List Lt} (h : ∀ t, t ∈ ls → PyData.strOk t.item = true) : Rws (ls.map ltRow) := fun r hr => by
  obtain ⟨t, ht, rfl⟩ := List.mem_map.mp hr
  exact .cons (.inr ⟨_, rfl, h t ht⟩) (.cons .int (.cons .int (.cons .int .nil)))
def Dd.plain (d : Dd) : Prop := ∀ ls, d = .ord ls → ∀ t, t ∈ ls → PyData.strOk t.item = true
theorem Dd.wd {d : Dd} (g : d.good) : Sc (.str (word d)) := .inr ⟨_, rfl, word_str g⟩
theorem deed_dp {K : PySem.W.Frag} {F : Addr → Prop} {H : Hp} {v : V} {d : Dd} (g : d.good) (pl : d.plain) (h : DdAt F H v d) : Dp K H v (dDeed d) ∧ SeqAt.shaped (dDeed d) = true := by
  cases d with
  | ord ls =>
    obtain ⟨t, l, xs, rfl, ht, hl, _, p⟩ := h
    have rw_ := lt_rws (pl ls rfl)
    obtain ⟨a, b⟩ := dRows_lay rw_
    refine ⟨.tup (SqT.of ht) (.cons (.str _) (.cons (dRows_dp (SqL.of hl) (lt_rows p) rw_) .nil)), ?_⟩
    have c : PyData.canLay0 (dDeed (.ord ls)) = true := by
      simp only [dDeed, PyData.canLay0, PyData.canLayAll0, a]
      decide +kernel
    have e : PyData.depth (dDeed (.ord ls)) ≤ 4 := by
      simp only [dDeed, PyData.depth, PyData.depthAll]
      omega
    unfold SeqAt.shaped
    rw [c, decide_eq_true (by omega)]
    rfl
  | ln w o l n =>
    obtain ⟨t, rfl, ht⟩ := h
    have s : Scs [.str w, .int o, .int l, .int n] := .cons (Dd.wd (d := .ln w o l n) g) (.cons .int (.cons .int (.cons .int .nil)))
    exact ⟨dTup_dp (SqT.of ht) s, dTup_shaped s⟩
  | mo w o n =>
    obtain ⟨t, rfl, ht⟩ := h
    have s : Scs [.str w, .int o, .int n] := .cons (Dd.wd (d := .mo w o n) g) (.cons .int (.cons .int .nil))
    exact ⟨dTup_dp (SqT.of ht) s, dTup_shaped s⟩
  | mv o p n =>
    obtain ⟨t, rfl, ht⟩ := h
    have s : Scs [.str "move", .int o, .int p, .int n] := .cons (Dd.wd (d := .mv o p n) g) (.cons .int (.cons .int (.cons .int .nil)))
    exact ⟨dTup_dp (SqT.of ht) s, dTup_shaped s⟩
theorem r_neDeed {K : PySem.W.Frag} {F F' : Addr → Prop} {H : Hp} {Q : VK} {v u : V} {d : Dd} (g : d.good) (pl : d.plain) (h : DdAt F H v d) (h' : DdAt F' H u d) (k : Q (.bl false) H) : rNeD K v u H Q := by
  obtain ⟨a, s⟩ := deed_dp (K := K) g pl h
  obtain ⟨b, _⟩ := deed_dp (K := K) g pl h'
  refine ⟨_, _, a, b, s, s, ?_⟩
  rw [SeqAt.eqv_refl _ (SeqAt.canLay_of_shaped s)]
  exact k
theorem Good.plain {d : Dd} (h : ∀ ls, d = .ord ls → Good ls) : d.plain := fun ls e t ht => item_str ((h ls e).2 t ht).1
theorem Good.few' {d : Dd} (h : ∀ ls, d = .ord ls → Good ls) : d.few := by
  cases d with
  | ord ls => exact (h ls rfl).few
  | _ => trivial
theorem Good.step {os : List Od} {ls : List Lt} (g : Good ls) (h : os.length < 40) : step os (.ord ls) = .ok (os ++ [⟨ls.map Lt.ln, 0, []⟩], []) := by
  simp only [Of.step]
  unfold stepOrd
  rw [g.err h]
theorem cs_len {os es : List Od} {cs : List (Int × Int)} {d : Dd} (e : Of.step os d = .ok (es, cs)) : cs.length ≤ 2 := by
  by_cases no : ∃ ls, d = .ord ls
  · obtain ⟨ls, rfl⟩ := no
    have e' : stepOrd os ls = .ok (es, cs) := e
    unfold stepOrd at e'
    split at e'
    · cases e'
    cases e'
    simp
  · obtain ⟨os1, tq, _, ecs, _, _⟩ := step_turn (fun ls e => no ⟨ls, e⟩) e
    rw [ecs]
    cases d <;> simp [places]
/-- ints of a list that are chosen -/
theorem lcp_filt {K : PySem.W.Frag} {tt : TT} {te : TE} {j : Nat} {σ : L2.St} {H1 : Hp} {Q : VK} {a : Addr} {ns : List Int} (p : Int → Prop) (hs : SqL K H1 a (ns.map V.int)) (hz : ns.length ≤ 100000)
    (ht : ∀ (n : Int) (H' : Hp) (QB : Bool → Hp → Prop), Same H1 H' → (∀ b, (b = true → p n) → QB b H') → tt ((wipe σ [j]).set j (some (.int n))) H' QB)
    (he : ∀ (n : Int) (H' : Hp) (W : VK), Same H1 H' → W (.int n) H' → te ((wipe σ [j]).set j (some (.int n))) H' W)
    (k : ∀ (D : Addr) (H' : Hp) (js : List Int), H1 D = none → Same H1 H' → H' D = some (.lst (js.map V.int)) → (∀ n, n ∈ js → p n) → js.length ≤ ns.length → Q (.ref D) H') :
    ∃ a', V.ref a = V.ref a' ∧ (∃ xs, SqL K H1 a' xs) ∧ Lcs (Itl K a') (gName j) tt te [j] σ H1 Q := by
  refine ⟨a, rfl, ⟨_, hs⟩, fun D hD => ?_⟩
  refine lc_list (K := K) (a := a) (xs := ns.map V.int) (fun i H' => Same H1 H' ∧ ∃ js : List Int, H' D = some (.lst (js.map V.int)) ∧ (∀ n, n ∈ js → p n) ∧ js.length ≤ i) ⟨same_upd hD, [], upd_same, (fun n hn => by cases hn), Nat.le_refl _⟩ (fun i H' _ q => q.1.seq hs) ?_ ?_
  · rintro i x H' hi ⟨s, js, e, pj, lj⟩
    have hil : i < ns.length := by
      have := (List.getElem?_eq_some_iff.mp hi).1
      simpa using this
    rw [List.getElem?_map] at hi
    cases en : ns[i]? with
    | none => rw [en] at hi; cases hi
    | some n =>
      rw [en] at hi
      cases hi
      refine ⟨wipe1, ht n _ _ s fun b pb => ?_⟩
      cases b with
      | true =>
        rw [if_pos rfl]
        refine he n _ _ s ⟨_, e, ?_, ?_, js ++ [n], ?_, ?_, ?_⟩
        · rw [List.length_map]; refine sz5l ?_; omega
        · exact fun b o q => by
            rw [upd_ne (ne_of_none q hD)]
            exact s _ _ q
        · rw [upd_same, List.map_append]; rfl
        · intro m hm
          rcases List.mem_append.mp hm with z | z
          · exact pj m z
          · rw [List.mem_singleton.mp z]; exact pb rfl
        · simp; exact lj
      | false =>
        rw [if_neg (by decide)]
        exact ⟨s, js, e, pj, Nat.le_succ_of_le lj⟩
  · rintro H' ⟨s, js, e, pj, lj⟩
    rw [List.length_map] at lj
    exact k D H' js hD s e pj lj

/-! ### the law's judges of triples -/
def spLAheadWhole (K : PySem.W.Frag) : Sp := fun vs H Q _ => ∃ (a pa : Addr) (ns P : List Int) (n : Nat) (s : Int), vs = [.ref a, .ref pa, .int (n : Int), .int s] ∧ SqL K H a (ns.map V.int) ∧ H pa = some (.lst (P.map V.int)) ∧ P.length = ns.length ∧ n ≤ ns.length ∧ ns.length ≤ 10000 ∧
  (s = 1 ∨ s = -1) ∧ (∀ k, k < n → gOf ns k * s > 0 → gOf P k = gOf ns k * s) ∧ Q (.bl true) H
theorem len_LAheadWhole {K : PySem.W.Frag} {vs : List V} {H : Hp} {Q : VK} {E : XK} (h : spLAheadWhole K vs H Q E) : vs.length = 4 := by
  obtain ⟨_, _, _, _, _, _, rfl, _⟩ := h; rfl
theorem ok_LAheadWhole {P : Program} {w : World} {K : PySem.W.Frag} {mg : Str → Option Value} {base : Heap} (T : Tx w K mg) : FnOk P w K mg base CX0 1 (He.fAd K dLAheadWhole.at_) (fdO K dLAheadWhole.at_) P_LAheadWhole (spLAheadWhole K) := by
  refine T.f_LAheadWhole.ok sc_LAheadWhole (fun vs H Q E h => len_LAheadWhole h) (fun cdv A outer s H vs Q E hr h => ⟨_, PSs.nox ((pss_cons (ps_for PassesOwn.never rfl (pi_range1 (by rfl) T.b_range (pa_cons (pv 2) pa_nil)) (pg_name (i := 4) sc_LAheadWhole.nd rfl (Or.inl rfl)) (pss_one (ps_if (PW.pt (pw_and (pt_cmpR op_gt (pe_op op_mul (pe_ix ix_list (pv 0) (pv 4) (fun _ _ => rfl)) (pv 3)) pe_int (nomark _)) (pw_and1 (pt_cmpR op_ne (pe_ix ix_list (pv 1) (pv 4) (fun _ _ => rfl)) (pe_op op_mul (pe_ix ix_list (pv 0) (pv 4) (fun _ _ => rfl)) (pv 3)) (nomark _))))) (pss_one (ps_ret pe_bl)) pss_nil)))
      (pss_one (ps_ret pe_bl)))), ?_⟩)
  obtain ⟨a, pa, ns, P, n, s, rfl, ha, hpa, lp, hn, hz, hs, al, k⟩ := h
  have mul : ∀ i : Int, CMul i s := fun i => .inr (by rcases hs with rfl | rfl <;> exact ⟨by decide, by decide⟩)
  walk_at "rd"
  refine ⟨n, rfl, by omega, by omega, for_range (lo := 0) (n := n) (fun i σ H' => ∃ v4, σ = [some (.ref a), some (.ref pa), some (.int (n : Int)), some (.int s), v4] ∧ H' = H) ⟨none, rfl, rfl⟩ ?_ ?_⟩
  · rintro i σ H' hi ⟨v4, rfl, rfl⟩
    rw [Int.zero_add]
    walk_at "rd"
    refine r_ixL ha (atI_get rfl (g_at (by omega))) ?_
    walk_at "rd"
    refine r_I (mul _) ?_
    walk_at "rd"
    refine r_itd (fun c => ?_) (fun c => ?_)
    · walk_at "rd"
      refine r_ixL (SqL.of hpa) (atI_get rfl (g_at (by omega))) ?_
      walk_at "rd"
      refine r_ixL ha (atI_get rfl (g_at (by omega))) ?_
      walk_at "rd"
      refine r_I (mul _) ?_
      walk_at "rd"
      refine r_itn (fun z => absurd (al i hi c) z) (fun _ => ?_)
      walk_at "rd"
      exact ⟨_, rfl, rfl⟩
    · walk_at "rd"
      exact ⟨_, rfl, rfl⟩
  · rintro σ H' ⟨v4, rfl, rfl⟩
    walk_at "rd"
    exact k
def spLIsTriple (K : PySem.W.Frag) : Sp := fun vs H Q _ => ∃ (a t : Addr) (ns : List Int) (d v : Nat) (p : Int), vs = [.ref a, .ref t] ∧ SqL K H a (ns.map V.int) ∧ H t = some (.tup (tRow (d, v, p))) ∧ (d < ns.length ∧ v < ns.length ∧ gOf ns d > 0 ∧ gOf ns v < 0 ∧ p > 0) ∧ Q (.bl true) H
theorem len_LIsTriple {K : PySem.W.Frag} {vs : List V} {H : Hp} {Q : VK} {E : XK} (h : spLIsTriple K vs H Q E) : vs.length = 2 := by
  obtain ⟨_, _, _, _, _, _, rfl, _⟩ := h; rfl
theorem ok_LIsTriple {P : Program} {w : World} {K : PySem.W.Frag} {mg : Str → Option Value} {base : Heap} (T : Tx w K mg) : FnOk P w K mg base CX0 2 (He.fAd K dLIsTriple.at_) (fdO K dLIsTriple.at_) P_LIsTriple (spLIsTriple K) := by
  refine T.f_LIsTriple.ok sc_LIsTriple (fun vs H Q E h => len_LIsTriple h) (fun cdv A outer s H vs Q E hr h => ⟨_, PSs.nox ((pss_cons (ps_if (PW.pt (pw_or (pt_not (pt_val (pe_callB call_isi (by rfl) T.b_isinstance (by decide +kernel) (pa_cons (pv 1) (pa_cons (pe_bltn (v := .ty "tuple") (by rfl) T.b_tuple (by decide +kernel) rfl) pa_nil))))) (pw_or1 (pt_cmpR op_ne (pe_callB call_len_seq (by rfl) T.b_len (by decide +kernel) (pa_cons (pv 1) pa_nil)) pe_int (nomark _))))) (pss_one (ps_ret pe_bl)) pss_nil)
      (pss_cons (ps_if (PW.pt (pw_or (pt_not (pt_val (pe_call (ok_LWhole T) (hr.mono (by decide)) rfl T.g_LWhole T.f_LWhole.kp T.b_LWhole .nil pass0 (pa_cons (pe_ix ix_tup (pv 1) pe_int (fun _ _ => rfl)) pa_nil)))) (pw_or (pt_not (pt_val (pe_call (ok_LWhole T) (hr.mono (by decide)) rfl T.g_LWhole T.f_LWhole.kp T.b_LWhole .nil pass0 (pa_cons (pe_ix ix_tup (pv 1) pe_int (fun _ _ => rfl)) pa_nil)))) (pw_or1 (pt_not (pt_val (pe_call (ok_LWhole T) (hr.mono (by decide)) rfl T.g_LWhole T.f_LWhole.kp T.b_LWhole .nil pass0 (pa_cons (pe_ix ix_tup (pv 1) pe_int (fun _ _ => rfl)) pa_nil)))))))) (pss_one (ps_ret pe_bl)) pss_nil)
      (pss_cons (ps_if (PW.pt (pw_or (pt_not (pt_chain op_le op_lt pe_int (pe_ix ix_tup (pv 1) pe_int (fun _ _ => rfl)) (pe_callB call_len_seq (by rfl) T.b_len (by decide +kernel) (pa_cons (pv 0) pa_nil)))) (pw_or1 (pt_not (pt_chain op_le op_lt pe_int (pe_ix ix_tup (pv 1) pe_int (fun _ _ => rfl)) (pe_callB call_len_seq (by rfl) T.b_len (by decide +kernel) (pa_cons (pv 0) pa_nil))))))) (pss_one (ps_ret pe_bl)) pss_nil)
      (pss_one (ps_ret (pe_and (pe_cmpR op_gt (pe_ix ix_list (pv 0) (pe_ix ix_tup (pv 1) pe_int (fun _ _ => rfl)) (fun _ _ => rfl)) pe_int (nomark _)) (pe_and (pe_cmpR op_lt (pe_ix ix_list (pv 0) (pe_ix ix_tup (pv 1) pe_int (fun _ _ => rfl)) (fun _ _ => rfl)) pe_int (nomark _)) (pe_one (pe_cmpR op_gt (pe_ix ix_tup (pv 1) pe_int (fun _ _ => rfl)) pe_int (nomark _))))))))))), ?_⟩)
  obtain ⟨a, t, ns, d, v, p, rfl, ha, ht, ⟨h1, h2, h3, h4, h5⟩, k⟩ := h
  have ht' : H t = some (.tup [.int (d : Int), .int (v : Int), .int p]) := ht
  walk_at "rd"
  refine r_is_tup_tuple ht ?_
  walk_at "rd"
  refine ⟨t, _, rfl, .inr (SqT.of ht'), ?_⟩
  walk_at "rd"
  refine r_itn (fun z => absurd rfl z) (fun _ => ?_)
  walk_at "rd"
  refine r_ixT (SqT.of ht') (atI_get (j := 0) rfl rfl) ?_
  walk_at "rd"
  refine ⟨_, rfl, ?_⟩
  walk_at "rd"
  refine r_ixT (SqT.of ht') (atI_get (j := 1) rfl rfl) ?_
  walk_at "rd"
  refine ⟨_, rfl, ?_⟩
  walk_at "rd"
  refine r_ixT (SqT.of ht') (atI_get (j := 2) rfl rfl) ?_
  walk_at "rd"
  refine ⟨_, rfl, ?_⟩
  walk_at "rd"
  refine r_ixT (SqT.of ht') (atI_get (j := 0) rfl rfl) ?_
  walk_at "rd"
  refine r_ity (by omega) ?_
  walk_at "rd"
  refine ⟨a, _, rfl, .inl ha, ?_⟩
  walk_at "rd"
  rw [List.length_map]
  refine r_itn (fun z => absurd (by omega) z) (fun _ => ?_)
  walk_at "rd"
  refine r_ixT (SqT.of ht') (atI_get (j := 1) rfl rfl) ?_
  walk_at "rd"
  refine r_ity (by omega) ?_
  walk_at "rd"
  refine ⟨a, _, rfl, .inl ha, ?_⟩
  walk_at "rd"
  rw [List.length_map]
  refine r_itn (fun z => absurd (by omega) z) (fun _ => ?_)
  walk_at "rd"
  refine r_ixT (SqT.of ht') (atI_get (j := 0) rfl rfl) ?_
  refine r_ixL ha (atI_get rfl (g_at h1)) ?_
  walk_at "rd"
  refine r_ity h3 ?_
  walk_at "rd"
  refine r_ixT (SqT.of ht') (atI_get (j := 1) rfl rfl) ?_
  refine r_ixL ha (atI_get rfl (g_at h2)) ?_
  walk_at "rd"
  refine r_ity h4 ?_
  walk_at "rd"
  refine r_ixT (SqT.of ht') (atI_get (j := 2) rfl rfl) ?_
  walk_at "rd"
  rw [decide_eq_true h5]
  exact k
def FRows (H : Hp) (f : Addr) (F : List (Nat × Nat × Int)) : Prop := ∃ xs, H f = some (.lst xs) ∧ Paired (TupAt H) xs (F.map tRow)
def spLMatchedWell (K : PySem.W.Frag) : Sp := fun vs H Q _ => ∃ (a f : Addr) (ns : List Int) (F : List (Nat × Nat × Int)), vs = [.ref a, .ref f] ∧ SqL K H a (ns.map V.int) ∧ ns.length ≤ 10000 ∧ FRows H f F ∧ F.length ≤ 20000 ∧
  Well ns (List.replicate ns.length 0) (-1, -1) F ∧ (F.map (·.2.2)).sum = lo (ns.filter fun c => decide (c > 0)).sum ((ns.filter fun c => decide (c < 0)).map fun c => -c).sum ∧ ∀ H', Same H H' → Q (.bl true) H'
theorem len_LMatchedWell {K : PySem.W.Frag} {vs : List V} {H : Hp} {Q : VK} {E : XK} (h : spLMatchedWell K vs H Q E) : vs.length = 2 := by
  obtain ⟨_, _, _, _, rfl, _⟩ := h; rfl
theorem set_up {P : List Int} {d : Nat} {p : Int} : (P.map V.int).set d (.int (gOf P d + p)) = (upP P d p).map V.int := by
  unfold upP
  rw [List.map_set]
theorem cast_ne {d v : Nat} {l : Int × Int} (h : ¬ ((d : Int), (v : Int)) = l) : ¬ [V.int (d : Int), V.int (v : Int)] = [V.int l.1, V.int l.2] := fun z => by
  injection z with z1 z2
  injection z2 with z2 _
  injection z1 with z1
  injection z2 with z2
  exact h (Prod.ext z1 z2)
theorem ok_LMatchedWell {P : Program} {w : World} {K : PySem.W.Frag} {mg : Str → Option Value} {base : Heap} (T : Tx w K mg) : FnOk P w K mg base CX0 3 (He.fAd K dLMatchedWell.at_) (fdO K dLMatchedWell.at_) P_LMatchedWell (spLMatchedWell K) := by
  refine T.f_LMatchedWell.ok sc_LMatchedWell (fun vs H Q E h => len_LMatchedWell h) (fun cdv A outer s H vs Q E hr h => ⟨_, PSs.nox ((pss_cons (ps_setLc (i := 3) (own := [("_law_cell", 2)]) (g := gName 2) (tt := tYes) rfl sc_LMatchedWell.nd rfl rfl (sw_true rfl rfl rfl (by decide +kernel)) (pi_list (pv 0)) (blkOk_by (N := N_LMatchedWell) (sc := defScope sLMatchedWell) (by decide +kernel)) (fun _ _ _ _ _ => pg_name (i := 2) sc_LMatchedWell.nd rfl (Or.inl rfl)) (fun _ _ _ _ _ => pts_nil) (fun _ _ _ _ _ => pe_int))
      (pss_cons (ps_set (i := 4) sc_LMatchedWell.nd rfl (Or.inl rfl) (pe_tup (pa_cons (pe_un un_neg pe_int) (pa_cons (pe_un un_neg pe_int) pa_nil))))
      (pss_cons (ps_for PassesOwn.never rfl (pi_list (pv 1)) (pg_name (i := 5) sc_LMatchedWell.nd rfl (Or.inl rfl)) (pss_cons (ps_if (PW.pt (pw_or (pt_not (pt_val (pe_call (ok_LIsTriple T) (hr.mono (by decide)) rfl T.g_LIsTriple T.f_LIsTriple.kp T.b_LIsTriple .nil pass0 (pa_cons (pv 0) (pa_cons (pv 5) pa_nil))))) (pw_or1 (pt_cmpR (op_eqD hr.units) (pe_tup (pa_cons (pe_ix ix_tup (pv 5) pe_int (fun _ _ => rfl)) (pa_cons (pe_ix ix_tup (pv 5) pe_int (fun _ _ => rfl)) pa_nil))) (pv 4) (nomark _))))) (pss_one (ps_ret pe_bl)) pss_nil)
      (pss_cons (ps_if (PW.pt (pw_or (pt_not (pt_val (pe_call (ok_LAheadWhole T) (hr.mono (by decide)) rfl T.g_LAheadWhole T.f_LAheadWhole.kp T.b_LAheadWhole .nil pass0 (pa_cons (pv 0) (pa_cons (pv 3) (pa_cons (pe_ix ix_tup (pv 5) pe_int (fun _ _ => rfl)) (pa_cons pe_int pa_nil))))))) (pw_or1 (pt_not (pt_val (pe_call (ok_LAheadWhole T) (hr.mono (by decide)) rfl T.g_LAheadWhole T.f_LAheadWhole.kp T.b_LAheadWhole .nil pass0 (pa_cons (pv 0) (pa_cons (pv 3) (pa_cons (pe_ix ix_tup (pv 5) pe_int (fun _ _ => rfl)) (pa_cons (pe_un un_neg pe_int) pa_nil)))))))))) (pss_one (ps_ret pe_bl)) pss_nil)
      (pss_cons (ps_asg (pe_op op_add (pe_ix ix_list (pv 3) (pe_ix ix_tup (pv 5) pe_int (fun _ _ => rfl)) (fun _ _ => rfl)) (pe_ix ix_tup (pv 5) pe_int (fun _ _ => rfl))) (pg_sub (pv 3) (pe_ix ix_tup (pv 5) pe_int (fun _ _ => rfl)) set_list))
      (pss_cons (ps_asg (pe_op op_add (pe_ix ix_list (pv 3) (pe_ix ix_tup (pv 5) pe_int (fun _ _ => rfl)) (fun _ _ => rfl)) (pe_ix ix_tup (pv 5) pe_int (fun _ _ => rfl))) (pg_sub (pv 3) (pe_ix ix_tup (pv 5) pe_int (fun _ _ => rfl)) set_list))
      (pss_cons (ps_if (PW.pt (pw_or (pt_cmpR op_gt (pe_ix ix_list (pv 3) (pe_ix ix_tup (pv 5) pe_int (fun _ _ => rfl)) (fun _ _ => rfl)) (pe_ix ix_list (pv 0) (pe_ix ix_tup (pv 5) pe_int (fun _ _ => rfl)) (fun _ _ => rfl)) (nomark _)) (pw_or1 (pt_cmpR op_gt (pe_ix ix_list (pv 3) (pe_ix ix_tup (pv 5) pe_int (fun _ _ => rfl)) (fun _ _ => rfl)) (pe_un un_neg (pe_ix ix_list (pv 0) (pe_ix ix_tup (pv 5) pe_int (fun _ _ => rfl)) (fun _ _ => rfl))) (nomark _))))) (pss_one (ps_ret pe_bl)) pss_nil)
      (pss_one (ps_set (i := 4) sc_LMatchedWell.nd rfl (Or.inl rfl) (pe_tup (pa_cons (pe_ix ix_tup (pv 5) pe_int (fun _ _ => rfl)) (pa_cons (pe_ix ix_tup (pv 5) pe_int (fun _ _ => rfl)) pa_nil)))))))))))
      (pss_cons (ps_set (i := 7) sc_LMatchedWell.nd rfl (Or.inl rfl) (pe_callB (cr_sum rfl) (by rfl) T.b_sum (by decide +kernel) (pa_cons (pe_lc (own := [("_law_cents", 6)]) (g := gName 6) rfl sc_LMatchedWell.nd (pi_list (pv 0)) (blkOk_by (N := N_LMatchedWell) (sc := defScope sLMatchedWell) (by decide +kernel)) (fun _ _ _ _ _ => pg_name (i := 6) sc_LMatchedWell.nd rfl (Or.inl rfl)) (fun _ _ _ _ _ => (pts_one (pt_cmpR op_gt (pv 6) pe_int (nomark _)))) (fun _ _ _ _ _ => (pv 6))) pa_nil)))
      (pss_cons (ps_set (i := 8) sc_LMatchedWell.nd rfl (Or.inl rfl) (pe_callB (cr_sum rfl) (by rfl) T.b_sum (by decide +kernel) (pa_cons (pe_lc (own := [("_law_cents", 6)]) (g := gName 6) rfl sc_LMatchedWell.nd (pi_list (pv 0)) (blkOk_by (N := N_LMatchedWell) (sc := defScope sLMatchedWell) (by decide +kernel)) (fun _ _ _ _ _ => pg_name (i := 6) sc_LMatchedWell.nd rfl (Or.inl rfl)) (fun _ _ _ _ _ => (pts_one (pt_cmpR op_lt (pv 6) pe_int (nomark _)))) (fun _ _ _ _ _ => (pe_un un_neg (pv 6)))) pa_nil)))
      (pss_one (ps_ret (pe_cmpR op_eq (pe_callB (cr_sum rfl) (by rfl) T.b_sum (by decide +kernel) (pa_cons (pe_lc (own := [("_law_one", 5)]) (g := gName 5) (tt := tYes) rfl sc_LMatchedWell.nd (pi_list (pv 1)) (blkOk_by (N := N_LMatchedWell) (sc := defScope sLMatchedWell) (by decide +kernel)) (fun _ _ _ _ _ => pg_name (i := 5) sc_LMatchedWell.nd rfl (Or.inl rfl)) (fun _ _ _ _ _ => pts_nil) (fun _ _ _ _ _ => (pe_ix (ix_tupK (K := K) rfl) (pv 5) pe_int (fun _ _ => rfl)))) pa_nil)) (pe_callB (call_min2 rfl) (by rfl) T.b_min (by decide +kernel) (pa_cons (pv 7) (pa_cons (pv 8) pa_nil))) (nomark _)))))))))), ?_⟩)
  obtain ⟨a, f, ns, F, rfl, ha, hz, ⟨xs, hf, pf⟩, lF, wl, sm, k⟩ := h
  walk_at "rd"
  refine lcp_list (ys := ns.map fun _ => V.int 0) ha (by simp) (by simp; omega) ?_ ?_
  · intro i x y H' R ex ey s q
    rw [List.getElem?_map] at ey
    cases e : ns[i]? with
    | none => rw [e] at ey; cases ey
    | some n =>
      rw [e] at ey
      cases ey
      walk_at "rd"
      exact q _ (Same.refl _)
  intro pa H1 hpa s1 epa
  have epa' : H1 pa = some (.lst ((List.replicate ns.length (0 : Int)).map V.int)) := by
    rw [epa]
    congr 2
    rw [List.map_replicate, List.map_const']
  walk_at "rd"
  refine r_mk (by simp) fun la hla => ?_
  have s2 := same_upd (o := .tup [.int (-1), .int (-1)]) hla
  have ela : upd H1 la (.tup [.int (-1), .int (-1)]) la = some (.tup [.int (-1), .int (-1)]) := upd_same
  have epa2 := s2 _ _ epa'
  have s12 := s1.trans s2
  revert ela epa2 s12
  generalize upd H1 la (.tup [.int (-1), .int (-1)]) = H2
  intro ela epa2 s12
  have fin : ∀ H' : Hp, But (· = pa) H2 H' → Same H H' := fun H' b x o e => b.keep _ _ (s12 _ _ e) (ne_of_none e hpa)
  have fpa : f ≠ pa := ne_of_none hf hpa
  walk_at "rd"
  refine ⟨f, rfl, ⟨xs, SqL.of (s12 _ _ hf)⟩, for_list (K := K) (a := f) (xs := xs) (fun i σ H' => ∃ (la : Addr) (l : Int × Int) (P : List Int) (v5 : Option V), σ = [some (.ref a), some (.ref f), none, some (.ref pa), some (.ref la), v5, none, none, none] ∧
      H' la = some (.tup [.int l.1, .int l.2]) ∧ H' pa = some (.lst (P.map V.int)) ∧ P.length = ns.length ∧ Well ns P l (F.drop i) ∧ But (· = pa) H2 H')
    ⟨la, (-1, -1), _, none, rfl, ela, epa2, by simp, wl, But.refl⟩ (fun i σ H' _ ⟨_, _, _, _, _, _, _, _, _, b⟩ => SqL.of ((fin H' b) _ _ hf)) ?_ ?_⟩
  · rintro i x σ H3 hi ⟨la, l, P, v5, rfl, ela, epa3, lP, w, b3⟩
    obtain ⟨row, er, t, rfl, ht⟩ := pr_ex pf hi
    rw [List.getElem?_map] at er
    cases eF : F[i]? with
    | none => rw [eF] at er; cases er
    | some T3 =>
    rw [eF] at er
    cases er
    obtain ⟨d, v, p⟩ := T3
    have dr : F.drop i = (d, v, p) :: F.drop (i + 1) := by
      have hi' := (List.getElem?_eq_some_iff.mp eF).1
      rw [List.drop_eq_getElem_cons hi']
      rw [List.getElem?_eq_getElem hi'] at eF
      rw [Option.some.inj eF]
    rw [dr] at w
    obtain ⟨⟨w1, w2, w3, w4, w5⟩, w6, w7, w8, ⟨w9, w10⟩, w11⟩ := w
    have st := fin H3 b3
    have ha3 : SqL K H3 a (ns.map V.int) := st.seq ha
    have ht3 : H3 t = some (.tup [.int (d : Int), .int (v : Int), .int p]) := st _ _ ht
    have ndv : d ≠ v := fun z => by rw [z] at w3; omega
    walk_at "rd"
    refine ⟨a, t, ns, d, v, p, rfl, ha3, ht3, ⟨w1, w2, w3, w4, w5⟩, ?_⟩
    walk_at "rd"
    refine r_ixT (SqT.of ht3) (atI_get (j := 0) rfl rfl) ?_
    walk_at "rd"
    refine r_ixT (SqT.of ht3) (atI_get (j := 1) rfl rfl) ?_
    walk_at "rd"
    refine r_mk (by simp) fun q hq => ?_
    have s4 := same_upd (o := .tup [.int (d : Int), .int (v : Int)]) hq
    walk_at "rd"
    refine r_eqTT (r := [.int (d : Int), .int (v : Int)]) (q := [.int l.1, .int l.2]) (SqT.of upd_same) (SqT.of (s4 _ _ ela)) (.cons .int (.cons .int .nil)) (.cons .int (.cons .int .nil)) ?_
    walk_at "rd"
    refine r_itz (cast_ne w6) ?_
    have st4 := st.trans s4
    have b4 := b3.trans (But.of (S := (· = pa)) s4)
    have epa4 := s4 _ _ epa3
    have ht4 := s4 _ _ ht3
    revert st4 b4 epa4 ht4
    generalize upd H3 q (.tup [.int (d : Int), .int (v : Int)]) = H4
    intro st4 b4 epa4 ht4
    have ha4 : SqL K H4 a (ns.map V.int) := st4.seq ha
    walk_at "rd"
    refine r_ixT (SqT.of ht4) (atI_get (j := 0) rfl rfl) ?_
    walk_at "rd"
    refine ⟨a, pa, ns, P, d, 1, rfl, ha4, epa4, lP, by omega, hz, .inl rfl, fun k' hk hg => ?_, ?_⟩
    · rw [Int.mul_one] at hg ⊢
      exact w7 k' hk hg
    walk_at "rd"
    refine r_ixT (SqT.of ht4) (atI_get (j := 1) rfl rfl) ?_
    walk_at "rd"
    refine ⟨a, pa, ns, P, v, -1, rfl, ha4, epa4, lP, by omega, hz, .inr rfl, fun k' hk hg => ?_, ?_⟩
    · have e : gOf ns k' * -1 = -gOf ns k' := by omega
      rw [e] at hg ⊢
      exact w8 k' hk (by omega)
    walk_at "rd"
    refine r_ixT (SqT.of ht4) (atI_get (j := 0) rfl rfl) ?_
    refine r_ixL (SqL.of epa4) (atI_get rfl (g_at (by omega))) ?_
    walk_at "rd"
    refine r_ixT (SqT.of ht4) (atI_get (j := 2) rfl rfl) ?_
    walk_at "rd"
    refine r_ixT (SqT.of ht4) (atI_get (j := 0) rfl rfl) ?_
    walk_at "rd"
    refine r_setL epa4 rfl (by rw [List.length_map]; omega) ?_
    rw [set_up]
    have b5 := b4.trans (But.lst (S := (· = pa)) (o := .lst ((upP P d p).map V.int)) epa4 rfl)
    have epa5 : upd H4 pa (.lst ((upP P d p).map V.int)) pa = some (.lst ((upP P d p).map V.int)) := upd_same
    revert b5 epa5
    generalize upd H4 pa (.lst ((upP P d p).map V.int)) = H5
    intro b5 epa5
    have ht5 := (fin H5 b5) _ _ ht
    have ht5' : H5 t = some (.tup [.int (d : Int), .int (v : Int), .int p]) := ht5
    have lP1 : (upP P d p).length = ns.length := by rw [upP_len, lP]
    walk_at "rd"
    refine r_ixT (SqT.of ht5') (atI_get (j := 1) rfl rfl) ?_
    refine r_ixL (SqL.of epa5) (atI_get rfl (g_at (by omega))) ?_
    walk_at "rd"
    refine r_ixT (SqT.of ht5') (atI_get (j := 2) rfl rfl) ?_
    walk_at "rd"
    refine r_ixT (SqT.of ht5') (atI_get (j := 1) rfl rfl) ?_
    walk_at "rd"
    refine r_setL epa5 rfl (by rw [List.length_map]; omega) ?_
    rw [set_up]
    have b6 := b5.trans (But.lst (S := (· = pa)) (o := .lst ((upP (upP P d p) v p).map V.int)) epa5 rfl)
    have epa6 : upd H5 pa (.lst ((upP (upP P d p) v p).map V.int)) pa = some (.lst ((upP (upP P d p) v p).map V.int)) := upd_same
    revert b6 epa6
    generalize upd H5 pa (.lst ((upP (upP P d p) v p).map V.int)) = H6
    intro b6 epa6
    have ht6 : H6 t = some (.tup [.int (d : Int), .int (v : Int), .int p]) := (fin H6 b6) _ _ ht
    have ha6 : SqL K H6 a (ns.map V.int) := (fin H6 b6).seq ha
    have lP2 : (upP (upP P d p) v p).length = ns.length := by rw [upP_len, lP1]
    have P1d : gOf (upP (upP P d p) v p) d = gOf P d + p := by
      rw [g_set (by omega), if_neg ndv, g_set (by omega), if_pos rfl]
    have P1v : gOf (upP (upP P d p) v p) v = gOf P v + p := by
      rw [g_set (by omega), if_pos rfl, g_set (by omega), if_neg (Ne.symm ndv)]
    walk_at "rd"
    refine r_ixT (SqT.of ht6) (atI_get (j := 0) rfl rfl) ?_
    refine r_ixL (SqL.of epa6) (atI_get rfl (g_at (by omega))) ?_
    walk_at "rd"
    refine r_ixT (SqT.of ht6) (atI_get (j := 0) rfl rfl) ?_
    refine r_ixL ha6 (atI_get rfl (g_at w1)) ?_
    walk_at "rd"
    refine r_itz (by omega) ?_
    walk_at "rd"
    refine r_ixT (SqT.of ht6) (atI_get (j := 1) rfl rfl) ?_
    refine r_ixL (SqL.of epa6) (atI_get rfl (g_at (by omega))) ?_
    walk_at "rd"
    refine r_ixT (SqT.of ht6) (atI_get (j := 1) rfl rfl) ?_
    refine r_ixL ha6 (atI_get rfl (g_at w2)) ?_
    walk_at "rd"
    refine r_itz (by omega) ?_
    walk_at "rd"
    refine r_ixT (SqT.of ht6) (atI_get (j := 0) rfl rfl) ?_
    walk_at "rd"
    refine r_ixT (SqT.of ht6) (atI_get (j := 1) rfl rfl) ?_
    walk_at "rd"
    refine r_mk (by simp) fun l2 hl2 => ?_
    have s7 := same_upd (o := .tup [.int (d : Int), .int (v : Int)]) hl2
    walk_at "rd"
    exact ⟨l2, ((d : Int), (v : Int)), upP (upP P d p) v p, _, rfl, upd_same, s7 _ _ epa6, lP2, w11, b6.trans (But.of s7)⟩
  · rintro σ H3 ⟨la, l, P, v5, rfl, ela, epa3, lP, w, b3⟩
    have st := fin H3 b3
    walk_at "rd"
    refine lcp_fm (fun c => decide (c > 0)) id (st.seq ha) (by omega) (fun n H' QB s q => ?_) (fun n H' W s q => ?_) fun D H4 hD s4 eD => ?_
    · walk_at "rd"
      exact q
    · walk_at "rd"
      exact q
    walk_at "rd"
    refine ⟨D, _, rfl, SqL.of eD, ?_⟩
    walk_at "rd"
    refine lcp_fm (fun c => decide (c < 0)) (fun c => -c) ((st.trans s4).seq ha) (by omega) (fun n H' QB s q => ?_) (fun n H' W s q => ?_) fun D2 H5 hD2 s5 eD2 => ?_
    · walk_at "rd"
      exact q
    · walk_at "rd"
      exact q
    walk_at "rd"
    refine ⟨D2, _, rfl, SqL.of eD2, ?_⟩
    have st5 := (st.trans s4).trans s5
    walk_at "rd"
    refine lcp_list (ys := F.map fun t => V.int t.2.2) (SqL.of (st5 _ _ hf)) (by rw [pf.length]; simp) (by rw [pf.length]; simp; omega) ?_ ?_
    · intro i x y H' R ex ey s q
      obtain ⟨row, er, t, rfl, ht⟩ := pr_ex pf ex
      rw [List.getElem?_map] at er ey
      cases eF : F[i]? with
      | none => rw [eF] at er; cases er
      | some T3 =>
        rw [eF] at er ey
        cases er
        cases ey
        walk_at "rd"
        refine r_ixT (SqT.of (s _ _ (st5 _ _ ht))) (atI_get (j := 2) rfl rfl) ?_
        exact q _ (Same.refl _)
    intro D3 H6 hD3 s6 eD3
    walk_at "rd"
    refine ⟨D3, F.map (·.2.2), rfl, SqL.of (by rw [eD3, List.map_map]; rfl), ?_⟩
    walk_at "rd"
    refine ⟨_, _, rfl, ?_⟩
    walk_at "rd"
    rw [List.map_id, sm]
    rw [decide_eq_true (show lo _ _ = (if _ < _ then _ else _) from rfl)]
    exact k _ (st5.trans s6)

/-! ### rows alike -/
def spLRowsAlike (_ : PySem.W.Frag) : Sp := fun vs H Q _ => ∃ (r q : Addr) (ms : List (Str × Int)), vs = [.ref r, .ref q] ∧ RowsAt H r (ms.map mkRow) ∧ RowsAt H q (ms.map mkRow) ∧ (∀ m, m ∈ ms → PyData.strOk m.1 = true) ∧ Q (.bl true) H
theorem len_LRowsAlike {K : PySem.W.Frag} {vs : List V} {H : Hp} {Q : VK} {E : XK} (h : spLRowsAlike K vs H Q E) : vs.length = 2 := by
  obtain ⟨_, _, _, rfl, _⟩ := h; rfl
theorem ok_LRowsAlike {P : Program} {w : World} {K : PySem.W.Frag} {mg : Str → Option Value} {base : Heap} (T : Tx w K mg) : FnOk P w K mg base CX0 2 (He.fAd K dLRowsAlike.at_) (fdO K dLRowsAlike.at_) P_LRowsAlike (spLRowsAlike K) := by
  refine T.f_LRowsAlike.ok sc_LRowsAlike (fun vs H Q E h => len_LRowsAlike h) (fun cdv A outer s H vs Q E hr h => ⟨_, PSs.nox ((pss_cons (ps_if (PW.pt (pw_or (pt_not (pt_val (pe_callB call_isi (by rfl) T.b_isinstance (by decide +kernel) (pa_cons (pv 0) (pa_cons (pe_bltn (v := .ty "list") (by rfl) T.b_list (by decide +kernel) rfl) pa_nil))))) (pw_or1 (pt_cmpR (op_neD hr.units) (pv 0) (pv 1) (nomark _))))) (pss_one (ps_ret pe_bl)) pss_nil)
      (pss_cons (ps_for PassesOwn.never rfl (pi_list (pv 0)) (pg_name (i := 2) sc_LRowsAlike.nd rfl (Or.inl rfl)) (pss_one (ps_if (PW.pt (pw_or (pt_not (pt_val (pe_callB call_isi (by rfl) T.b_isinstance (by decide +kernel) (pa_cons (pv 2) (pa_cons (pe_bltn (v := .ty "tuple") (by rfl) T.b_tuple (by decide +kernel) rfl) pa_nil))))) (pw_or (pt_not (pt_val (pe_callB call_isi (by rfl) T.b_isinstance (by decide +kernel) (pa_cons (pe_ix ix_tup (pv 2) pe_int (fun _ _ => rfl)) (pa_cons (pe_bltn (v := .ty "str") (by rfl) T.b_str (by decide +kernel) rfl) pa_nil))))) (pw_or1 (pt_not (pt_val (pe_call (ok_LWhole T) (hr.mono (by decide)) rfl T.g_LWhole T.f_LWhole.kp T.b_LWhole .nil pass0 (pa_cons (pe_ix ix_tup (pv 2) pe_int (fun _ _ => rfl)) pa_nil)))))))) (pss_one (ps_ret pe_bl)) pss_nil)))
      (pss_one (ps_ret pe_bl))))), ?_⟩)
  obtain ⟨r, q, ms, rfl, ⟨xs, hr, pr⟩, ⟨ys, hq, pq⟩, ok, k⟩ := h
  have rw_ := mk_rws ok
  walk_at "rd"
  refine r_is_lst_list hr ?_
  walk_at "rd"
  refine r_neRR (SqL.of hr) (SqL.of hq) pr pq rw_ rw_ ?_
  walk_at "rd"
  refine r_itn (fun z => absurd rfl z) (fun _ => ?_)
  walk_at "rd"
  refine ⟨r, rfl, ⟨xs, SqL.of hr⟩, for_list (K := K) (a := r) (xs := xs) (fun i σ H' => ∃ v, σ = [some (.ref r), some (.ref q), v] ∧ H' = H) ⟨none, rfl, rfl⟩ (fun i σ H' _ ⟨_, _, e⟩ => by rw [e]; exact SqL.of hr) ?_ ?_⟩
  · rintro i x σ H' hi ⟨v, rfl, rfl⟩
    obtain ⟨c, ec, t, rfl, ht⟩ := pr_ex pr hi
    rw [List.getElem?_map] at ec
    cases em : ms[i]? with
    | none => rw [em] at ec; cases ec
    | some m =>
      rw [em] at ec
      cases ec
      have ht' : H' t = some (.tup [.str m.1, .int m.2]) := ht
      walk_at "rd"
      refine r_is_tup_tuple ht' ?_
      walk_at "rd"
      refine r_ixT (SqT.of ht') (atI_get (j := 0) rfl rfl) ?_
      walk_at "rd"
      refine r_ixT (SqT.of ht') (atI_get (j := 1) rfl rfl) ?_
      walk_at "rd"
      refine ⟨_, rfl, ?_⟩
      walk_at "rd"
      exact ⟨_, rfl, rfl⟩
  · rintro σ H' ⟨v, rfl, rfl⟩
    walk_at "rd"
    exact k

/-! ### deeds alike -/
def spLPartsAlike (_ : PySem.W.Frag) : Sp := fun vs H Q _ => ∃ (t u : Addr) (r : List V), vs = [.ref t, .ref u] ∧ H t = some (.tup r) ∧ H u = some (.tup r) ∧ Scs r ∧ Q (.bl true) H
theorem len_LPartsAlike {K : PySem.W.Frag} {vs : List V} {H : Hp} {Q : VK} {E : XK} (h : spLPartsAlike K vs H Q E) : vs.length = 2 := by
  obtain ⟨_, _, _, rfl, _⟩ := h; rfl
theorem ok_LPartsAlike {P : Program} {w : World} {K : PySem.W.Frag} {mg : Str → Option Value} {base : Heap} (T : Tx w K mg) : FnOk P w K mg base CX0 2 (He.fAd K dLPartsAlike.at_) (fdO K dLPartsAlike.at_) P_LPartsAlike (spLPartsAlike K) := by
  refine T.f_LPartsAlike.ok sc_LPartsAlike (fun vs H Q E h => len_LPartsAlike h) (fun cdv A outer s H vs Q E hr h => ⟨_, PSs.nox ((pss_cons (ps_if (PW.pt (pw_or (pt_not (pt_val (pe_callB call_isi (by rfl) T.b_isinstance (by decide +kernel) (pa_cons (pv 0) (pa_cons (pe_bltn (v := .ty "tuple") (by rfl) T.b_tuple (by decide +kernel) rfl) pa_nil))))) (pw_or1 (pt_cmpR (op_neD hr.units) (pv 0) (pv 1) (nomark _))))) (pss_one (ps_ret pe_bl)) pss_nil)
      (pss_cons (ps_for PassesOwn.never rfl (pi_tup (pv 0)) (pg_name (i := 2) sc_LPartsAlike.nd rfl (Or.inl rfl)) (pss_one (ps_if (PW.pt (pw_and (pt_not (pt_val (pe_callB call_isi (by rfl) T.b_isinstance (by decide +kernel) (pa_cons (pv 2) (pa_cons (pe_bltn (v := .ty "str") (by rfl) T.b_str (by decide +kernel) rfl) pa_nil))))) (pw_and1 (pt_not (pt_val (pe_call (ok_LWhole T) (hr.mono (by decide)) rfl T.g_LWhole T.f_LWhole.kp T.b_LWhole .nil pass0 (pa_cons (pv 2) pa_nil))))))) (pss_one (ps_ret pe_bl)) pss_nil)))
      (pss_one (ps_ret pe_bl))))), ?_⟩)
  obtain ⟨t, u, r, rfl, ht, hu, sc, k⟩ := h
  walk_at "rd"
  refine r_is_tup_tuple ht ?_
  walk_at "rd"
  refine r_neTT (SqT.of ht) (SqT.of hu) sc sc ?_
  walk_at "rd"
  refine r_itn (fun c => absurd rfl c) (fun _ => ?_)
  walk_at "rd"
  refine ⟨t, rfl, ⟨_, SqT.of ht⟩, for_tup (K := K) (a := t) (xs := r) (fun i σ H' => ∃ v, σ = [some (.ref t), some (.ref u), v] ∧ H' = H) ⟨none, rfl, rfl⟩ (fun i σ H' _ ⟨_, _, e⟩ => by rw [e]; exact SqT.of ht) ?_ ?_⟩
  · rintro i x σ H' hi ⟨v, rfl, rfl⟩
    rcases sc x (List.mem_of_getElem? hi) with ⟨n, rfl⟩ | ⟨z, rfl, _⟩
    · walk_at "rd"
      refine ⟨n, rfl, ?_⟩
      walk_at "rd"
      exact ⟨_, rfl, rfl⟩
    · walk_at "rd"
      exact ⟨_, rfl, rfl⟩
  · rintro σ H' ⟨v, rfl, rfl⟩
    walk_at "rd"
    exact k
theorem lt_scs {t : Lt} (h : PyData.strOk t.item = true) : Scs (ltRow t) := .cons (.inr ⟨_, rfl, h⟩) (.cons .int (.cons .int (.cons .int .nil)))
def spLDeedAlike (_ : PySem.W.Frag) : Sp := fun vs H Q _ => ∃ (F F' : Addr → Prop) (v u : V) (d : Dd), vs = [v, u] ∧ DdAt F H v d ∧ DdAt F' H u d ∧ d.good ∧ d.plain ∧ (∀ ls, d = .ord ls → ls.length ≤ 100000) ∧ Q (.bl true) H
theorem len_LDeedAlike {K : PySem.W.Frag} {vs : List V} {H : Hp} {Q : VK} {E : XK} (h : spLDeedAlike K vs H Q E) : vs.length = 2 := by
  obtain ⟨_, _, _, _, _, rfl, _⟩ := h; rfl
/-- a deed that is no order, as a row -/
theorem dd_row {F : Addr → Prop} {H : Hp} {v : V} {d : Dd} (g : d.good) (h : DdAt F H v d) (no : ∀ ls, d ≠ .ord ls) : ∃ t r, v = .ref t ∧ H t = some (.tup (.str (word d) :: r)) ∧ Scs (.str (word d) :: r) ∧ ¬ word d = "order" ∧ ∀ F2 H2 v2, DdAt F2 H2 v2 d → ∃ t2, v2 = .ref t2 ∧ H2 t2 = some (.tup (.str (word d) :: r)) := by
  cases d with
  | ord ls => exact absurd rfl (no ls)
  | ln w o l n =>
    obtain ⟨t, e, ht⟩ := h
    exact ⟨t, _, e, ht, .cons (Dd.wd (d := .ln w o l n) g) (.cons .int (.cons .int (.cons .int .nil))), (gln g).1, fun _ _ _ ⟨t2, e2, h2⟩ => ⟨t2, e2, h2⟩⟩
  | mo w o n =>
    obtain ⟨t, e, ht⟩ := h
    exact ⟨t, _, e, ht, .cons (Dd.wd (d := .mo w o n) g) (.cons .int (.cons .int .nil)), (gmo g).1, fun _ _ _ ⟨t2, e2, h2⟩ => ⟨t2, e2, h2⟩⟩
  | mv o p n =>
    obtain ⟨t, e, ht⟩ := h
    exact ⟨t, _, e, ht, .cons (Dd.wd (d := .mv o p n) g) (.cons .int (.cons .int (.cons .int .nil))), by show ¬ ("move" : Str) = "order"; decide +kernel, fun _ _ _ ⟨t2, e2, h2⟩ => ⟨t2, e2, h2⟩⟩
theorem ok_LDeedAlike {P : Program} {w : World} {K : PySem.W.Frag} {mg : Str → Option Value} {base : Heap} (T : Tx w K mg) : FnOk P w K mg base CX0 3 (He.fAd K dLDeedAlike.at_) (fdO K dLDeedAlike.at_) P_LDeedAlike (spLDeedAlike K) := by
  refine T.f_LDeedAlike.ok sc_LDeedAlike (fun vs H Q E h => len_LDeedAlike h) (fun cdv A outer s H vs Q E hr h => ⟨_, PSs.nox ((pss_cons (ps_if (pt_cmpR op_ne (pe_ix ix_tup (pv 1) pe_int (fun _ _ => rfl)) pe_str (nomark _)) (pss_one (ps_ret (pe_call (ok_LPartsAlike T) (hr.mono (by decide)) rfl T.g_LPartsAlike T.f_LPartsAlike.kp T.b_LPartsAlike .nil pass0 (pa_cons (pv 0) (pa_cons (pv 1) pa_nil))))) pss_nil)
      (pss_cons (ps_if (PW.pt (pw_or (pt_not (pt_val (pe_callB call_isi (by rfl) T.b_isinstance (by decide +kernel) (pa_cons (pv 0) (pa_cons (pe_bltn (v := .ty "tuple") (by rfl) T.b_tuple (by decide +kernel) rfl) pa_nil))))) (pw_or (pt_cmpR op_ne (pe_callB call_len_seq (by rfl) T.b_len (by decide +kernel) (pa_cons (pv 0) pa_nil)) pe_int (nomark _)) (pw_or1 (pt_cmpR (op_neD hr.units) (pe_ix ix_tup (pv 0) pe_int (fun _ _ => rfl)) pe_str (nomark _)))))) (pss_one (ps_ret pe_bl)) pss_nil)
      (pss_cons (ps_if (PW.pt (pw_or (pt_not (pt_val (pe_callB call_isi (by rfl) T.b_isinstance (by decide +kernel) (pa_cons (pe_ix ix_tup (pv 0) pe_int (fun _ _ => rfl)) (pa_cons (pe_bltn (v := .ty "list") (by rfl) T.b_list (by decide +kernel) rfl) pa_nil))))) (pw_or1 (pt_cmpR op_ne (pe_callB call_len_seq (by rfl) T.b_len (by decide +kernel) (pa_cons (pe_ix ix_tup (pv 0) pe_int (fun _ _ => rfl)) pa_nil)) (pe_callB call_len_seq (by rfl) T.b_len (by decide +kernel) (pa_cons (pe_ix ix_tup (pv 1) pe_int (fun _ _ => rfl)) pa_nil)) (nomark _))))) (pss_one (ps_ret pe_bl)) pss_nil)
      (pss_cons (ps_for PassesOwn.never rfl (pi_range1 (by rfl) T.b_range (pa_cons (pe_callB call_len_seq (by rfl) T.b_len (by decide +kernel) (pa_cons (pe_ix ix_tup (pv 1) pe_int (fun _ _ => rfl)) pa_nil)) pa_nil)) (pg_name (i := 2) sc_LDeedAlike.nd rfl (Or.inl rfl)) (pss_one (ps_if (pt_not (pt_val (pe_call (ok_LPartsAlike T) (hr.mono (by decide)) rfl T.g_LPartsAlike T.f_LPartsAlike.kp T.b_LPartsAlike .nil pass0 (pa_cons (pe_ix ix_list (pe_ix ix_tup (pv 0) pe_int (fun _ _ => rfl)) (pv 2) (fun _ _ => rfl)) (pa_cons (pe_ix ix_list (pe_ix ix_tup (pv 1) pe_int (fun _ _ => rfl)) (pv 2) (fun _ _ => rfl)) pa_nil))))) (pss_one (ps_ret pe_bl)) pss_nil)))
      (pss_one (ps_ret pe_bl))))))), ?_⟩)
  obtain ⟨F, F', v, u, d, rfl, hv, hu, g, pl, few, k⟩ := h
  by_cases no : ∃ ls, d = .ord ls
  · obtain ⟨ls, rfl⟩ := no
    have few' := few ls rfl
    have pl' := pl ls rfl
    obtain ⟨t, l, xs, rfl, ht, hl, _, pt⟩ := hv
    obtain ⟨q, m, ys, rfl, hq, hm, _, pq⟩ := hu
    have lx : xs.length = ls.length := pt.length
    have ly : ys.length = ls.length := pq.length
    walk_at "rd"
    refine r_ixT (SqT.of hq) (atI_get (j := 0) rfl rfl) ?_
    walk_at "rd"
    refine r_itn (fun c => absurd rfl c) (fun _ => ?_)
    walk_at "rd"
    refine r_is_tup_tuple ht ?_
    walk_at "rd"
    refine ⟨t, _, rfl, .inr (SqT.of ht), ?_⟩
    walk_at "rd"
    refine r_itn (fun c => absurd rfl c) (fun _ => ?_)
    walk_at "rd"
    refine r_ixT (SqT.of ht) (atI_get (j := 0) rfl rfl) ?_
    walk_at "rd"
    refine r_neSS (.inr ⟨_, rfl, by decide +kernel⟩) (.inr ⟨_, rfl, by decide +kernel⟩) ?_
    walk_at "rd"
    refine r_itn (fun c => absurd rfl c) (fun _ => ?_)
    walk_at "rd"
    refine r_ixT (SqT.of ht) (atI_get (j := 1) rfl rfl) ?_
    walk_at "rd"
    refine r_is_lst_list hl ?_
    walk_at "rd"
    refine r_ixT (SqT.of ht) (atI_get (j := 1) rfl rfl) ?_
    walk_at "rd"
    refine ⟨l, _, rfl, .inl (SqL.of hl), ?_⟩
    walk_at "rd"
    refine r_ixT (SqT.of hq) (atI_get (j := 1) rfl rfl) ?_
    walk_at "rd"
    refine ⟨m, _, rfl, .inl (SqL.of hm), ?_⟩
    walk_at "rd"
    refine r_itn (fun c => absurd (by rw [lx, ly]) c) (fun _ => ?_)
    walk_at "rd"
    refine r_ixT (SqT.of hq) (atI_get (j := 1) rfl rfl) ?_
    walk_at "rd"
    refine ⟨m, _, rfl, .inl (SqL.of hm), ?_⟩
    rw [ly]
    walk_at "rd"
    refine ⟨_, rfl, by omega, by omega, for_range (lo := 0) (n := ls.length) (fun i σ H' => ∃ v, σ = [some (.ref t), some (.ref q), v] ∧ H' = H) ⟨none, rfl, rfl⟩ ?_ ?_⟩
    · rintro i σ H' hi ⟨v, rfl, rfl⟩
      rw [Int.zero_add]
      obtain ⟨x, ex⟩ : ∃ x, xs[i]? = some x := ⟨_, List.getElem?_eq_getElem (by omega)⟩
      obtain ⟨y, ey⟩ : ∃ y, ys[i]? = some y := ⟨_, List.getElem?_eq_getElem (by omega)⟩
      obtain ⟨r1, e1, a, rfl, ha⟩ := pr_ex pt ex
      obtain ⟨r2, e2, b, rfl, hb⟩ := pr_ex pq ey
      rw [e1] at e2
      cases e2
      walk_at "rd"
      refine r_ixT (SqT.of ht) (atI_get (j := 1) rfl rfl) ?_
      walk_at "rd"
      refine r_ixL (SqL.of hl) (atI_get (j := i) rfl ex) ?_
      walk_at "rd"
      refine r_ixT (SqT.of hq) (atI_get (j := 1) rfl rfl) ?_
      walk_at "rd"
      refine r_ixL (SqL.of hm) (atI_get (j := i) rfl ey) ?_
      walk_at "rd"
      refine ⟨a, b, _, rfl, ha, hb, lt_scs (pl' _ (List.mem_of_getElem? e1)), ?_⟩
      walk_at "rd"
      exact ⟨_, rfl, rfl⟩
    · rintro σ H' ⟨v, rfl, rfl⟩
      walk_at "rd"
      exact k
  · obtain ⟨t, r, rfl, ht, sc, wn, all⟩ := dd_row g hv fun ls e => no ⟨ls, e⟩
    obtain ⟨q, rfl, hq⟩ := all _ _ _ hu
    walk_at "rd"
    refine r_ixT (SqT.of hq) (atI_get (j := 0) rfl rfl) ?_
    walk_at "rd"
    refine r_itn (fun _ => ?_) (fun c => absurd c wn)
    walk_at "rd"
    exact ⟨t, q, _, rfl, ht, hq, sc, k⟩
/-! ### the deeds that stand, by an account -/
theorem replay_os {es : List Od} {ds : List Dd} (h : replay [] ds = some es) (g : ∀ d, d ∈ ds → d.good ∧ ∀ ls, d = .ord ls → Good ls) : OsOk es := by
  have all : ∀ (n : Nat) (ds : List Dd) (es : List Od), ds.length = n → replay [] ds = some es → (∀ d, d ∈ ds → d.good ∧ ∀ ls, d = .ord ls → Good ls) → OsOk es := by
    intro n
    induction n with
    | zero =>
      intro ds es hl h g
      have : ds = [] := List.length_eq_zero_iff.mp hl
      subst this
      cases h
      exact ⟨Nat.zero_le _, fun o ho => by cases ho⟩
    | succ n ih =>
      intro ds es hl h g
      obtain ⟨cs, d, rfl⟩ : ∃ cs d, ds = cs ++ [d] := by
        rcases List.eq_nil_or_concat ds with z | ⟨L, b, z⟩
        · rw [z] at hl; simp at hl
        · exact ⟨L, b, by rw [z, List.concat_eq_append]⟩
      obtain ⟨o1, c, r1, st⟩ := replay_cut h
      have gd := g d (by simp)
      have few := (replay_ok r1 fun x hx => (g x (List.mem_append_left _ hx)).1).few
      exact step_okk (ih cs o1 (by simpa using hl) r1 fun x hx => g x (List.mem_append_left _ hx)) gd.1 gd.2 (by show o1.length < 100; have : o1.length ≤ 40 := few; omega) st
  exact all _ ds es rfl h g
def A0 (a : Addr) : AL := ⟨[], fun x => if x = a then .top else .no⟩
theorem acc0 {H : Hp} {a : Addr} (h : H a = some (.lst [])) : AccAt H a [] (A0 a) := ⟨h, by simp [A0], rfl, fun j p o e => by simp [A0] at e, fun j p e => by simp [A0] at e, fun x z => by
  by_cases c : x = a
  · exact ⟨_, by rw [c]; exact h⟩
  · exact absurd (by simp [A0, c]) z⟩
theorem A0_foot {a x : Addr} (h : (A0 a).own x ≠ .no) : x = a := by
  by_cases c : x = a
  · exact c
  · exact absurd (by simp [A0, c]) h
def Deeds (ds : List Dd) : Prop := ∀ d, d ∈ ds → d.good ∧ ∀ ls, d = .ord ls → Good ls
def spLModelOf (K : PySem.W.Frag) : Sp := fun vs H Q _ => ∃ (F : Addr → Prop) (dl : Addr) (xs : List V) (ds : List Dd) (es : List Od), vs = [.ref dl] ∧ H dl = some (.lst xs) ∧ Paired (DdAt F H) xs ds ∧ Deeds ds ∧ ds.length ≤ 5000 ∧ replay [] ds = some es ∧
  ∀ a A H', AccAt H' a es A → OsOk es → Same H H' → H a = none → (∀ x, A.own x ≠ .no → H x = none) → Q (.ref a) H'
theorem len_LModelOf {K : PySem.W.Frag} {vs : List V} {H : Hp} {Q : VK} {E : XK} (h : spLModelOf K vs H Q E) : vs.length = 1 := by
  obtain ⟨_, _, _, _, _, rfl, _⟩ := h; rfl
theorem ok_LModelOf {P : Program} {w : World} {K : PySem.W.Frag} {mg : Str → Option Value} {base : Heap} (T : Tx w K mg) : FnOk P w K mg base CX0 4 (He.fAd K dLModelOf.at_) (fdO K dLModelOf.at_) P_LModelOf (spLModelOf K) := by
  refine T.f_LModelOf.ok sc_LModelOf (fun vs H Q E h => len_LModelOf h) (fun cdv A outer s H vs Q E hr h => ⟨_, PSs.nox ((pss_cons (ps_set (i := 1) sc_LModelOf.nd rfl (Or.inl rfl) (pe_lst pa_nil))
      (pss_cons (ps_for PassesOwn.never rfl (pi_list (pv 0)) (pg_name (i := 2) sc_LModelOf.nd rfl (Or.inl rfl)) (pss_one (ps_expr (pe_call (ok_LStep T) (hr.mono (by decide)) rfl T.g_LStep T.f_LStep.kp T.b_LStep .nil pass0 (pa_cons (pv 2) (pa_cons (pv 1) pa_nil))))))
      (pss_one (ps_ret (pv 1)))))), ?_⟩)
  obtain ⟨F, dl, xs, ds, es, rfl, hd, pd, gd, few, rep, k⟩ := h
  have lx := pd.length
  walk_at "rd"
  refine r_mk (by simp) fun a ha => ?_
  have s1 := same_upd (o := .lst []) ha
  have ea : upd H a (.lst []) a = some (.lst []) := upd_same
  revert s1 ea
  generalize upd H a (.lst []) = H1
  intro s1 ea
  walk_at "rd"
  refine ⟨dl, rfl, ⟨xs, SqL.of (s1 _ _ hd)⟩, for_list (K := K) (a := dl) (xs := xs) (fun i σ H' => ∃ oi A v2, σ = [some (.ref dl), some (.ref a), v2] ∧ replay [] (ds.take i) = some oi ∧ AccAt H' a oi A ∧ Same H H' ∧ ∀ x, A.own x ≠ .no → H x = none)
    ⟨[], A0 a, none, rfl, rfl, acc0 ea, s1, fun x z => by rw [A0_foot z]; exact ha⟩ (fun i σ H' _ ⟨_, _, _, _, _, _, s, _⟩ => SqL.of (s _ _ hd)) ?_ ?_⟩
  · rintro i x σ H2 hi ⟨oi, A, v2, rfl, ri, acc, s2, fr⟩
    obtain ⟨y, ey, hy⟩ := pr_ex pd hi
    obtain ⟨q1, o2, cs, r1, st, r2⟩ := replay_at rep ey
    have e1 : q1 = oi := by
      rw [r1] at ri
      exact Option.some.inj ri
    subst e1
    have gy := gd y (List.mem_of_getElem? ey)
    have gt : Deeds (ds.take i) := fun z hz => gd z (List.mem_of_mem_take hz)
    have os := replay_os r1 gt
    have ok2 := replay_ok r2 fun z hz => (gd z (List.mem_of_mem_take hz)).1
    walk_at "rd"
    refine ⟨F, x, y, a, q1, o2, cs, A, rfl, hy.keep (But.of (S := fun _ => False) s2) (fun _ _ => id), gy.1, fun ls e => (by have := (gy.2 ls e).1; omega), acc, os, fun o ho => ?_, st, fun r A' H3 acc3 m3 st3 nr own ch => ?_⟩
    · have := ok2.mks o ho
      rw [List.length_take] at this
      omega
    walk_at "rd"
    refine ⟨o2, A', _, rfl, r2, acc3, fun b o e => m3.but.keep _ _ (s2 _ _ e) fun z => ?_, fun b z => ?_⟩
    · rw [fr b z] at e; cases e
    · rcases m3.grow b z with q | q
      · exact fr b q
      · exact Same.free s2 q
  · rintro σ H2 ⟨oi, A, v2, rfl, ri, acc, s2, fr⟩
    rw [lx, List.take_length, rep] at ri
    cases ri
    walk_at "rd"
    exact k a A H2 acc (replay_os rep gd) s2 ha fr

def spLStands (K : PySem.W.Frag) : Sp := fun vs H Q _ => ∃ (b : Addr) (B : Bk) (L : Lay) (a : Addr) (A : AL), vs = [.ref b, .ref a] ∧ BookAt K H b B L ∧ B.ok ∧ AccAt H a B.each A ∧ OsOk B.each ∧ ∀ H', Same H H' → Q (.bl true) H'
theorem len_LStands {K : PySem.W.Frag} {vs : List V} {H : Hp} {Q : VK} {E : XK} (h : spLStands K vs H Q E) : vs.length = 2 := by
  obtain ⟨_, _, _, _, _, rfl, _⟩ := h; rfl
theorem ok_LStands {P : Program} {w : World} {K : PySem.W.Frag} {mg : Str → Option Value} {base : Heap} (T : Tx w K mg) : FnOk P w K mg base CX0 6 (He.fAd K dLStands.at_) (fdO K dLStands.at_) P_LStands (spLStands K) := by
  refine T.f_LStands.ok sc_LStands (fun vs H Q E h => len_LStands h) (fun cdv A outer s H vs Q E hr h => ⟨_, PSs.nox ((pss_cons (ps_if (PW.pt (pw_or (pt_not (pt_val (pe_call (ok_LWhole T) (hr.mono (by decide)) rfl T.g_LWhole T.f_LWhole.kp T.b_LWhole .nil pass0 (pa_cons (pe_meth0 (pv 0) T.cl_Book T.m_Book_orders (ok_BookOrders T) (hr.mono (by decide)) T.b_BookOrders .nil pass0) pa_nil)))) (pw_or1 (pt_cmpR op_ne (pe_meth0 (pv 0) T.cl_Book T.m_Book_orders (ok_BookOrders T) (hr.mono (by decide)) T.b_BookOrders .nil pass0) (pe_callB call_len_seq (by rfl) T.b_len (by decide +kernel) (pa_cons (pv 1) pa_nil)) (nomark _))))) (pss_one (ps_ret pe_bl)) pss_nil)
      (pss_cons (ps_for PassesOwn.never rfl (pi_range1 (by rfl) T.b_range (pa_cons (pe_callB call_len_seq (by rfl) T.b_len (by decide +kernel) (pa_cons (pv 1) pa_nil)) pa_nil)) (pg_name (i := 2) sc_LStands.nd rfl (Or.inl rfl)) (pss_cons (ps_if (pt_not (pt_val (pe_call (ok_LPairsAlike T) (hr.mono (by decide)) rfl T.g_LPairsAlike T.f_LPairsAlike.kp T.b_LPairsAlike .nil pass0 (pa_cons (pe_meth (pv 0) T.cl_Book T.m_Book_told (ok_BookTold T) (hr.mono (by decide)) T.b_BookTold .nil passL (pa_cons (pv 2) pa_nil)) (pa_cons (pe_call (ok_LLinesTold T) (hr.mono (by decide)) rfl T.g_LLinesTold T.f_LLinesTold.kp T.b_LLinesTold .nil pass0 (pa_cons (pe_ix ix_list (pv 1) (pv 2) (fun _ _ => rfl)) pa_nil)) pa_nil))))) (pss_one (ps_ret pe_bl)) pss_nil)
      (pss_cons (ps_if (PW.pt (pw_or (pt_not (pt_val (pe_call (ok_LWhole T) (hr.mono (by decide)) rfl T.g_LWhole T.f_LWhole.kp T.b_LWhole .nil pass0 (pa_cons (pe_meth (pv 0) T.cl_Book T.m_Book_paid (ok_BookPaid T) (hr.mono (by decide)) T.b_BookPaid .nil passL (pa_cons (pv 2) pa_nil)) pa_nil)))) (pw_or1 (pt_cmpR (op_neD hr.units) (pe_meth (pv 0) T.cl_Book T.m_Book_paid (ok_BookPaid T) (hr.mono (by decide)) T.b_BookPaid .nil passL (pa_cons (pv 2) pa_nil)) (pe_ix ix_list (pe_ix ix_list (pv 1) (pv 2) (fun _ _ => rfl)) pe_int (fun _ _ => rfl)) (nomark _))))) (pss_one (ps_ret pe_bl)) pss_nil)
      (pss_one (ps_if (PW.pt (pw_or (pt_not (pt_val (pe_call (ok_LWhole T) (hr.mono (by decide)) rfl T.g_LWhole T.f_LWhole.kp T.b_LWhole .nil pass0 (pa_cons (pe_meth (pv 0) T.cl_Book T.m_Book_owed (ok_BookOwed T) (hr.mono (by decide)) T.b_BookOwed .nil passL (pa_cons (pv 2) pa_nil)) pa_nil)))) (pw_or1 (pt_cmpR op_ne (pe_meth (pv 0) T.cl_Book T.m_Book_owed (ok_BookOwed T) (hr.mono (by decide)) T.b_BookOwed .nil passL (pa_cons (pv 2) pa_nil)) (pe_call (ok_LOwedBy T) (hr.mono (by decide)) rfl T.g_LOwedBy T.f_LOwedBy.kp T.b_LOwedBy .nil pass0 (pa_cons (pe_ix ix_list (pv 1) (pv 2) (fun _ _ => rfl)) pa_nil)) (nomark _))))) (pss_one (ps_ret pe_bl)) pss_nil)))))
      (pss_one (ps_ret pe_bl))))), ?_⟩)
  obtain ⟨b, B, L, a, A, rfl, bk, ok, acc, os, k⟩ := h
  have f40 := ok.few
  obtain ⟨d0, hb0⟩ := bk.ob
  walk_at "rd"
  refine r_m hb0 (no_Book_orders _ _) ?_
  walk_at "rd"
  refine ⟨b, B, L, rfl, bk, ?_⟩
  walk_at "rd"
  refine ⟨_, rfl, ?_⟩
  walk_at "rd"
  refine r_m hb0 (no_Book_orders _ _) ?_
  walk_at "rd"
  refine ⟨b, B, L, rfl, bk, ?_⟩
  walk_at "rd"
  refine ⟨a, _, rfl, .inl (SqL.of acc.top), ?_⟩
  rw [List.length_map, acc.len]
  walk_at "rd"
  refine r_itn (fun z => absurd rfl z) (fun _ => ?_)
  walk_at "rd"
  refine ⟨a, _, rfl, .inl (SqL.of acc.top), ?_⟩
  rw [List.length_map, acc.len]
  walk_at "rd"
  refine ⟨_, rfl, by omega, by omega, for_range (lo := 0) (n := B.each.length) (fun i σ H' => ∃ v, σ = [some (.ref b), some (.ref a), v] ∧ Same H H') ⟨none, rfl, Same.refl _⟩ ?_ ?_⟩
  · rintro j σ H1 hj ⟨v, rfl, s1⟩
    rw [Int.zero_add]
    have bk1 := bk.same s1
    obtain ⟨d1, hb1⟩ := bk1.ob
    have eo : B.each[j]? = some B.each[j] := List.getElem?_eq_getElem hj
    revert eo
    generalize B.each[j] = o
    intro eo
    have oo := os.2 o (List.mem_of_getElem? eo)
    have bad : ∀ {P : Prop}, ¬ (0 ≤ (j : Int) ∧ (j : Int) < B.each.length) → P := fun z => absurd ⟨by omega, by omega⟩ z
    have eq : ∀ {j' : Nat} {o' : Od}, (j : Int) = (j' : Int) → B.each[j']? = some o' → o' = o := fun {j' o'} e1 e2 => by
      have : j = j' := by omega
      subst this
      rw [eo] at e2
      exact (Option.some.inj e2).symm
    walk_at "rd"
    refine r_m hb1 (no_Book_told _ _) ?_
    walk_at "rd"
    refine ⟨b, B, L, _, rfl, bk1, ok, fun z => bad z, fun j' o' e1 e2 r H2 xs s2 nr er pr => ?_⟩
    obtain rfl := eq e1 e2
    have bk2 := bk1.same s2
    have acc2 := acc.same (s1.trans s2)
    obtain ⟨p, ep, O, ev⟩ := acc_at acc2 eo
    walk_at "rd"
    refine r_ixL (SqL.of acc2.top) (atI_get rfl ev) ?_
    walk_at "rd"
    refine ⟨p, o', rfl, O, oo.1, fun q H3 s3 nq rq => ?_⟩
    have bk3 := bk2.same s3
    have acc3 := acc2.same s3
    obtain ⟨d3, hb3⟩ := bk3.ob
    have rok := told_ok oo.2.2.1
    walk_at "rd"
    refine ⟨r, q, _, rfl, ⟨xs, s3 _ _ er, tup_keep (But.of (S := fun _ => False) s3) (td_rows pr)⟩, rq, rok, by rw [List.length_map]; have := oo.1.few; omega, ?_⟩
    walk_at "rd"
    refine r_m hb3 (no_Book_paid _ _) ?_
    walk_at "rd"
    refine ⟨b, B, L, _, rfl, bk3, ok, fun z => bad z, fun j' o5 e1 e2 => ?_⟩
    obtain rfl := eq e1 e2
    walk_at "rd"
    refine ⟨_, rfl, ?_⟩
    walk_at "rd"
    refine r_m hb3 (no_Book_paid _ _) ?_
    walk_at "rd"
    refine ⟨b, B, L, _, rfl, bk3, ok, fun z => bad z, fun j' o3 e1 e2 => ?_⟩
    obtain rfl := eq e1 e2
    obtain ⟨p4, ep4, O4, ev4⟩ := acc_at acc3 eo
    walk_at "rd"
    refine r_ixL (SqL.of acc3.top) (atI_get rfl ev4) ?_
    walk_at "rd"
    refine r_ixL (SqL.of O4.ob) (atI_get (j := 1) rfl rfl) ?_
    refine r_neSS Sc.int Sc.int ?_
    walk_at "rd"
    refine r_itn (fun z => absurd rfl z) (fun _ => ?_)
    walk_at "rd"
    refine r_m hb3 (no_Book_owed _ _) ?_
    walk_at "rd"
    refine ⟨b, B, L, _, rfl, bk3, ok, fun z => bad z, fun j' o4 e1 e2 H5 s5 => ?_⟩
    obtain rfl := eq e1 e2
    walk_at "rd"
    refine ⟨_, rfl, ?_⟩
    have bk5 := bk3.same s5
    have acc5 := acc3.same s5
    obtain ⟨d5, hb5⟩ := bk5.ob
    walk_at "rd"
    refine r_m hb5 (no_Book_owed _ _) ?_
    walk_at "rd"
    refine ⟨b, B, L, _, rfl, bk5, ok, fun z => bad z, fun j' o5 e1 e2 H6 s6 => ?_⟩
    obtain rfl := eq e1 e2
    have acc6 := acc5.same s6
    obtain ⟨p6, ep6, O6, ev6⟩ := acc_at acc6 eo
    walk_at "rd"
    refine r_ixL (SqL.of acc6.top) (atI_get rfl ev6) ?_
    walk_at "rd"
    refine ⟨p6, _, rfl, O6, oo.1, fun H7 s7 => ?_⟩
    walk_at "rd"
    refine r_itn (fun z => absurd rfl z) (fun _ => ?_)
    walk_at "rd"
    exact ⟨_, rfl, ((((s1.trans s2).trans s3).trans s5).trans s6).trans s7⟩
  · rintro σ H1 ⟨v, rfl, s1⟩
    walk_at "rd"
    exact k _ s1
/-! ### a book, by the deeds that stand -/
def spLStandsBy (K : PySem.W.Frag) : Sp := fun vs H Q _ => ∃ (F : Addr → Prop) (b : Addr) (B : Bk) (L : Lay) (dl : Addr) (xs : List V), vs = [.ref b, .ref dl] ∧ BookAt K H b B L ∧ B.ok ∧ H dl = some (.lst xs) ∧ Paired (DdAt F H) xs B.trail ∧ Deeds B.trail ∧ B.trail.length ≤ 5000 ∧ Hist B ∧
  ∀ H', Same H H' → Q (.bl true) H'
theorem len_LStandsBy {K : PySem.W.Frag} {vs : List V} {H : Hp} {Q : VK} {E : XK} (h : spLStandsBy K vs H Q E) : vs.length = 2 := by
  obtain ⟨_, _, _, _, _, _, rfl, _⟩ := h; rfl
theorem ok_LStandsBy {P : Program} {w : World} {K : PySem.W.Frag} {mg : Str → Option Value} {base : Heap} (T : Tx w K mg) : FnOk P w K mg base CX0 7 (He.fAd K dLStandsBy.at_) (fdO K dLStandsBy.at_) P_LStandsBy (spLStandsBy K) := by
  refine T.f_LStandsBy.ok sc_LStandsBy (fun vs H Q E h => len_LStandsBy h) (fun cdv A outer s H vs Q E hr h => ⟨_, PSs.nox ((pss_cons (ps_set (i := 2) sc_LStandsBy.nd rfl (Or.inl rfl) (pe_call (ok_LModelOf T) (hr.mono (by decide)) rfl T.g_LModelOf T.f_LModelOf.kp T.b_LModelOf .nil pass0 (pa_cons (pv 1) pa_nil)))
      (pss_cons (ps_if (pt_not (pt_val (pe_call (ok_LStands T) (hr.mono (by decide)) rfl T.g_LStands T.f_LStands.kp T.b_LStands .nil pass0 (pa_cons (pv 0) (pa_cons (pv 2) pa_nil))))) (pss_one (ps_ret pe_bl)) pss_nil)
      (pss_cons (ps_for PassesOwn.never rfl (pi_range1 (by rfl) T.b_range (pa_cons (pe_callB call_len_seq (by rfl) T.b_len (by decide +kernel) (pa_cons (pv 2) pa_nil)) pa_nil)) (pg_name (i := 3) sc_LStandsBy.nd rfl (Or.inl rfl)) (pss_cons (ps_if (pt_not (pt_val (pe_call (ok_LRowsAlike T) (hr.mono (by decide)) rfl T.g_LRowsAlike T.f_LRowsAlike.kp T.b_LRowsAlike .nil pass0 (pa_cons (pe_meth (pv 0) T.cl_Book T.m_Book_rows (ok_BookRows T) (hr.mono (by decide)) T.b_BookRows .nil passL (pa_cons (pv 3) pa_nil)) (pa_cons (pe_ix ix_list (pe_ix ix_list (pv 2) (pv 3) (fun _ _ => rfl)) pe_int (fun _ _ => rfl)) pa_nil))))) (pss_one (ps_ret pe_bl)) pss_nil)
      (pss_cons (ps_set (i := 4) sc_LStandsBy.nd rfl (Or.inl rfl) (pe_meth (pv 0) T.cl_Book T.m_Book_settled (ok_BookSettled T) (hr.mono (by decide)) T.b_BookSettled .nil passL (pa_cons (pv 3) pa_nil)))
      (pss_one (ps_if (PW.pt (pw_or (pt_not (pt_val (pe_callB call_isi (by rfl) T.b_isinstance (by decide +kernel) (pa_cons (pv 4) (pa_cons (pe_bltn (v := .ty "list") (by rfl) T.b_list (by decide +kernel) rfl) pa_nil))))) (pw_or1 (pt_not (pt_val (pe_call (ok_LMatchedWell T) (hr.mono (by decide)) rfl T.g_LMatchedWell T.f_LMatchedWell.kp T.b_LMatchedWell .nil pass0 (pa_cons (pe_lc (own := [("_law_row", 5)]) (g := gName 5) (tt := tYes) rfl sc_LStandsBy.nd (pi_list (pe_ix ix_list (pe_ix ix_list (pv 2) (pv 3) (fun _ _ => rfl)) pe_int (fun _ _ => rfl))) (blkOk_by (N := N_LStandsBy) (sc := defScope sLStandsBy) (by decide +kernel)) (fun _ _ _ _ _ => pg_name (i := 5) sc_LStandsBy.nd rfl (Or.inl rfl)) (fun _ _ _ _ _ => pts_nil) (fun _ _ _ _ _ => (pe_ix (ix_tupK (K := K) rfl) (pv 5) pe_int (fun _ _ => rfl)))) (pa_cons (pv 4) pa_nil)))))))) (pss_one (ps_ret pe_bl)) pss_nil)))))
      (pss_one (ps_ret pe_bl)))))), ?_⟩)
  obtain ⟨F, b, B, L, dl, xs, rfl, bk, ok, hd, pd, gd, few, hi, k⟩ := h
  have f40 := ok.few
  walk_at "rd"
  refine ⟨F, dl, xs, B.trail, B.each, rfl, hd, pd, gd, few, hi, fun a A H1 acc os s1 na _ => ?_⟩
  have bk1 := bk.same s1
  walk_at "rd"
  refine ⟨b, B, L, a, A, rfl, bk1, ok, acc, os, fun H2 s2 => ?_⟩
  have bk2 := bk1.same s2
  have acc2 := acc.same s2
  walk_at "rd"
  refine ⟨a, _, rfl, .inl (SqL.of acc2.top), ?_⟩
  rw [List.length_map, acc2.len]
  walk_at "rd"
  refine ⟨_, rfl, by omega, by omega, for_range (lo := 0) (n := B.each.length) (fun i σ H' => ∃ v3 v4, σ = [some (.ref b), some (.ref dl), some (.ref a), v3, v4, none] ∧ Same H2 H') ⟨none, none, rfl, Same.refl _⟩ ?_ ?_⟩
  · rintro j σ H3 hj ⟨v3, v4, rfl, s3⟩
    rw [Int.zero_add]
    have bk3 := bk2.same s3
    obtain ⟨d3, hb3⟩ := bk3.ob
    have eo : B.each[j]? = some B.each[j] := List.getElem?_eq_getElem hj
    revert eo
    generalize B.each[j] = o
    intro eo
    have oo := os.2 o (List.mem_of_getElem? eo)
    have om := ok.mks o (List.mem_of_getElem? eo)
    have bad : ∀ {P : Prop}, ¬ (0 ≤ (j : Int) ∧ (j : Int) < B.each.length) → P := fun z => absurd ⟨by omega, by omega⟩ z
    have eq : ∀ {j' : Nat} {o' : Od}, (j : Int) = (j' : Int) → B.each[j']? = some o' → o' = o := fun {j' o'} e1 e2 => by
      have : j = j' := by omega
      subst this
      rw [eo] at e2
      exact (Option.some.inj e2).symm
    walk_at "rd"
    refine r_m hb3 (no_Book_rows _ _) ?_
    walk_at "rd"
    refine ⟨b, B, L, _, rfl, bk3, ok, fun z => bad z, fun j' o2 e1 e2 r1 H4 xs1 s4 nr1 er1 pr1 => ?_⟩
    obtain rfl := eq e1 e2
    have bk4 := bk3.same s4
    have acc4 := acc2.same (s3.trans s4)
    obtain ⟨d4, hb4⟩ := bk4.ob
    obtain ⟨p, ep, O, ev⟩ := acc_at acc4 eo
    obtain ⟨ts, ets, pts⟩ := O.rws
    walk_at "rd"
    refine r_ixL (SqL.of acc4.top) (atI_get rfl ev) ?_
    walk_at "rd"
    refine r_ixL (SqL.of O.ob) (atI_get (j := 2) rfl rfl) ?_
    walk_at "rd"
    refine ⟨r1, p.rw, o2.marks, rfl, ⟨xs1, er1, mk_rows pr1⟩, ⟨ts, ets, mk_rows pts⟩, oo.2.2.2, ?_⟩
    walk_at "rd"
    refine r_m hb4 (no_Book_settled _ _) ?_
    walk_at "rd"
    refine ⟨b, B, L, _, rfl, bk4, ok, fun z => bad z, fun j' o4 e1 e2 => ⟨by rw [eq e1 e2]; omega, fun r3 xs3 H5 s5 nr3 er3 pr3 l3 => ?_⟩⟩
    obtain rfl := eq e1 e2
    have acc5 := acc4.same s5
    obtain ⟨p5, ep5, O5, ev5⟩ := acc_at acc5 eo
    obtain ⟨ts5, ets5, pts5⟩ := O5.rws
    walk_at "rd"
    refine r_is_lst_list er3 ?_
    walk_at "rd"
    refine r_ixL (SqL.of acc5.top) (atI_get rfl ev5) ?_
    walk_at "rd"
    refine r_ixL (SqL.of O5.ob) (atI_get (j := 2) rfl rfl) ?_
    refine lcp_list (ys := (o4.marks.map (·.2)).map V.int) (SqL.of ets5) (by simp [pts5.length]) (by rw [pts5.length]; omega) ?_ ?_
    · intro i x y H' R ex ey s q
      obtain ⟨m, em, t, rfl, ht⟩ := pr_ex pts5 ex
      rw [List.getElem?_map, List.getElem?_map, em] at ey
      cases ey
      walk_at "rd"
      refine r_ixT (SqT.of (s _ _ ht)) (atI_get (j := 1) rfl rfl) ?_
      exact q _ (Same.refl _)
    intro D H6 hD s6 eD
    walk_at "rd"
    refine ⟨D, r3, o4.marks.map (·.2), _, rfl, SqL.of eD, by rw [List.length_map]; omega, ⟨xs3, s6 _ _ er3, tup_keep (But.of (S := fun _ => False) s6) pr3⟩, by omega, matched_well, matched_sum, fun H7 s7 => ?_⟩
    walk_at "rd"
    exact ⟨_, _, rfl, (((s3.trans s4).trans s5).trans s6).trans s7⟩
  · rintro σ H3 ⟨v3, v4, rfl, s3⟩
    walk_at "rd"
    exact k _ ((s1.trans s2).trans s3)

/-! ### one taken back -/
theorem cut_last {xs : List V} {n : Nat} (h : xs.length = n + 1) : cutV xs none (some (-1)) = xs.take n := by
  unfold cutV
  have q : HT.sIx xs.length xs.length (some (-1)) = n := by
    unfold HT.sIx
    dsimp only
    rw [if_pos (by decide)]
    omega
  rw [q, HT.sIx_none, List.drop_zero, Nat.sub_zero]
theorem pr_take {α β : Type} {F : α → β → Prop} : ∀ {l : List α} {m : List β} (n : Nat), Paired F l m → Paired F (l.take n) (m.take n)
  | _, _, 0, _ => by rw [List.take_zero, List.take_zero]; exact .nil
  | _, _, n + 1, .nil => .nil
  | _, _, n + 1, .cons h t => .cons h (pr_take n t)
theorem item_plain {d : Dd} (g : ∀ ls, d = .ord ls → Good ls) : d.plain := Good.plain g
/-- from a deed's words: no order, by its first part -/
theorem dd_first {F : Addr → Prop} {H : Hp} {v : V} {d : Dd} (g : d.good) (h : DdAt F H v d) : ∃ t r, v = .ref t ∧ H t = some (.tup (.str (word d) :: r)) := by
  by_cases no : ∃ ls, d = .ord ls
  · obtain ⟨ls, rfl⟩ := no
    obtain ⟨t, l, xs, e, ht, _⟩ := h
    exact ⟨t, _, e, ht⟩
  · obtain ⟨t, r, e, ht, _⟩ := dd_row g h fun ls e => no ⟨ls, e⟩
    exact ⟨t, r, e, ht⟩
def spLBack (K : PySem.W.Frag) : Sp := fun vs H Q _ => ∃ (b : Addr) (B : Bk) (L : Lay) (dl : Addr) (xs : List V) (ds : List Dd) (d : Dd), vs = [.ref b, .ref dl] ∧ BookAt K H b B L ∧ B.ok ∧ B.trail = ds ++ [d] ∧ Hist B ∧ Deeds B.trail ∧ B.trail.length ≤ 5000 ∧ H dl = some (.lst xs) ∧ L.own dl = .no ∧
  Paired (DdAt (fun l => L.own l = .no) H) xs B.trail ∧ ∀ L' H' es, replay [] ds = some es → BookAt K H' b ⟨es, ds⟩ L' → Mod L L' H H' → Stay H H' → Q (.bl true) H'
theorem len_LBack {K : PySem.W.Frag} {vs : List V} {H : Hp} {Q : VK} {E : XK} (h : spLBack K vs H Q E) : vs.length = 2 := by
  obtain ⟨_, _, _, _, _, _, _, rfl, _⟩ := h; rfl
theorem ok_LBack {P : Program} {w : World} {K : PySem.W.Frag} {mg : Str → Option Value} {base : Heap} (T : Tx w K mg) : FnOk P w K mg base CX0 9 (He.fAd K dLBack.at_) (fdO K dLBack.at_) P_LBack (spLBack K) := by
  refine T.f_LBack.ok sc_LBack (fun vs H Q E h => len_LBack h) (fun cdv A outer s H vs Q E hr h => ⟨_, PSs.nox ((pss_cons (ps_set (i := 2) sc_LBack.nd rfl (Or.inl rfl) (pe_meth0 (pv 0) T.cl_Book T.m_Book_undo (ok_BookUndo T) (hr.mono (by decide)) T.b_BookUndo .nil passL))
      (pss_cons (ps_if (pt_not (pt_val (pe_call (ok_LDeedAlike T) (hr.mono (by decide)) rfl T.g_LDeedAlike T.f_LDeedAlike.kp T.b_LDeedAlike .nil pass0 (pa_cons (pv 2) (pa_cons (pe_ix ix_list (pv 1) (pe_op op_sub (pe_callB call_len_seq (by rfl) T.b_len (by decide +kernel) (pa_cons (pv 1) pa_nil)) pe_int) (fun _ _ => rfl)) pa_nil))))) (pss_one (ps_ret pe_bl)) pss_nil)
      (pss_cons (ps_if (pt_cmpR op_eq (pe_ix ix_tup (pv 2) pe_int (fun _ _ => rfl)) pe_str (nomark _)) (pss_one (ps_expr (pe_bm PySem.F.plainAttrs_list PySem.F.slot_list_append PySem.F.type_list_append mt_append (pe_ix ix_tup (pv 2) pe_int (fun _ _ => rfl)) (pa_cons (pe_tup (pa_cons pe_str (pa_cons pe_int (pa_cons pe_int (pa_cons pe_int pa_nil))))) pa_nil)))) pss_nil)
      (pss_one (ps_ret (pe_call (ok_LStandsBy T) (hr.mono (by decide)) rfl T.g_LStandsBy T.f_LStandsBy.kp T.b_LStandsBy .nil pass0 (pa_cons (pv 0) (pa_cons (pe_slice sl_list (pv 1) po_none (po_some (pe_un un_neg pe_int))) pa_nil))))))))), ?_⟩)
  obtain ⟨b, B, L, dl, xs, ds, d, rfl, bk, ok, tr, hi, gd, few, hdl, ndl, pd, k⟩ := h
  obtain ⟨dx, hb⟩ := bk.ob
  have lx : xs.length = ds.length + 1 := by rw [pd.length, tr]; simp
  have ft : ds.length + 1 ≤ 5000 := by
    rw [tr] at few
    simpa using few
  walk_at "rd"
  refine r_m hb (no_Book_undo _ _) ?_
  walk_at "rd"
  refine ⟨b, B, L, rfl, bk, ok, by omega, hi, (fun z => by rw [z] at tr; simp at tr), fun ds' d' es e rep v L1 H1 bk1 m1 st1 hv => ?_⟩
  obtain ⟨rfl, rfl⟩ : ds' = ds ∧ d' = d := by
    rw [tr] at e
    obtain ⟨a, c⟩ := List.append_inj' e rfl
    exact ⟨a.symm, by simpa using c.symm⟩
  have gdd := gd d' (by rw [tr]; simp)
  have gds : Deeds ds' := fun x hx => gd x (by rw [tr]; exact List.mem_append_left _ hx)
  have out : ∀ {x : Addr}, L.own x = .no → ¬ L.foot x := fun {x} q f => f q
  have hdl1 := m1.but.keep _ _ hdl (out ndl)
  have pd1 : Paired (DdAt (fun l => L.own l = .no) H1) xs B.trail := Paired.mapP pd fun _ _ q => q.keep m1.but fun a f => out f
  obtain ⟨u, eu⟩ : ∃ u, xs[ds'.length]? = some u := ⟨_, List.getElem?_eq_getElem (by omega)⟩
  obtain ⟨y, ey, hu⟩ := pr_ex pd1 eu
  obtain rfl : d' = y := by
    rw [tr, List.getElem?_append_right (Nat.le_refl _), Nat.sub_self] at ey
    exact Option.some.inj ey
  obtain ⟨t, r0, rfl, ht⟩ := dd_first gdd.1 hv
  walk_at "rd"
  refine ⟨dl, _, rfl, .inl (SqL.of hdl1), ?_⟩
  rw [lx]
  walk_at "rd"
  refine r_ixL (SqL.of hdl1) (atI_get (j := ds'.length) (by omega) eu) ?_
  walk_at "rd"
  refine ⟨_, _, .ref t, u, d', rfl, hv, hu, gdd.1, Good.plain gdd.2, fun ls e => (by have := (gdd.2 ls e).1; omega), ?_⟩
  walk_at "rs"
  with_reducible refine r_join (fun σ' H' => σ' = [some (.ref b), some (.ref dl), some (.ref t)] ∧ BookAt K H' b ⟨es, ds'⟩ L1 ∧ Mod L L1 H H' ∧ Stay H H' ∧ H' dl = some (.lst xs) ∧ Paired (DdAt (fun l => L.own l = .no) H') xs B.trail) ?_ fun N hN => ?_
  rotate_left
  · walk_at "rd"
    refine r_ixT (SqT.of ht) (atI_get (j := 0) rfl rfl) ?_
    walk_at "rd"
    by_cases no : ∃ ls, d' = .ord ls
    · obtain ⟨ls, rfl⟩ := no
      obtain ⟨t2, l, ys, e2, ht2, hl, fl, pl⟩ := hv
      cases e2
      rw [ht] at ht2
      have ht3 := ht
      rw [show HO.tup (.str (word (.ord ls)) :: r0) = .tup [.str "order", .ref l] from Option.some.inj ht2] at ht3
      have few2 := (gdd.2 ls rfl).1
      refine r_ity rfl ?_
      walk_at "rd"
      refine r_ixT (SqT.of ht3) (atI_get (j := 1) rfl rfl) ?_
      refine r_tyL (SqL.of hl) ?_
      walk_at "rd"
      refine r_mk (by simp) fun t9 ht9 => ?_
      have s9 := same_upd (o := .tup [.str "cup", .int 1, .int 1, .int 1]) ht9
      walk_at "rd"
      refine r_app (s9 _ _ hl) (by rw [pl.length]; exact sz5l (by omega)) ?_
      have b9 : But (· = l) H1 (upd (upd H1 t9 (.tup [.str "cup", .int 1, .int 1, .int 1])) l (.lst (ys ++ [.ref t9]))) := (But.of s9).trans (But.lst (s9 _ _ hl) rfl)
      have st9 : Stay H1 (upd (upd H1 t9 (.tup [.str "cup", .int 1, .int 1, .int 1])) l (.lst (ys ++ [.ref t9]))) := fun x e => Same.free s9 (stay_lst (s9 _ _ hl) x e)
      walk_at "rd"
      refine hN _ _ ⟨rfl, bk1.keep b9 fun x z y => z (by rw [y]; exact fl.1.1), ⟨m1.but.trans (b9.mono fun x y => by rw [y]; exact fl.2), m1.grow⟩, fun x e => st1 x (st9 x e), b9.keep _ _ hdl1 (fun y => fl.2 (by rw [← y]; exact ndl)), Paired.mapP pd1 fun _ _ q => q.keep b9 fun a f y => fl.2 (by rw [← y]; exact f)⟩
    · obtain ⟨_, _, _, _, _, wn, _⟩ := dd_row gdd.1 hv fun ls e => no ⟨ls, e⟩
      refine r_itz wn ?_
      walk_at "rd"
      exact hN _ _ ⟨rfl, bk1, m1, st1, hdl1, pd1⟩
  rintro σ' H2 ⟨rfl, bk2, m2, st2, hdl2, pd2⟩
  walk_at "rd"
  refine r_sll (SqL.of hdl2) fun p hp => ?_
  rw [cut_last lx]
  have s3 := same_upd (o := .lst (xs.take ds'.length)) hp
  have pt := pr_take ds'.length pd2
  rw [tr, List.take_left] at pt
  walk_at "rd"
  refine ⟨_, b, ⟨es, ds'⟩, L1, p, _, rfl, bk2.same s3, replay_ok rep fun x hx => (gds x hx).1, upd_same, Paired.mapP pt fun _ _ q => q.keep (But.of (S := fun _ => False) s3) fun _ _ => id, gds, by show ds'.length ≤ 5000; omega, rep, fun H4 s4 => ?_⟩
  have s34 := s3.trans s4
  exact k L1 H4 es rep (bk2.same s34) ⟨m2.but.trans (But.of s34), m2.grow⟩ fun x e => st2 x (Same.free s34 e)
/-! ### one done -/
def doneB (B : Bk) (d : Dd) : Bk := match step B.each d with
  | .error _ => B
  | .ok (es, _) => ⟨es, B.trail ++ [d]⟩
theorem done_err {B : Bk} {d : Dd} {e : Er} (h : step B.each d = .error e) : doneB B d = B := by unfold doneB; rw [h]
theorem done_ok {B : Bk} {d : Dd} {es : List Od} {cs : List (Int × Int)} (h : step B.each d = .ok (es, cs)) : doneB B d = ⟨es, B.trail ++ [d]⟩ := by unfold doneB; rw [h]
def spLDone (K : PySem.W.Frag) : Sp := fun vs H Q _ => ∃ (b : Addr) (B : Bk) (L : Lay) (v : V) (d : Dd), vs = [.ref b, v] ∧ BookAt K H b B L ∧ B.ok ∧ B.trail.length < 90000 ∧ DdAt (fun l => L.own l = .no) H v d ∧ d.good ∧ (∀ ls, d = .ord ls → Good ls) ∧
  ∀ v' L' H', BookAt K H' b (doneB B d) L' → Mod L L' H H' → Stay H H' → Q v' H'
theorem len_LDone {K : PySem.W.Frag} {vs : List V} {H : Hp} {Q : VK} {E : XK} (h : spLDone K vs H Q E) : vs.length = 2 := by
  obtain ⟨_, _, _, _, _, rfl, _⟩ := h; rfl
theorem ok_LDone {P : Program} {w : World} {K : PySem.W.Frag} {mg : Str → Option Value} {base : Heap} (T : Tx w K mg) : FnOk P w K mg base CX0 9 (He.fAd K dLDone.at_) (fdO K dLDone.at_) P_LDone (spLDone K) := by
  refine T.f_LDone.ok sc_LDone (fun vs H Q E h => len_LDone h) (fun cdv A outer s H vs Q E hr h => ⟨_, PSs.nox ((pss_cons (ps_set (i := 2) sc_LDone.nd rfl (Or.inl rfl) (pe_call (ok_LHanded T) (hr.mono (by decide)) rfl T.g_LHanded T.f_LHanded.kp T.b_LHanded .nil pass0 (pa_cons (pv 1) pa_nil)))
      (pss_cons (ps_set (i := 3) sc_LDone.nd rfl (Or.inl rfl) (pe_call (ok_LTried T) (hr.mono (by decide)) rfl T.g_LTried T.f_LTried.kp T.b_LTried .nil pass0 (pa_cons (pv 0) (pa_cons (pv 2) pa_nil))))
      (pss_cons (ps_if (pt_val (pe_callB call_isi (by rfl) T.b_isinstance (by decide +kernel) (pa_cons (pv 3) (pa_cons (pe_bltn (v := .ty "list") (by rfl) T.b_list (by decide +kernel) rfl) pa_nil)))) (pss_one (ps_expr (pe_bm PySem.F.plainAttrs_list PySem.F.slot_list_append PySem.F.type_list_append mt_append (pv 3) (pa_cons (pe_tup (pa_cons pe_int (pa_cons pe_int pa_nil))) pa_nil)))) pss_nil)
      (pss_cons (ps_if (pt_cmpR op_eq (pe_ix ix_tup (pv 1) pe_int (fun _ _ => rfl)) pe_str (nomark _)) (pss_one (ps_expr (pe_bm PySem.F.plainAttrs_list PySem.F.slot_list_append PySem.F.type_list_append mt_append (pe_ix ix_tup (pv 2) pe_int (fun _ _ => rfl)) (pa_cons (pe_tup (pa_cons pe_str (pa_cons pe_int (pa_cons pe_int (pa_cons pe_int pa_nil))))) pa_nil)))) pss_nil)
      (pss_one (ps_ret (pv 2)))))))), ?_⟩)
  obtain ⟨b, B, L, v, d, rfl, bk, ok, hz, hd, g, gd, k⟩ := h
  obtain ⟨dx, hb⟩ := bk.ob
  have few := Good.few' gd
  walk_at "rd"
  refine ⟨_, v, d, rfl, hd, g, fun v' H1 s1 hd1 => ?_⟩
  have bk1 := bk.same s1
  have hd1' : DdAt (fun a => L.own a = .no) H1 v' d := by
    by_cases no : ∃ ls, d = .ord ls
    · obtain ⟨ls, e⟩ := no
      exact hd1.imp fun a f _ => bk.fresh (f ls e)
    · cases d with
      | ord ls => exact absurd ⟨ls, rfl⟩ no
      | ln _ _ _ _ => exact hd1
      | mo _ _ _ => exact hd1
      | mv _ _ _ => exact hd1
  have hdv := hd.keep (But.of (S := fun _ => False) s1) fun _ _ => id
  walk_at "rd"
  refine ⟨b, B, L, v', rfl, bk1, ok, by omega, d, hd1', g, few, ?_⟩
  refine tried_by (fun f H2 => ∃ L', BookAt K H2 b (doneB B d) L' ∧ Mod L L' H1 H2 ∧ Stay H1 H2 ∧ ((∃ z : Str, f = .str z) ∨ ∃ r xs, f = .ref r ∧ H2 r = some (.lst xs) ∧ xs.length ≤ 2 ∧ H1 r = none ∧ L'.own r = .no)) (fun f H2 oc => ?_) ?_
  rotate_left
  · refine ⟨fun e q => ⟨ers_all q, fun H' s => ⟨L, by rw [done_err q]; exact bk1.same s, Mod.same s, Stay.of s, .inl ⟨_, rfl⟩⟩⟩, fun es cs q r L' H' a b c e f ⟨xs, ex, px⟩ => ⟨L', by rw [done_ok q]; exact a, b, c, .inr ⟨r, xs, rfl, ex, by rw [px.length]; exact cs_len q, e, f⟩⟩⟩
  obtain ⟨L2, bk2, m2, st2, fk⟩ := oc
  obtain ⟨t, r0, rfl, ht⟩ := dd_first g hdv
  obtain ⟨t', r1, rfl, ht'⟩ := dd_first g hd1'
  walk_at "rs"
  have m02 : Mod L L2 H H2 := (Mod.same s1).trans m2 (Stay.of s1)
  have st02 : Stay H H2 := (Stay.of s1).trans st2
  have hd2 : DdAt (fun a => (∀ ls, d = .ord ls → H a = none) ∧ L2.own a = .no) H2 (.ref t') d := by
    by_cases no : ∃ ls, d = .ord ls
    · obtain ⟨ls, e⟩ := no
      subst e
      obtain ⟨t3, l, ys, e3, h3, hl, fl, pl⟩ := hd1
      have nl : L.own l = .no := bk.fresh (fl ls rfl)
      obtain ⟨a1, a2⟩ := m2.no hl nl
      exact ⟨t3, l, ys, e3, m2.but.tup _ _ h3, a1, ⟨fl, a2⟩, m2.but.lts pl⟩
    · cases d with
      | ord ls => exact absurd ⟨ls, rfl⟩ no
      | ln _ _ _ _ => exact (DdAt.keep (F := fun _ => False) (S := L.foot) (d := .ln _ _ _ _) hd1 m2.but fun _ f => f.elim)
      | mo _ _ _ => exact (DdAt.keep (F := fun _ => False) (S := L.foot) (d := .mo _ _ _) hd1 m2.but fun _ f => f.elim)
      | mv _ _ _ => exact (DdAt.keep (F := fun _ => False) (S := L.foot) (d := .mv _ _ _) hd1 m2.but fun _ f => f.elim)
  have ht2 := m2.but.tup _ _ ht
  have ht2' := m2.but.tup _ _ ht'
  with_reducible refine r_join (fun σ' H' => σ' = [some (.ref b), some (.ref t), some (.ref t'), some f] ∧ BookAt K H' b (doneB B d) L2 ∧ Mod L L2 H H' ∧ Stay H H' ∧ H' t = some (.tup (.str (word d) :: r0)) ∧ DdAt (fun a => (∀ ls, d = .ord ls → H a = none) ∧ L2.own a = .no) H' (.ref t') d) ?_ fun N hN => ?_
  rotate_left
  · walk_at "rd"
    rcases fk with ⟨z, rfl⟩ | ⟨r, xs, rfl, er, lr, nr, nor⟩
    · walk_at "rd"
      exact hN _ _ ⟨rfl, bk2, m02, st02, ht2, hd2⟩
    · refine r_is_lst_list er ?_
      walk_at "rd"
      refine r_tyL (SqL.of er) ?_
      walk_at "rd"
      refine r_mk (by simp) fun t9 ht9 => ?_
      have s9 := same_upd (o := .tup [.int 0, .int 9]) ht9
      walk_at "rd"
      refine r_app (s9 _ _ er) (by exact sz5l (by omega)) ?_
      have b9 : But (· = r) H2 (upd (upd H2 t9 (.tup [.int 0, .int 9])) r (.lst (xs ++ [.ref t9]))) := (But.of s9).trans (But.lst (s9 _ _ er) rfl)
      have st9 : Stay H2 (upd (upd H2 t9 (.tup [.int 0, .int 9])) r (.lst (xs ++ [.ref t9]))) := fun x e => Same.free s9 (stay_lst (s9 _ _ er) x e)
      have nrH : H r = none := Same.free s1 nr
      walk_at "rd"
      refine hN _ _ ⟨rfl, bk2.keep b9 fun x z y => z (by rw [y]; exact nor), ⟨m02.but.mut b9 fun x y => .inr (by rw [y]; exact nrH), m02.grow⟩, fun x e => st02 x (st9 x e), b9.tup _ _ ht2, ?_⟩
      by_cases no : ∃ ls, d = .ord ls
      · obtain ⟨ls, e⟩ := no
        subst e
        obtain ⟨t3, l, ys, e3, h3, hl, fl, pl⟩ := hd2
        have lr : l ≠ r := fun y => by
          obtain ⟨t4, l4, ys4, e4, h4, hl4, _⟩ := hd1
          cases e3
          cases e4
          have h5 := m2.but.tup _ _ h4
          rw [h3] at h5
          cases h5
          rw [y, nr] at hl4
          cases hl4
        exact ⟨t3, l, ys, e3, b9.tup _ _ h3, b9.keep _ _ hl lr, fl, b9.lts pl⟩
      · cases d with
        | ord ls => exact absurd ⟨ls, rfl⟩ no
        | ln _ _ _ _ => exact (DdAt.keep (F := fun _ => False) (d := .ln _ _ _ _) hd2 b9 fun _ f => f.elim)
        | mo _ _ _ => exact (DdAt.keep (F := fun _ => False) (d := .mo _ _ _) hd2 b9 fun _ f => f.elim)
        | mv _ _ _ => exact (DdAt.keep (F := fun _ => False) (d := .mv _ _ _) hd2 b9 fun _ f => f.elim)
  rintro σ' H3 ⟨rfl, bk3, m3, st3, ht3, hd3⟩
  walk_at "rd"
  refine r_ixT (SqT.of ht3) (atI_get (j := 0) rfl rfl) ?_
  walk_at "rd"
  by_cases no : ∃ ls, d = .ord ls
  · obtain ⟨ls, e⟩ := no
    subst e
    obtain ⟨t4, l, ys, e4, h4, hl, fl, pl⟩ := hd3
    cases e4
    have lf := (gd ls rfl).1
    refine r_ity rfl ?_
    walk_at "rd"
    refine r_ixT (SqT.of h4) (atI_get (j := 1) rfl rfl) ?_
    refine r_tyL (SqL.of hl) ?_
    walk_at "rd"
    refine r_mk (by simp) fun t9 ht9 => ?_
    have s9 := same_upd (o := .tup [.str "cup", .int 1, .int 1, .int 1]) ht9
    walk_at "rd"
    refine r_app (s9 _ _ hl) (by rw [pl.length]; exact sz5l (by omega)) ?_
    have b9 : But (· = l) H3 (upd (upd H3 t9 (.tup [.str "cup", .int 1, .int 1, .int 1])) l (.lst (ys ++ [.ref t9]))) := (But.of s9).trans (But.lst (s9 _ _ hl) rfl)
    walk_at "rd"
    exact k _ L2 _ (bk3.keep b9 fun x z y => z (by rw [y]; exact fl.2)) ⟨m3.but.mut b9 fun x y => .inr (by rw [y]; exact fl.1 ls rfl), m3.grow⟩ fun x e => st3 x (Same.free s9 (stay_lst (s9 _ _ hl) x e))
  · have wn : ¬ word d = "order" := by
      obtain ⟨_, _, _, _, _, wn, _⟩ := dd_row g hd3 fun ls e => no ⟨ls, e⟩
      exact wn
    refine r_itz wn ?_
    walk_at "rd"
    exact k _ L2 _ bk3 m3 st3

/-! ### the first deeds -/
theorem lcr_rel {te : TE} {j : Nat} {σ : L2.St} {H1 : Hp} {Q : VK} {n : Int} {α : Type} {R : Hp → V → α → Prop} {zs : List α} (hl : zs.length = n.toNat) (hz : n ≤ 100000) (hn : -100000 ≤ n)
    (stab : ∀ H H' v z, R H v z → (∀ b ys, H b = some (.tup ys) → H' b = some (.tup ys)) → R H' v z)
    (he : ∀ (i : Nat) (z : α) (H' : Hp) (W : VK), zs[i]? = some z → Same H1 H' → (∀ y H'', Same H' H'' → R H'' y z → W y H'') → te ((wipe σ [j]).set j (some (.int (i : Int)))) H' W)
    (k : ∀ (D : Addr) (H' : Hp) (acc : List V), H1 D = none → Same H1 H' → H' D = some (.lst acc) → Paired (R H') acc zs → Q (.ref D) H') : ∃ m : Int, [V.int n] = [V.int m] ∧ -(2 ^ 62) ≤ m ∧ m < 2 ^ 62 ∧ Lcs (Itr 0 m.toNat) (gName j) tYes te [j] σ H1 Q := by
  refine ⟨n, rfl, by omega, by omega, fun D hD => ?_⟩
  refine lc_range (lo := 0) (n := n.toNat) (fun i H' => Same H1 H' ∧ ∃ acc, H' D = some (.lst acc) ∧ Paired (R H') acc (zs.take i)) ⟨same_upd hD, [], upd_same, .nil⟩ ?_ ?_
  · rintro i H' hi ⟨s, acc, e, pr⟩
    have hi2 : i < zs.length := by rw [hl]; exact hi
    have ez : zs[i]? = some zs[i] := List.getElem?_eq_getElem hi2
    refine ⟨wipe1, r_yes (r_itT ?_)⟩
    rw [Int.zero_add]
    refine he i _ H' _ ez s fun y H'' s2 r => ⟨acc, s2 _ _ e, ?_, ?_, acc ++ [y], upd_same, ?_⟩
    · have := pr.length
      rw [List.length_take] at this
      refine sz5l ?_
      omega
    · exact fun b o q => by
        rw [upd_ne (ne_of_none q hD)]
        exact s2 _ _ (s _ _ q)
    · have up : ∀ b ys, H'' b = some (.tup ys) → L2.upd H'' D (.lst (acc ++ [y])) b = some (.tup ys) := fun b ys q => by
        rw [upd_ne (ne_of q (s2 _ _ e) (by intro z; cases z))]
        exact q
      rw [take_snoc ez]
      exact Paired.snoc (Paired.mapP pr fun _ _ q => stab _ _ _ _ q fun b ys w => up b ys (s2 _ _ w)) (stab _ _ _ _ r up)
  · rintro H' ⟨s, acc, e, pr⟩
    rw [List.take_of_length_le (by omega)] at pr
    exact k D H' acc hD s e pr
def payF (n : Nat) : List Dd := .ord [pen1] :: List.replicate n (.mo "pay" 0 1)
theorem pen1_good : Good [pen1] := ⟨⟨by decide, by decide⟩, fun t ht => by rw [List.mem_singleton.mp ht]; exact ⟨pen1_ok.1, pen1_ok.2.1⟩⟩
theorem payF_deeds {n : Nat} : Deeds (payF n) := fun d hd => by
  rcases List.mem_cons.mp hd with rfl | hd
  · exact ⟨trivial, fun ls e => by cases e; exact pen1_good⟩
  · rw [(List.mem_replicate.mp hd).2]
    exact ⟨.inl rfl, fun ls e => by cases e⟩
theorem pay_step {o : Od} {r : List Od} : ∃ es cs, step (o :: r) (.mo "pay" 0 1) = .ok (es, cs) ∧ 1 ≤ es.length := by
  have e : step (o :: r) (.mo "pay" 0 1) = .ok ((o :: r).set 0 (Od.mark (o.pay 1) "pay" ((o.pay 1).owing - o.owing)), [(0, (o.pay 1).owing - o.owing)]) := by
    show stepMo (o :: r) "pay" 0 1 = _
    unfold stepMo
    rw [at_0]
    dsimp only
    rw [if_neg (by decide), if_pos rfl]
  exact ⟨_, _, e, by simp⟩
def spLPaidFirst (K : PySem.W.Frag) : Sp := fun vs H Q _ => ∃ (b : Addr) (L : Lay) (c : Int), vs = [.ref b, .int c] ∧ BookAt K H b ⟨[], []⟩ L ∧
  ∀ dl xs B L' H', BookAt K H' b B L' → B.ok → Hist B → Deeds B.trail → B.trail.length ≤ 100 → H' dl = some (.lst xs) → Paired (DdAt (fun l => L'.own l = .no ∧ H l = none) H') xs B.trail → L'.own dl = .no → H dl = none → Mod L L' H H' → Stay H H' → Q (.ref dl) H'
theorem len_LPaidFirst {K : PySem.W.Frag} {vs : List V} {H : Hp} {Q : VK} {E : XK} (h : spLPaidFirst K vs H Q E) : vs.length = 2 := by
  obtain ⟨_, _, _, rfl, _⟩ := h; rfl
theorem ok_LPaidFirst {P : Program} {w : World} {K : PySem.W.Frag} {mg : Str → Option Value} {base : Heap} (T : Tx w K mg) : FnOk P w K mg base CX0 8 (He.fAd K dLPaidFirst.at_) (fdO K dLPaidFirst.at_) P_LPaidFirst (spLPaidFirst K) := by
  refine T.f_LPaidFirst.ok sc_LPaidFirst (fun vs H Q E h => len_LPaidFirst h) (fun cdv A outer s H vs Q E hr h => ⟨_, PSs.nox ((pss_cons (ps_set (i := 2) sc_LPaidFirst.nd rfl (Or.inl rfl) (pe_lst pa_nil))
      (pss_cons (ps_if (pt_cmpR op_eq (pe_op op_mod (pe_op op_mod (pe_op op_mul (pv 1) pe_int) pe_int) pe_int) pe_int (nomark _)) (pss_one (ps_set (i := 2) sc_LPaidFirst.nd rfl (Or.inl rfl) (pe_op op_cat (pe_lst (pa_cons (pe_tup (pa_cons pe_str (pa_cons (pe_lst (pa_cons (pe_tup (pa_cons pe_str (pa_cons pe_int (pa_cons pe_int (pa_cons pe_int pa_nil))))) pa_nil)) pa_nil))) pa_nil)) (pe_lc (own := [("_law_k", 3)]) (g := gName 3) (tt := tYes) rfl sc_LPaidFirst.nd (pi_range1 (by rfl) T.b_range (pa_cons (pe_op op_add pe_int (pe_op op_mod (pe_op op_fdiv (pv 1) pe_int) pe_int)) pa_nil)) (blkOk_by (N := N_LPaidFirst) (sc := defScope sLPaidFirst) (by decide +kernel)) (fun _ _ _ _ _ => pg_name (i := 3) sc_LPaidFirst.nd rfl (Or.inl rfl)) (fun _ _ _ _ _ => pts_nil) (fun _ _ _ _ _ => (pe_tup (pa_cons pe_str (pa_cons pe_int (pa_cons pe_int pa_nil))))))))) pss_nil)
      (pss_cons (ps_for PassesOwn.never rfl (pi_list (pv 2)) (pg_name (i := 4) sc_LPaidFirst.nd rfl (Or.inl rfl)) (pss_one (ps_expr (pe_meth (pv 0) T.cl_Book T.m_Book_do (ok_BookDo T) (hr.mono (by decide)) T.b_BookDo .nil passL (pa_cons (pe_call (ok_LHanded T) (hr.mono (by decide)) rfl T.g_LHanded T.f_LHanded.kp T.b_LHanded .nil pass0 (pa_cons (pv 4) pa_nil)) pa_nil)))))
      (pss_one (ps_ret (pv 2))))))), ?_⟩)
  obtain ⟨b, L, c, rfl, bk, k⟩ := h
  walk_at "rd"
  refine r_mk (by simp) fun d0 hd0 => ?_
  have s0 := same_upd (o := .lst []) hd0
  have e0 : upd H d0 (.lst []) d0 = some (.lst []) := upd_same
  revert s0 e0
  generalize upd H d0 (.lst []) = H1
  intro s0 e0
  walk_at "rs"
  with_reducible refine r_join (fun σ' H' => ∃ dl xs ds, σ' = [some (.ref b), some (.int c), some (.ref dl), none, none] ∧ H' dl = some (.lst xs) ∧ Paired (DdAt (fun l => H l = none) H') xs ds ∧ (ds = [] ∨ ∃ n, n ≤ 44 ∧ ds = payF n) ∧ Same H H' ∧ H dl = none) ?_ fun N hN => ?_
  rotate_left
  · walk_at "rd"
    walk_at "ml"
    walk_at "rd"
    walk_at "md"
    walk_at "rd"
    walk_at "md"
    walk_at "rd"
    refine r_itd (fun _ => ?_) (fun _ => ?_)
    rotate_left
    · walk_at "rd"
      exact hN _ _ ⟨d0, [], [], rfl, e0, .nil, .inl rfl, s0, hd0⟩
    walk_at "rd"
    refine r_mk (by simp) fun t1 ht1 => ?_
    have q1 := same_upd (o := .tup [.str "pen", .int 1, .int 1, .int 1]) ht1
    have v1 : upd H1 t1 (.tup [.str "pen", .int 1, .int 1, .int 1]) t1 = some (.tup [.str "pen", .int 1, .int 1, .int 1]) := upd_same
    revert q1 v1
    generalize upd H1 t1 (.tup [.str "pen", .int 1, .int 1, .int 1]) = H2
    intro q1 v1
    walk_at "rd"
    refine r_mk (by simp) fun l1 hl1 => ?_
    have q2 := same_upd (o := .lst [.ref t1]) hl1
    have v2 : upd H2 l1 (.lst [.ref t1]) l1 = some (.lst [.ref t1]) := upd_same
    revert q2 v2
    generalize upd H2 l1 (.lst [.ref t1]) = H3
    intro q2 v2
    walk_at "rd"
    refine r_mk (by simp) fun t2 ht2 => ?_
    have q3 := same_upd (o := .tup [.str "order", .ref l1]) ht2
    have v3 : upd H3 t2 (.tup [.str "order", .ref l1]) t2 = some (.tup [.str "order", .ref l1]) := upd_same
    revert q3 v3
    generalize upd H3 t2 (.tup [.str "order", .ref l1]) = H4
    intro q3 v3
    walk_at "rd"
    refine r_mk (by simp) fun l2 hl2 => ?_
    have q4 := same_upd (o := .lst [.ref t2]) hl2
    have v4 : upd H4 l2 (.lst [.ref t2]) l2 = some (.lst [.ref t2]) := upd_same
    revert q4 v4
    generalize upd H4 l2 (.lst [.ref t2]) = H5
    intro q4 v4
    walk_at "rd"
    walk_at "md"
    walk_at "rd"
    walk_at "md"
    walk_at "rd"
    obtain ⟨n, hn, en⟩ : ∃ n : Nat, n ≤ 44 ∧ 20 + c / 16 % 25 = (n : Int) := ⟨(20 + c / 16 % 25).toNat, by omega, by omega⟩
    rw [en]
    refine lcr_rel (R := fun H v d => (∃ t, v = .ref t ∧ H t = some (.tup [.str "pay", .int 0, .int 1])) ∧ d = Dd.mo "pay" 0 1) (zs := List.replicate n (Dd.mo "pay" 0 1)) (by simp) (by omega) (by omega) (fun H H' v z h st => by
      obtain ⟨⟨t, e, h⟩, q⟩ := h
      exact ⟨⟨t, e, st _ _ h⟩, q⟩) ?_ ?_
    · intro i z H' W ez s q
      walk_at "rd"
      refine r_mk (by simp) fun t9 ht9 => ?_
      exact q _ _ (same_upd ht9) ⟨⟨t9, rfl, upd_same⟩, (List.mem_replicate.mp (List.mem_of_getElem? ez)).2⟩
    · intro D H6 acc hD s6 eD pr
      have la : acc.length = n := by rw [pr.length, List.length_replicate]
      refine ⟨l2, D, _, _, rfl, rfl, s6 _ _ v4, eD, by simp; exact sz5 (by omega), fun r hr => ?_⟩
      have s7 := same_upd (o := .lst ([.ref t2] ++ acc)) hr
      have sH := (((((s0.trans q1).trans q2).trans q3).trans q4).trans s6).trans s7
      have s37 := ((q4.trans s6).trans s7)
      have fl1 : H l1 = none := Same.free s0 (Same.free q1 hl1)
      refine hN _ _ ⟨r, [.ref t2] ++ acc, payF n, rfl, upd_same, .cons ⟨t2, l1, [.ref t1], rfl, s37 _ _ v3, s37 _ _ (q3 _ _ v2), fl1, .cons ⟨t1, rfl, s37 _ _ (q3 _ _ (q2 _ _ v1))⟩ .nil⟩ (Paired.mapP pr fun v d h => ?_), .inr ⟨n, hn, rfl⟩, sH, Same.free ((((s0.trans q1).trans q2).trans q3).trans q4) (Same.free s6 hr)⟩
      obtain ⟨⟨t, e, h⟩, q⟩ := h
      subst q
      exact ⟨t, e, s7 _ _ h⟩
  rintro σ' H2 ⟨dl, xs, ds, rfl, edl, pd, hds, s2, ndl⟩
  have gd : Deeds ds := by
    rcases hds with rfl | ⟨n, _, rfl⟩
    · exact fun d hd => by cases hd
    · exact payF_deeds
  have ld : ds.length ≤ 100 := by
    rcases hds with rfl | ⟨n, hn, rfl⟩
    · exact Nat.zero_le _
    · simp [payF]; omega
  have next : ∀ (i : Nat) (d : Dd) (oi : List Od), ds[i]? = some d → (i = 0 → oi = []) → (1 ≤ i → 1 ≤ oi.length) → ∃ es cs, step oi d = .ok (es, cs) ∧ 1 ≤ es.length := by
    intro i d oi ed h0 h1
    rcases hds with rfl | ⟨n, _, rfl⟩
    · simp at ed
    · cases i with
      | zero =>
        have e1 : Dd.ord [pen1] = d := by simpa [payF] using ed
        rw [h0 rfl, ← e1]
        exact ⟨_, _, Good.step pen1_good (by decide), by simp⟩
      | succ i =>
        have e1 : d = .mo "pay" 0 1 := by
          have : (List.replicate n (Dd.mo "pay" 0 1))[i]? = some d := by simpa [payF] using ed
          exact (List.mem_replicate.mp (List.mem_of_getElem? this)).2
        rw [e1]
        cases oi with
        | nil => exact absurd (h1 (by omega)) (by simp)
        | cons o r => exact pay_step
  have bk2 := bk.same s2
  have ndl2 : L.own dl = .no := bk.fresh ndl
  have lx := pd.length
  walk_at "rd"
  refine ⟨dl, rfl, ⟨xs, SqL.of edl⟩, for_list (K := K) (a := dl) (xs := xs) (fun i σ H' => ∃ oi Li v4, σ = [some (.ref b), some (.int c), some (.ref dl), none, v4] ∧ replay [] (ds.take i) = some oi ∧ ((i = 0 → oi = []) ∧ (1 ≤ i → 1 ≤ oi.length)) ∧ BookAt K H' b ⟨oi, ds.take i⟩ Li ∧ Mod L Li H2 H' ∧ Stay H2 H')
    ⟨[], L, none, rfl, rfl, ⟨fun _ => rfl, fun h => by omega⟩, bk2, Mod.same (Same.refl _), fun _ e => e⟩ (fun i σ H' _ ⟨_, _, _, _, _, _, _, m, _⟩ => SqL.of (m.no edl ndl2).1) ?_ ?_⟩
  · rintro i x σ H3 hi ⟨oi, Li, v4, rfl, ri, hlen, bki, mi, sti⟩
    have il := (List.getElem?_eq_some_iff.mp hi).1
    obtain ⟨d, ed, hd⟩ := pr_ex pd hi
    obtain ⟨es, cs, st, l1⟩ := next i d oi ed hlen.1 hlen.2
    have g := gd d (List.mem_of_getElem? ed)
    have hd3 : DdAt (fun l => H l = none ∧ Li.own l = .no) H3 x d := (hd.imp (F' := fun l => (H l = none ∧ L.own l = .no) ∧ ∃ o, H2 l = some o) fun a f e => ⟨⟨f, bk.fresh f⟩, e⟩).keep mi.but (fun a f z => z f.1.2) |>.imp fun a f _ => ⟨f.1.1, by
      obtain ⟨o, e⟩ := f.2
      exact (mi.no e f.1.2).2⟩
    obtain ⟨d3, hb3⟩ := bki.ob
    walk_at "rd"
    refine r_m hb3 (no_Book_do _ _) ?_
    walk_at "rd"
    refine ⟨_, x, d, rfl, hd3, g.1, fun v' H4 s4 hd4 => ?_⟩
    have bk4 := bki.same s4
    have hd4' : DdAt (fun a => Li.own a = .no) H4 v' d := by
      by_cases no : ∃ ls, d = .ord ls
      · obtain ⟨ls, e⟩ := no
        exact hd4.imp fun a f _ => bki.fresh (f ls e)
      · cases d with
        | ord ls => exact absurd ⟨ls, rfl⟩ no
        | ln _ _ _ _ => exact hd4
        | mo _ _ _ => exact hd4
        | mv _ _ _ => exact hd4
    have oki : Bk.ok ⟨oi, ds.take i⟩ := replay_ok ri fun w hw => (gd w (List.mem_of_mem_take hw)).1
    walk_at "rd"
    refine ⟨b, ⟨oi, ds.take i⟩, Li, v', rfl, bk4, oki, by show (ds.take i).length < 100000; rw [List.length_take]; omega, .inl ⟨d, hd4', g.1, Good.few' g.2, fun e q => (by rw [st] at q; cases q), fun es' cs' q r L' H5 bk5 m5 st5 _ _ _ => ?_⟩⟩
    rw [st] at q
    cases q
    have et : ds.take (i + 1) = ds.take i ++ [d] := by rw [List.take_succ, ed]; rfl
    walk_at "rd"
    refine ⟨es, L', _, rfl, by rw [et]; exact replay_snoc ri st, ⟨fun h => by omega, fun _ => l1⟩, by rw [et]; exact bk5, mi.trans ((Mod.same s4).trans m5 (Stay.of s4)) sti, fun x e => sti x (Same.free s4 (st5 x e))⟩
  · rintro σ H3 ⟨oi, Li, v4, rfl, ri, hlen, bki, mi, sti⟩
    rw [lx, List.take_length] at ri bki
    obtain ⟨a1, a2⟩ := mi.no edl ndl2
    walk_at "rd"
    refine k dl xs ⟨oi, ds⟩ Li H3 bki (replay_ok ri fun x hx => (gd x hx).1) ri gd ld a1 (Paired.mapP pd fun v d q => ?_) a2 ndl ((Mod.same s2).trans mi (Stay.of s2)) fun x e => Same.free s2 (sti x e)
    exact (q.imp (F' := fun l => (H l = none ∧ L.own l = .no) ∧ ∃ o, H2 l = some o) fun a f e => ⟨⟨f, bk.fresh f⟩, e⟩).keep mi.but (fun a f z => z f.1.2) |>.imp fun a f _ => ⟨by
      obtain ⟨o, e⟩ := f.2
      exact (mi.no e f.1.2).2, f.1.1⟩

/-! ### an error handed to a def, in its handler -/
section
open PySem.Spec PyProof.Rows
/-- what a def promises of an error of the class D that its caller holds -/
structure FnE (P : Program) (w : World) (K : PySem.W.Frag) (mg : Str → Option Value) (base : Heap) (k : Nat) (f : Addr) (fd : FuncData) (ps : List Str) (D : Addr) (sp : Addr → Sp) : Prop where
  len : ∀ a vs H Q E, sp a vs H Q E → vs.length = ps.length
  run : ∀ (A : Around) (outer : List Env) (s : Shared) (H : Hp) (args : Args) (us : List Value) (vs : List V) (Q : VK) (E : XK) (p : Addr × Obj), L2H.RoomH k A → Zc (.ref D) none p.2 → (∃ vs, p.2.data = .fields vs) → L2H.PinOk outer H s p → Env0 P w K mg base A outer s H → BindsTo s fd args (ps.zip us) → Vals vs us → sp p.1 vs H Q E →
    codeAny (model P w) A (.call (.ref f) args) (CR CX0 outer P w H s Q E) s
theorem par_kinds {N ps : List Str} {scope : Scope} {us : List Value} {n : Nat} (S : FnScope N ps scope) : ∀ y ∈ ps.zip us, scope.names.lookup y.1 = some .local ∨
    (scope.names.lookup y.1 = some .cell ∧ ((cellsFrom n scope.names []).lookup y.1).isSome = true) := by
  intro y hy
  obtain ⟨name, val⟩ := y
  exact (S.par name (List.of_mem_zip hy).1).elim .inl fun c => .inr ⟨c, PySem.W.cellsFrom_some _ _ _ (.inl c)⟩
theorem fn_ofE {P : Program} {w : World} {K : PySem.W.Frag} {mg : Str → Option Value} {base : Heap} {k : Nat} {f D : Addr} {name qual : Str} {params : Arguments} {body : List Stmt} {scope : Scope} {dV kV doc pm cdv ct oc : Value} {an od : Option Addr}
    {osl : Array (Option Value)} {N ps : List Str} {sp : Addr → Sp} (lk : K.lookup f = some ⟨oc, od, .func (PySem.W.fnOf name qual params body scope dV kV doc pm an cdv ct), osl⟩) (hcd : PySem.W.codeIn K cdv qual = true) (S : FnScope N ps scope)
    (len : ∀ a vs H Q E, sp a vs H Q E → vs.length = ps.length)
    (hbody : ∀ (A : Around) (outer : List Env) (s : Shared) (H : Hp) (vs : List V) (Q : VK) (E : XK) (p : Addr × Obj), Zc (.ref D) none p.2 → (∃ vs, p.2.data = .fields vs) → L2H.RoomH k (A.deeper (envOfC qual scope s.heap.objs.size f cdv)) → sp p.1 vs H Q E →
      ∃ t, PSs (L2H.cxH CX0 P w K mg base N qual scope f cdv A outer s H E p) body t ∧ t { nx := fun _ H' => Q .non H', rt := Q } (L2.start N vs) H) :
    FnE P w K mg base (k + 1) f (PySem.W.fnOf name qual params body scope dV kV doc pm an cdv ct) ps D sp := by
  constructor
  · exact len
  intro A outer s H args us vs Q E p hr hz hf pinned e0 binds same says
  have nl : vs.length = ps.length := len _ _ _ _ _ says
  have base_in : K.In s.heap ∧ s.heap.NoLimit := ⟨e0.mod.kin.keeps fun _ _ e => (e0.bs _ _ e).1, e0.mod.nolimit.keeps fun _ _ e => (e0.bs _ _ e).1⟩
  refine codeAny_call_function hr.depth (base_in.1 _ _ lk) rfl S.co S.gen rfl (PySem.W.codeRec_of base_in.1 hcd) (binds _ _ _ _ ?_)
  refine wpAny_newFunctionEnv_cells S.kind (par_kinds S) fun env eEnv s1 called => ?_
  subst eEnv
  refine ⟨base_in.2.keeps called.toInCall.keep, codeAny_func ?_⟩
  obtain ⟨t, body_t, reads⟩ := hbody A outer s H vs Q E p hz hf (hr.deeper _) says
  refine wpAny_mono (body_t.run [] s1 (L2.start N vs) H _ (L2H.inv_startH S pinned e0 nl same called) reads) (fun flow s2 ends => ?_) fun _ _ q => q
  match flow, ends with
  | .ret u, ⟨v, _, H2, J, rv, q⟩ => exact ⟨v, H2, J.os, J.bare, J.base, J.hok, rv, q⟩
  | .next, ⟨_, H2, J, q⟩ => exact ⟨V.non, H2, J.os, J.bare, J.base, J.hok, rfl, q⟩
  | .brk, ⟨_, _, _, q⟩ => exact False.elim q
  | .cont, ⟨_, _, _, q⟩ => exact False.elim q
theorem funD_okE {P : Program} {w : World} {K : PySem.W.Frag} {mg : Str → Option Value} {base : Heap} {x qual : Str} {params : Arguments} {body : List Stmt} {scope : Scope} {dvs : List V} {kws : List (Str × V)} {f D : Addr} {fd : FuncData} {N ps : List Str} {k : Nat} {sp : Addr → Sp}
    (F : FunD K x qual params body scope dvs kws f fd) (S : FnScope N ps scope) (len : ∀ a vs H Q E, sp a vs H Q E → vs.length = ps.length)
    (hbody : ∀ (cdv : Value) (A : Around) (outer : List Env) (s : Shared) (H : Hp) (vs : List V) (Q : VK) (E : XK) (p : Addr × Obj), Zc (.ref D) none p.2 → (∃ vs, p.2.data = .fields vs) → L2H.RoomH k (A.deeper (envOfC qual scope s.heap.objs.size f cdv)) → sp p.1 vs H Q E →
      ∃ t, PSs (L2H.cxH CX0 P w K mg base N qual scope f cdv A outer s H E p) body t ∧ t { nx := fun _ H' => Q .non H', rt := Q } (L2.start N vs) H) : FnE P w K mg base (k + 1) f fd ps D sp := by
  obtain ⟨_, _, _, _, _, _, _, code, _, _, e, at_, coded, _⟩ := F.ex
  subst e
  exact fn_ofE at_ coded S len (hbody code)
/-- isinstance of it -/
def rIsF (K : PySem.W.Frag) (D a : Addr) : List V → Hp → VK → Prop := fun xs H Q => ∃ (c : V) (cv : Value) (b : Bool), ExcC K D ∧ xs = [.ref a, c] ∧ ClsV c cv ∧ PySem.W.kitOne K (.ref D) cv = some b ∧ Q (.bl b) H
theorem call_isF {X : Cx} {K : PySem.W.Frag} {D : Addr} {p : Addr × Obj} (eK : X.K = K) (hp : p ∈ X.pn) (hz : Zc (.ref D) none p.2) (hf : ∃ vs, p.2.data = .fields vs) : CallR X (.builtin "isinstance") (rIsF K D p.1) := by
  subst eK
  rintro pins s σ H xs us Q I given ⟨c, cv, b, C, rfl, hc, e, q⟩
  match us, given with
  | _ :: _ :: [], .cons r1 (.cons r2 .nil) =>
    obtain rfl := r1
    obtain rfl := hc.eq r2
    have there := (I.pin p (List.mem_append.mpr (.inl hp))).1
    obtain ⟨fs, efs⟩ := hf
    have inst : PySem.W.InstAt s.heap p.1 p.2 D none := by
      obtain ⟨a, k1, k2, k3, k4⟩ := p
      obtain ⟨z1, z2⟩ := hz
      dsimp only at z1 z2 efs
      subst z1 z2 efs
      exact .mk there rfl rfl trivial
    exact PySem.W.kia_one (PySem.W.handS_kitx_exc C.hg C.hk C.hs C.hd C.ha C.hn C.ht C.hm) I.kIn inst e (fun z => nomatch z) fun n => ⟨.bl b, H, I.kept (t' := n) (fun _ _ y => y), rfl, q⟩
/-- how often a flat value stands in a list -/
theorem vals_countP {x : V} : ∀ {xs : List V} {us : List Value}, Vals xs us → xs.all flatV = true → us.countP (eqU x) = xs.countP (fun y => eqV y x)
  | _, _, .nil, _ => rfl
  | y :: ys, u :: vs, .cons r1 r2, f => by
    have f2 : flatV y = true ∧ ys.all flatV = true := by simpa using f
    rw [List.countP_cons, List.countP_cons, eqU_of r1 f2.1, vals_countP r2 f2.2]
def rCntV (K : PySem.W.Frag) : V → List V → Hp → VK → Prop := fun l xs H Q => ∃ (p : Addr) (ys : List V) (x : V), l = .ref p ∧ xs = [x] ∧ SqL K H p ys ∧ flatV x = true ∧ ys.all flatV = true ∧ Q (.int ((ys.countP fun y => eqV y x : Nat) : Int)) H
theorem mt_lcountV {X : Cx} : MtR X "list.count" (rCntV X.K) := by
  rintro pins s σ H l xs v us Q I rl rargs ⟨p, ys, x, rfl, rfl, hs, fx, fs, q⟩
  obtain rfl := rl
  obtain ⟨u, e1, ru⟩ := rargs.one
  subst e1
  obtain ⟨items, vals, ⟨⟨c1, c2, c3, c4⟩, n, lies, e2, e3, e4⟩, _⟩ := I.list hs
  dsimp only at e2 e4
  subst e2 e4
  have cnt : items.toArray.toList.countP (eqU x) = ys.countP fun y => eqV y x := vals_countP vals fs
  have rule := SeqAt.list_countAt p items.toArray n c2 c4 u (eqU x)
  refine call_meets PySem.F.slot_list_count ⟨_, lies, rfl⟩ PySem.F.entry_list_count (PySem.F.args_list_count_2 _ _) rule ⟨lies, fun w hw => mem_eqAt ru fx vals fs w (by simpa using hw), ?_⟩
  exact ⟨.int ((ys.countP fun y => eqV y x : Nat) : Int), H, I.tok _, ⟨s.toks, by rw [← cnt]⟩, q⟩
/-- the call of a def by the error in hand -/
def tCallX (K : PySem.W.Frag) (names : List Str) (cls : Value) (d : Option Addr) (sp : Addr → Sp) (a : Addr) (t : TA) : TE := fun σ H Q => t σ H fun vs H1 => ∃ x, x ∈ names ∧ cls = .ref (He.ga K x) ∧ d = none ∧ sp a vs H1 Q E0
theorem r_callX {K : PySem.W.Frag} {names : List Str} {cls : Value} {d : Option Addr} {sp : Addr → Sp} {a : Addr} {t : TA} {σ : L2.St} {H : Hp} {Q : VK} (h : t σ H fun vs H1 => ∃ x, x ∈ names ∧ cls = .ref (He.ga K x) ∧ d = none ∧ sp a vs H1 Q E0) : tCallX K names cls d sp a t σ H Q := h
theorem pe_callX {X : Cx} {K : PySem.W.Frag} {names : List Str} {k : Nat} {f : Addr} {fd : FuncData} {ps : List Str} {sp : Addr → Sp} {x : Str} {q pos : Pos} {e : Expr} {es : List Expr} {t : TA} {a : Addr} {oe : Obj} {cls : Value} {d : Option Addr} (eK : X.K = K) (hp : (a, oe) ∈ X.pn) (hr : L2H.RoomH k X.A) (hz : Zc cls d oe) (hf : ∃ vs, oe.data = .fields vs)
    (F : ∀ n, n ∈ names → FnE X.prog X.w K X.mg X.base k f fd ps (He.ga K n) sp) (hg : Gl X x) (hm : X.mg x = some (.ref f)) (hk : PySem.W.keepIn K (.ref f) = true) (hb : Binds K fd ps [])
    (ha : PA X (e :: es) t) (hdb : (x == ("__debug__" : Str)) = false := by decide) (he : starEach (e :: es) X.env = (false, eval e X.env) :: starEach es X.env := by rfl) (hpl : (backTo pos (starEach es X.env)).any (·.1) = false := by rfl) :
    PE X (.Call (.Name x q) (e :: es) [] pos) (tCallX K names cls d sp a t) := by
  subst eK
  constructor
  intro pins s σ H Q I asks
  refine wpAny_Call_Name_kw (ld_glob I hg hm (PySem.W.callWith_K (h₀ := X.base) I.ok.mod.kin hk (thn (ha.run pos pins s σ H _ I asks) ?_) he hpl) hdb)
  rintro us s1 ⟨vs, H1, I1, rv, n, hn, ec, ed, says⟩
  refine ⟨I1.kIn, ?_⟩
  · subst ec ed
    have G := F n hn
    have same_len : us.length = ps.length := rv.length ▸ G.len _ _ _ _ _ says
    have binds := hb s1 us I1.kIn (by simpa using same_len)
    rw [List.append_nil] at binds
    obtain ⟨pin1, pin2, pin3, pin4, pin5⟩ := I1.pin (a, oe) (List.mem_append_left _ hp)
    have pinned : L2H.PinOk X.stack H1 s1 (a, oe) := ⟨pin1, pin2, fun hm => (List.mem_cons.mp (I1.stkSub a hm)).elim pin3 pin4, pin5⟩
    refine wpAny_call (codeAny_mono (G.run X.A X.stack s1 H1 ⟨us, []⟩ us vs _ E0 (a, oe) hr hz hf pinned I1.env0 binds rv says) fun out s2 ends => ?_)
    match out, ends with
    | .error _, q => exact False.elim q
    | .ok (.ret u), q => exact I1.after q
    | .ok .next, q => exact False.elim q
    | .ok .brk, q => exact False.elim q
    | .ok .cont, q => exact False.elim q
end

/-! ### of one class -/
def spLOfOneClass (_ : PySem.W.Frag) (a : Addr) : Sp := fun vs H Q _ => vs = [.ref a] ∧ ∀ H', Same H H' → Q (.bl true) H'
theorem len_LOfOneClass {K : PySem.W.Frag} {a : Addr} {vs : List V} {H : Hp} {Q : VK} {E : XK} (h : spLOfOneClass K a vs H Q E) : vs.length = 1 := by
  obtain ⟨rfl, _⟩ := h; rfl
def theTen (x : Str) : List V := [.bl (decide (x = "NoDeed")), .bl (decide (x = "NoLines")), .bl (decide (x = "NoItem")), .bl (decide (x = "NoNumber")), .bl (decide (x = "FullBook")), .bl (decide (x = "NoOrder")), .bl (decide (x = "SameOrder")), .bl (decide (x = "NoLine")), .bl (decide (x = "TooMuch")), .bl (decide (x = "NothingDone"))]
theorem ten_one {x : Str} (hx : x ∈ exNames) : (theTen x).countP (fun y => eqV y (.bl true)) = 1 := by
  have h : x = "NoDeed" ∨ x = "NoLines" ∨ x = "NoItem" ∨ x = "NoNumber" ∨ x = "FullBook" ∨ x = "NoOrder" ∨ x = "SameOrder" ∨ x = "NoLine" ∨ x = "TooMuch" ∨ x = "NothingDone" := by
    simpa [exNames] using hx
  rcases h with rfl | rfl | rfl | rfl | rfl | rfl | rfl | rfl | rfl | rfl <;> decide +kernel
theorem ok_LOfOneClass {P : Program} {w : World} {K : PySem.W.Frag} {mg : Str → Option Value} {base : Heap} (T : Tx w K mg) {x : Str} (hx : x ∈ exNames) : FnE P w K mg base 1 (He.fAd K dLOfOneClass.at_) (fdO K dLOfOneClass.at_) P_LOfOneClass (He.ga K x) (spLOfOneClass K) := by
  refine funD_okE T.f_LOfOneClass sc_LOfOneClass (fun a vs H Q E h => len_LOfOneClass h) (fun cdv A outer s H vs Q E p hz hf hr h => ⟨_, PSs.nox ((pss_cons (ps_set (i := 1) sc_LOfOneClass.nd rfl (Or.inl rfl) (pe_lst (pa_cons (pe_callB (call_isF (K := K) rfl List.mem_cons_self hz hf) (by rfl) T.b_isinstance (by decide +kernel) (pa_cons (pv 0) (pa_cons (pe_glob rfl T.g_NoDeed (v := .ref (He.ga K "NoDeed")) rfl) pa_nil))) (pa_cons (pe_callB (call_isF (K := K) rfl List.mem_cons_self hz hf) (by rfl) T.b_isinstance (by decide +kernel) (pa_cons (pv 0) (pa_cons (pe_glob rfl T.g_NoLines (v := .ref (He.ga K "NoLines")) rfl) pa_nil))) (pa_cons (pe_callB (call_isF (K := K) rfl List.mem_cons_self hz hf) (by rfl) T.b_isinstance (by decide +kernel) (pa_cons (pv 0) (pa_cons (pe_glob rfl T.g_NoItem (v := .ref (He.ga K "NoItem")) rfl) pa_nil))) (pa_cons (pe_callB (call_isF (K := K) rfl List.mem_cons_self hz hf) (by rfl) T.b_isinstance (by decide +kernel) (pa_cons (pv 0) (pa_cons (pe_glob rfl T.g_NoNumber (v := .ref (He.ga K "NoNumber")) rfl) pa_nil))) pa_nil))))))
      (pss_cons (ps_set (i := 1) sc_LOfOneClass.nd rfl (Or.inl rfl) (pe_op op_cat (pv 1) (pe_lst (pa_cons (pe_callB (call_isF (K := K) rfl List.mem_cons_self hz hf) (by rfl) T.b_isinstance (by decide +kernel) (pa_cons (pv 0) (pa_cons (pe_glob rfl T.g_FullBook (v := .ref (He.ga K "FullBook")) rfl) pa_nil))) (pa_cons (pe_callB (call_isF (K := K) rfl List.mem_cons_self hz hf) (by rfl) T.b_isinstance (by decide +kernel) (pa_cons (pv 0) (pa_cons (pe_glob rfl T.g_NoOrder (v := .ref (He.ga K "NoOrder")) rfl) pa_nil))) (pa_cons (pe_callB (call_isF (K := K) rfl List.mem_cons_self hz hf) (by rfl) T.b_isinstance (by decide +kernel) (pa_cons (pv 0) (pa_cons (pe_glob rfl T.g_SameOrder (v := .ref (He.ga K "SameOrder")) rfl) pa_nil))) pa_nil))))))
      (pss_cons (ps_set (i := 1) sc_LOfOneClass.nd rfl (Or.inl rfl) (pe_op op_cat (pv 1) (pe_lst (pa_cons (pe_callB (call_isF (K := K) rfl List.mem_cons_self hz hf) (by rfl) T.b_isinstance (by decide +kernel) (pa_cons (pv 0) (pa_cons (pe_glob rfl T.g_NoLine (v := .ref (He.ga K "NoLine")) rfl) pa_nil))) (pa_cons (pe_callB (call_isF (K := K) rfl List.mem_cons_self hz hf) (by rfl) T.b_isinstance (by decide +kernel) (pa_cons (pv 0) (pa_cons (pe_glob rfl T.g_TooMuch (v := .ref (He.ga K "TooMuch")) rfl) pa_nil))) (pa_cons (pe_callB (call_isF (K := K) rfl List.mem_cons_self hz hf) (by rfl) T.b_isinstance (by decide +kernel) (pa_cons (pv 0) (pa_cons (pe_glob rfl T.g_NothingDone (v := .ref (He.ga K "NothingDone")) rfl) pa_nil))) pa_nil))))))
      (pss_one (ps_ret (pe_and (pe_callB (call_isF (K := K) rfl List.mem_cons_self hz hf) (by rfl) T.b_isinstance (by decide +kernel) (pa_cons (pv 0) (pa_cons (pe_bltn (v := .ty "ValueError") (by rfl) T.b_ValueError (by decide +kernel) rfl) pa_nil))) (pe_one (pe_cmpR op_eq (pe_bm PySem.F.plainAttrs_list PySem.F.slot_list_count PySem.F.type_list_count mt_lcountV (pv 1) (pa_cons pe_bl pa_nil)) pe_int (nomark _)))))))))), ?_⟩)
  obtain ⟨rfl, k⟩ := h
  have X := excAll_ok T.xv hx
  walk_at "rd"
  refine ⟨_, _, _, X.1, rfl, .own _, X.2.2 "NoDeed" (by decide +kernel), ?_⟩
  walk_at "rd"
  refine ⟨_, _, _, X.1, rfl, .own _, X.2.2 "NoLines" (by decide +kernel), ?_⟩
  walk_at "rd"
  refine ⟨_, _, _, X.1, rfl, .own _, X.2.2 "NoItem" (by decide +kernel), ?_⟩
  walk_at "rd"
  refine ⟨_, _, _, X.1, rfl, .own _, X.2.2 "NoNumber" (by decide +kernel), ?_⟩
  walk_at "rd"
  refine r_mk (by simp) fun l1 hl1 => ?_
  walk_at "rd"
  refine ⟨_, _, _, X.1, rfl, .own _, X.2.2 "FullBook" (by decide +kernel), ?_⟩
  walk_at "rd"
  refine ⟨_, _, _, X.1, rfl, .own _, X.2.2 "NoOrder" (by decide +kernel), ?_⟩
  walk_at "rd"
  refine ⟨_, _, _, X.1, rfl, .own _, X.2.2 "SameOrder" (by decide +kernel), ?_⟩
  walk_at "rd"
  refine r_mk (by simp) fun l2 hl2 => ?_
  refine ⟨l1, l2, _, _, rfl, rfl, by rw [upd_ne (ne_of_none upd_same hl2)]; exact upd_same, upd_same, by show 4 + 3 ≤ sizeLine; rw [sizeLine_eq]; decide, fun l3 hl3 => ?_⟩
  walk_at "rd"
  refine ⟨_, _, _, X.1, rfl, .own _, X.2.2 "NoLine" (by decide +kernel), ?_⟩
  walk_at "rd"
  refine ⟨_, _, _, X.1, rfl, .own _, X.2.2 "TooMuch" (by decide +kernel), ?_⟩
  walk_at "rd"
  refine ⟨_, _, _, X.1, rfl, .own _, X.2.2 "NothingDone" (by decide +kernel), ?_⟩
  walk_at "rd"
  refine r_mk (by simp) fun l4 hl4 => ?_
  refine ⟨l3, l4, _, _, rfl, rfl, by rw [upd_ne (ne_of_none upd_same hl4)]; exact upd_same, upd_same, by show 7 + 3 ≤ sizeLine; rw [sizeLine_eq]; decide, fun l5 hl5 => ?_⟩
  have s5 := ((((same_upd hl1).trans (same_upd hl2)).trans (same_upd hl3)).trans (same_upd hl4)).trans (same_upd (o := .lst (theTen x)) hl5)
  walk_at "rd"
  refine ⟨_, _, _, X.1, rfl, .ty _, X.2.1, ?_⟩
  walk_at "rd"
  refine r_tyL (SqL.of upd_same) ?_
  walk_at "rd"
  refine ⟨l5, theTen x, _, rfl, rfl, SqL.of upd_same, rfl, rfl, ?_⟩
  walk_at "rd"
  rw [ten_one hx]
  exact k _ s5

/-! ### nothing is left -/
theorem takes0N {X : Cx} : L2N.Takes X (fun _ _ _ _ => False) := fun _ _ x => by
  obtain ⟨_, _, _, _, _, _, _, _, _, _, _, _, _, _, _, _, z⟩ := x
  exact z.elim
def spLNothing (K : PySem.W.Frag) : Sp := fun vs H Q _ => ∃ (b : Addr) (L : Lay), vs = [.ref b] ∧ BookAt K H b ⟨[], []⟩ L ∧ ∀ L' H', Mod L L' H H' → Stay H H' → Q (.bl true) H'
theorem len_LNothing {K : PySem.W.Frag} {vs : List V} {H : Hp} {Q : VK} {E : XK} (h : spLNothing K vs H Q E) : vs.length = 1 := by
  obtain ⟨_, _, rfl, _⟩ := h; rfl
theorem ok_LNothing {P : Program} {w : World} {K : PySem.W.Frag} {mg : Str → Option Value} {base : Heap} (T : Tx w K mg) : FnOk P w K mg base CX0 9 (He.fAd K dLNothing.at_) (fdO K dLNothing.at_) P_LNothing (spLNothing K) := by
  refine T.f_LNothing.ok sc_LNothing (fun vs H Q E h => len_LNothing h) (fun cdv A outer s H vs Q E hr h => ⟨_, PSs.nox ((pss_cons (ps_set (i := 1) sc_LNothing.nd rfl (Or.inl rfl) pe_bl)
      (pss_cons (ps_try_only rfl rfl ⟨rfl, by decide, .inl T.g_NothingDone⟩ takes0 (fun W pn xe tk po => (pss_one (ps_expr (pe_mX0 (pv 0) T.cl_Book T.m_Book_undo (ok_BookUndo T) (hr.mono (by decide)) T.b_BookUndo (fun σ => passAt tk σ))))) (fun a oe cls d pn hz hf => (pss_one (ps_set (i := 1) sc_LNothing.nd rfl (Or.inl rfl) pe_bl))))
      (pss_cons (L2N.ps_try_as (i := 2) rfl rfl sc_LNothing.nd rfl rfl ⟨rfl, by decide, .inl T.g_FlowError⟩ takes0N (fun W pn xe tk po => (pss_one (ps_expr (pe_mX0 (pv 0) T.cl_Book T.m_Book_undo (okN_BookUndo T) (hr.mono (by decide)) T.b_BookUndo (fun σ => L2N.passAt tk σ))))) (fun a oe cls d pn hz hf => (pss_cons (ps_expr (peH_meth (pv 0) T.cl_Book T.m_Book_do (okH_BookDo T) (roomS (hr.mono (by decide))) (hotS hz hf) T.b_BookDo pass0 (pa_cons (pe_tup (pa_cons pe_str (pa_cons (pe_lst (pa_cons (pe_tup (pa_cons pe_str (pa_cons pe_int (pa_cons pe_int (pa_cons pe_int pa_nil))))) pa_nil)) pa_nil))) pa_nil)))
      (pss_one (ps_ret (pe_and (pv 1) (pe_and (pe_callX (k := 1) (K := K) (names := exNames) rfl List.mem_cons_self ⟨(hr.mono (j := 1) (by decide)).dp, (hr.mono (j := 1) (by decide)).un⟩ hz.zc hf (fun n hn => ok_LOfOneClass T hn) rfl T.g_LOfOneClass T.f_LOfOneClass.kp T.b_LOfOneClass (pa_cons (pv 2) pa_nil)) (pe_and (pe_cmpR op_eq (pe_ix (ix_tupK (K := K) rfl) (peH_meth0 (pv 0) T.cl_Book T.m_Book_undo (okH_BookUndo T) (roomS (hr.mono (by decide))) (hotS hz hf) T.b_BookUndo pass0) pe_int (fun _ _ => rfl)) pe_str (nomark _)) (pe_one (pe_cmpR op_eq (peH_meth0 (pv 0) T.cl_Book T.m_Book_orders (okH_BookOrders T) (roomS (hr.mono (by decide))) (hotS hz hf) T.b_BookOrders pass0) pe_int (nomark _)))))))))))
      (pss_one (ps_ret pe_bl)))))), ?_⟩)
  obtain ⟨b, L, rfl, bk, k⟩ := h
  obtain ⟨dx, hb⟩ := bk.ob
  walk_at "rd"
  refine r_m hb (no_Book_undo _ _) ?_
  walk_at "rd"
  refine ⟨b, ⟨[], []⟩, L, rfl, bk, ok0, by decide, rfl, fun _ => ?_, fun ds d es e => (by simp at e)⟩
  refine ⟨true, T.e_NothingDone_NothingDone, fun _ a na => ?_, fun z => by cases z⟩
  walk_at "rd"
  refine r_m hb (no_Book_undo _ _) ?_
  walk_at "rd"
  refine ⟨b, ⟨[], []⟩, L, rfl, bk, ok0, by decide, rfl, fun _ => ?_, fun ds d es e => (by simp at e)⟩
  refine ⟨true, T.e_NothingDone_FlowError, fun _ a na => ?_, fun z => by cases z⟩
  walk_at "rd"
  refine r_m hb (no_Book_do _ _) ?_
  walk_at "rd"
  refine r_mk (by simp) fun t1 ht1 => ?_
  have q1 := same_upd (o := .tup [.str "pen", .int 1, .int 1, .int 1]) ht1
  have v1 : upd H t1 (.tup [.str "pen", .int 1, .int 1, .int 1]) t1 = some (.tup [.str "pen", .int 1, .int 1, .int 1]) := upd_same
  revert q1 v1
  generalize upd H t1 (.tup [.str "pen", .int 1, .int 1, .int 1]) = H1
  intro q1 v1
  walk_at "rd"
  refine r_mk (by simp) fun l1 hl1 => ?_
  have q2 := same_upd (o := .lst [.ref t1]) hl1
  have v2 : upd H1 l1 (.lst [.ref t1]) l1 = some (.lst [.ref t1]) := upd_same
  revert q2 v2
  generalize upd H1 l1 (.lst [.ref t1]) = H2
  intro q2 v2
  walk_at "rd"
  refine r_mk (by simp) fun t2 ht2 => ?_
  have q3 := same_upd (o := .tup [.str "order", .ref l1]) ht2
  have v3 : upd H2 t2 (.tup [.str "order", .ref l1]) t2 = some (.tup [.str "order", .ref l1]) := upd_same
  revert q3 v3
  generalize upd H2 t2 (.tup [.str "order", .ref l1]) = H3
  intro q3 v3
  walk_at "rd"
  have q := (q1.trans q2).trans q3
  have fl : L.own l1 = .no := bk.fresh (Same.free q1 hl1)
  refine ⟨b, ⟨[], []⟩, L, .ref t2, rfl, bk.same q, by decide, by decide, ⟨t2, l1, [.ref t1], rfl, v3, q3 _ _ v2, fl, .cons ⟨t1, rfl, q3 _ _ (q2 _ _ v1)⟩ .nil⟩, fun r L4 H4 bk4 m4 st4 => ?_⟩
  have m04 := (Mod.same q).trans m4 (Stay.of q)
  have st04 : Stay H H4 := fun x e => Same.free q (st4 x e)
  walk_at "rd"
  refine r_callX ?_
  walk_at "rd"
  refine ⟨"NothingDone", by decide +kernel, rfl, rfl, rfl, fun H5 s5 => ?_⟩
  have bk5 := bk4.same s5
  obtain ⟨d5, hb5⟩ := bk5.ob
  walk_at "rd"
  refine r_m hb5 (no_Book_undo _ _) ?_
  walk_at "rd"
  refine ⟨b, _, L4, .ord [pen1], rfl, bk5, rfl, fun v L6 H6 bk6 m6 st6 hv => ?_⟩
  obtain ⟨t7, l7, ys, rfl, h7, _⟩ := hv
  obtain ⟨d6, hb6⟩ := bk6.ob
  walk_at "rd"
  refine r_ixT (SqT.of h7) (atI_get (j := 0) rfl rfl) ?_
  walk_at "rd"
  refine r_ity rfl ?_
  walk_at "rd"
  refine r_m hb6 (no_Book_orders _ _) ?_
  walk_at "rd"
  refine ⟨b, _, L6, rfl, bk6, ?_⟩
  walk_at "rd"
  exact k L6 H6 (m04.trans ((Mod.same s5).trans m6 (Stay.of s5)) st04) fun x e => st04 x (Same.free s5 (st6 x e))

/-! ### two books and the deeds that stand of each -/
structure HD where
  b : Addr
  B : Bk
  L : Lay
  dl : Addr
  xs : List V
  ds : List Dd
def XF (dd : Addr) (S : Nat → HD) (x : Addr) : Prop := (∃ j, j < 2 ∧ (S j).L.own x ≠ .no) ∨ x = dd
structure HalfD (K : PySem.W.Frag) (H : Hp) (X : Addr → Prop) (h : HD) : Prop where
  bk : BookAt K H h.b h.B h.L
  ok : h.B.ok
  hi : Hist h.B
  dl : H h.dl = some (.lst h.xs)
  nd : ¬ X h.dl
  pd : Paired (DdAt (fun l => ¬ X l) H) h.xs h.ds
  gd : Deeds h.ds
structure Two (K : PySem.W.Frag) (H0 H : Hp) (bl dd : Addr) (S : Nat → HD) : Prop where
  same : Same H0 H
  hb : H bl = some (.lst [.ref (S 0).b, .ref (S 1).b])
  nb : ¬ XF dd S bl
  hd : H dd = some (.lst [.ref (S 0).dl, .ref (S 1).dl])
  half : ∀ j, j < 2 → HalfD K H (XF dd S) (S j)
  dj : ∀ i j, i < 2 → j < 2 → i ≠ j → ∀ x, (S i).L.own x ≠ .no → (S j).L.own x = .no
  no : ∀ j, j < 2 → (S j).L.own dd = .no
  fr : ∀ x, XF dd S x → H0 x = none
theorem pair_at {α : Type} {f : Nat → α} {j : Nat} (h : j < 2) : [f 0, f 1][j]? = some (f j) := by
  have : j = 0 ∨ j = 1 := by omega
  rcases this with rfl | rfl <;> rfl
theorem dd_same {F : Addr → Prop} {H H' : Hp} {xs : List V} {ds : List Dd} (h : Paired (DdAt F H) xs ds) (s : Same H H') : Paired (DdAt F H') xs ds := Paired.mapP h fun _ _ q => q.keep (But.of (S := fun _ => False) s) fun _ _ => id
theorem Two.keep {K : PySem.W.Frag} {H0 H H' : Hp} {bl dd : Addr} {S : Nat → HD} (h : Two K H0 H bl dd S) (s : Same H H') : Two K H0 H' bl dd S :=
  ⟨h.same.trans s, s _ _ h.hb, h.nb, s _ _ h.hd, fun j hj => let q := h.half j hj; ⟨q.bk.same s, q.ok, q.hi, s _ _ q.dl, q.nd, dd_same q.pd s, q.gd⟩, h.dj, h.no, h.fr⟩
def put (S : Nat → HD) (j : Nat) (h : HD) : Nat → HD := fun i => if i = j then h else S i
theorem put_at {S : Nat → HD} {j : Nat} {h : HD} : put S j h j = h := if_pos rfl
theorem put_ne {S : Nat → HD} {i j : Nat} {h : HD} (n : i ≠ j) : put S j h i = S i := if_neg n
/-- a book is changed -/
theorem Two.book {K : PySem.W.Frag} {H0 H H' : Hp} {bl dd : Addr} {S : Nat → HD} {j : Nat} {B' : Bk} {L' : Lay} (h : Two K H0 H bl dd S) (hj : j < 2) (bk : BookAt K H' (S j).b B' L') (ok : B'.ok) (hi : Hist B') (m : Mod (S j).L L' H H') :
    Two K H0 H' bl dd (put S j ⟨(S j).b, B', L', (S j).dl, (S j).xs, (S j).ds⟩) := by
  have inX : ∀ x, (S j).L.foot x → XF dd S x := fun x f => .inl ⟨j, hj, f⟩
  have grow : ∀ x, XF dd (put S j ⟨(S j).b, B', L', (S j).dl, (S j).xs, (S j).ds⟩) x → XF dd S x ∨ H x = none := fun x z => by
    rcases z with ⟨i, hi2, z⟩ | z
    · by_cases c : i = j
      · subst c
        rw [put_at] at z
        rcases m.grow x z with q | q
        · exact .inl (.inl ⟨i, hi2, q⟩)
        · exact .inr q
      · rw [put_ne c] at z
        exact .inl (.inl ⟨i, hi2, z⟩)
    · exact .inl (.inr z)
  have keep : ∀ x o, H x = some o → ¬ XF dd S x → H' x = some o := fun x o e n => m.but.keep _ _ e fun f => n (inX x f)
  have out : ∀ x o, H x = some o → ¬ XF dd S x → ¬ XF dd (put S j ⟨(S j).b, B', L', (S j).dl, (S j).xs, (S j).ds⟩) x := fun x o e n z => by
    rcases grow x z with q | q
    · exact n q
    · rw [e] at q; cases q
  have pd : ∀ i, i < 2 → Paired (DdAt (fun l => ¬ XF dd (put S j ⟨(S j).b, B', L', (S j).dl, (S j).xs, (S j).ds⟩) l) H') (S i).xs (S i).ds := fun i hi2 => Paired.mapP (h.half i hi2).pd fun v d q =>
    ((q.imp (F' := fun l => ¬ XF dd S l ∧ ∃ o, H l = some o) fun a f e => ⟨f, e⟩).keep m.but fun a f z => f.1 (inX a z)).imp fun a f _ => f.2.elim fun o e => out a o e f.1
  refine ⟨fun x o e => m.but.keep _ _ (h.same _ _ e) fun f => ?_, ?_, ?_, ?_, fun i hi2 => ?_, fun i k hi2 hk n x z => ?_, fun i hi2 => ?_, fun x z => ?_⟩
  · rw [h.fr x (inX x f)] at e; cases e
  · have e : ∀ i, (put S j ⟨(S j).b, B', L', (S j).dl, (S j).xs, (S j).ds⟩ i).b = (S i).b := fun i => by
      by_cases c : i = j
      · subst c; rw [put_at]
      · rw [put_ne c]
    rw [e, e]
    exact keep _ _ h.hb h.nb
  · exact out _ _ h.hb h.nb
  · have e : ∀ i, (put S j ⟨(S j).b, B', L', (S j).dl, (S j).xs, (S j).ds⟩ i).dl = (S i).dl := fun i => by
      by_cases c : i = j
      · subst c; rw [put_at]
      · rw [put_ne c]
    rw [e, e]
    exact m.but.keep _ _ h.hd fun f => f (h.no j hj)
  · have q := h.half i hi2
    by_cases c : i = j
    · subst c
      rw [put_at]
      exact ⟨bk, ok, hi, keep _ _ q.dl q.nd, out _ _ q.dl q.nd, pd i hi2, q.gd⟩
    · rw [put_ne c]
      exact ⟨q.bk.keep m.but fun x z f => f (h.dj i j hi2 hj c x z), q.ok, q.hi, keep _ _ q.dl q.nd, out _ _ q.dl q.nd, pd i hi2, q.gd⟩
  · by_cases c : i = j
    · subst c
      rw [put_at] at z
      rw [put_ne (Ne.symm n)]
      rcases m.grow x z with q | q
      · exact h.dj i k hi2 hk n x q
      · exact (h.half k hk).bk.fresh q
    · rw [put_ne c] at z
      by_cases c2 : k = j
      · subst c2
        rw [put_at]
        refine Classical.byContradiction fun y => ?_
        rcases m.grow x y with q | q
        · exact q (h.dj i k hi2 hk n x z)
        · obtain ⟨o, e⟩ := (h.half i hi2).bk.dom x z
          rw [e] at q; cases q
      · rw [put_ne c2]
        exact h.dj i k hi2 hk n x z
  · by_cases c : i = j
    · subst c
      rw [put_at]
      exact (m.no h.hd (h.no i hi2)).2
    · rw [put_ne c]
      exact h.no i hi2
  · rcases grow x z with q | q
    · exact h.fr x q
    · exact Same.free h.same q
/-- another list of deeds is laid -/
theorem Two.list {K : PySem.W.Frag} {H0 H : Hp} {bl dd p : Addr} {S : Nat → HD} {j : Nat} {xs : List V} {ds : List Dd} (h : Two K H0 H bl dd S) (hj : j < 2) (hp : H p = some (.lst xs)) (np : ¬ XF dd S p) (pd : Paired (DdAt (fun l => ¬ XF dd S l) H) xs ds) (gd : Deeds ds) :
    Two K H0 (upd H dd (.lst ([V.ref (S 0).dl, V.ref (S 1).dl].set j (.ref p)))) bl dd (put S j ⟨(S j).b, (S j).B, (S j).L, p, xs, ds⟩) := by
  have b : But (· = dd) H (upd H dd (.lst ([V.ref (S 0).dl, V.ref (S 1).dl].set j (.ref p)))) := But.lst h.hd rfl
  have eL : ∀ i, (put S j ⟨(S j).b, (S j).B, (S j).L, p, xs, ds⟩ i).L = (S i).L := fun i => by
    by_cases c : i = j
    · subst c; rw [put_at]
    · rw [put_ne c]
  have eb : ∀ i, (put S j ⟨(S j).b, (S j).B, (S j).L, p, xs, ds⟩ i).b = (S i).b := fun i => by
    by_cases c : i = j
    · subst c; rw [put_at]
    · rw [put_ne c]
  have eX : XF dd (put S j ⟨(S j).b, (S j).B, (S j).L, p, xs, ds⟩) = XF dd S := by
    funext x
    unfold XF
    simp only [eL]
  have ne : ∀ x, ¬ XF dd S x → ¬ x = dd := fun x n z => n (.inr z)
  have dk : ∀ {ys : List V} {es : List Dd}, Paired (DdAt (fun l => ¬ XF dd S l) H) ys es → Paired (DdAt (fun l => ¬ XF dd S l) (upd H dd (.lst ([V.ref (S 0).dl, V.ref (S 1).dl].set j (.ref p))))) ys es := fun q => Paired.mapP q fun _ _ z => z.keep b fun a f => ne a f
  refine ⟨fun x o e => ?_, by rw [eb, eb]; exact b.keep _ _ h.hb (ne _ h.nb), by rw [eX]; exact h.nb, ?_, fun i hi2 => ?_, fun i k hi2 hk n x z => ?_, fun i hi2 => by rw [eL]; exact h.no i hi2, fun x z => h.fr x (by rw [← eX]; exact z)⟩
  · rw [upd_ne (fun y => by rw [y, h.fr dd (.inr rfl)] at e; cases e)]
    exact h.same _ _ e
  · have : j = 0 ∨ j = 1 := by omega
    rcases this with rfl | rfl
    · rw [upd_same, put_at, put_ne (by decide)]; rfl
    · rw [upd_same, put_at, put_ne (by decide)]; rfl
  · rw [eX]
    have q := h.half i hi2
    have bki := q.bk.keep b fun x z y => z (by rw [y]; exact h.no i hi2)
    by_cases c : i = j
    · subst c
      rw [put_at]
      exact ⟨bki, q.ok, q.hi, b.keep _ _ hp (ne _ np), np, dk pd, gd⟩
    · rw [put_ne c]
      exact ⟨bki, q.ok, q.hi, b.keep _ _ q.dl (ne _ q.nd), q.nd, dk q.pd, q.gd⟩
  · rw [eL] at z ⊢
    exact h.dj i k hi2 hk n x z
/-- what has just been made is not of the books -/
theorem Two.fresh {K : PySem.W.Frag} {H0 H : Hp} {bl dd : Addr} {S : Nat → HD} (h : Two K H0 H bl dd S) {x : Addr} (e : H x = none) : ¬ XF dd S x := fun z => by
  rcases z with ⟨j, hj, z⟩ | z
  · obtain ⟨o, q⟩ := (h.half j hj).bk.dom x z
    rw [e] at q; cases q
  · rw [z, h.hd] at e; cases e
/-- a list of deeds and the empty list -/
theorem dDeed_lay {d : Dd} (g : d.good) (pl : d.plain) : PyData.canLay0 (dDeed d) = true ∧ PyData.depth (dDeed d) ≤ 4 := by
  cases d with
  | ord ls =>
    obtain ⟨a, b⟩ := dRows_lay (lt_rws (pl ls rfl))
    refine ⟨?_, ?_⟩
    · simp only [dDeed, PyData.canLay0, PyData.canLayAll0, a]
      decide +kernel
    · simp only [dDeed, PyData.depth, PyData.depthAll]
      omega
  | ln w o l n =>
    obtain ⟨a, b⟩ := dTup_lay (r := [.str w, .int o, .int l, .int n]) (.cons (Dd.wd (d := .ln w o l n) g) (.cons .int (.cons .int (.cons .int .nil))))
    exact ⟨a, by show PyData.depth (dTup _) ≤ 4; omega⟩
  | mo w o n =>
    obtain ⟨a, b⟩ := dTup_lay (r := [.str w, .int o, .int n]) (.cons (Dd.wd (d := .mo w o n) g) (.cons .int (.cons .int .nil)))
    exact ⟨a, by show PyData.depth (dTup _) ≤ 4; omega⟩
  | mv o p n =>
    obtain ⟨a, b⟩ := dTup_lay (r := [.str "move", .int o, .int p, .int n]) (.cons (Dd.wd (d := .mv o p n) g) (.cons .int (.cons .int (.cons .int .nil))))
    exact ⟨a, by show PyData.depth (dTup _) ≤ 4; omega⟩
theorem deeds_dp {K : PySem.W.Frag} {F : Addr → Prop} {H : Hp} : ∀ {xs : List V} {ds : List Dd}, Paired (DdAt F H) xs ds → Deeds ds → DpAll K H xs (ds.map dDeed)
  | _, _, .nil, _ => .nil
  | _, _, .cons h r, g => .cons (deed_dp (K := K) (g _ List.mem_cons_self).1 (Good.plain (g _ List.mem_cons_self).2) h).1 (deeds_dp r fun d hd => g d (List.mem_cons_of_mem _ hd))
theorem r_neDl {K : PySem.W.Frag} {F : Addr → Prop} {H : Hp} {Q : VK} {dl e : Addr} {xs : List V} {ds : List Dd} (hd : H dl = some (.lst xs)) (pd : Paired (DdAt F H) xs ds) (gd : Deeds ds) (he : H e = some (.lst [])) (k : Q (.bl (!decide (ds = []))) H) : rNeD K (.ref dl) (.ref e) H Q := by
  have sh : SeqAt.shaped (.list (ds.map dDeed)) = true := by
    obtain ⟨a, b⟩ := lay_all (ds := ds.map dDeed) (n := 4) fun u hu => by
      obtain ⟨d, hd, rfl⟩ := List.mem_map.mp hu
      exact dDeed_lay (gd d hd).1 (Good.plain (gd d hd).2)
    have c : PyData.canLay0 (.list (ds.map dDeed)) = true := by simp only [PyData.canLay0]; exact a
    have e : PyData.depth (.list (ds.map dDeed)) ≤ 5 := by simp only [PyData.depth]; omega
    unfold SeqAt.shaped
    rw [c, decide_eq_true (by omega)]
    rfl
  refine ⟨.list (ds.map dDeed), .list [], .lst (SqL.of hd) (deeds_dp pd gd), .lst (SqL.of he) .nil, sh, by decide +kernel, ?_⟩
  have q : PyData.eqv (.list (ds.map dDeed)) (.list []) = decide (ds = []) := by
    cases ds with
    | nil => simp [PyData.eqv, PyData.eqvAll]
    | cons o r => simp [PyData.eqv, PyData.eqvAll]
  rw [q]
  exact k
theorem Hist.nil {B : Bk} (h : Hist B) (e : B.trail = []) : B = ⟨[], []⟩ := by
  obtain ⟨es, ds⟩ := B
  have e' : ds = [] := e
  subst e'
  have h' : replay [] [] = some es := h
  cases h'
  rfl
theorem done_keeps {B : Bk} {d : Dd} (ok : B.ok) (hi : Hist B) (g : d.good) : (doneB B d).ok ∧ Hist (doneB B d) := by
  cases st : step B.each d with
  | error e => rw [done_err st]; exact ⟨ok, hi⟩
  | ok r =>
    obtain ⟨es, cs⟩ := r
    rw [done_ok st]
    exact ⟨step_ok ok g st, replay_snoc hi st⟩
theorem ref_done {os : List Od} {d : Dd} (gd : ∀ ls, d = .ord ls → Good ls ∧ os.length < 4) : (refOf os d = "" ∧ ∃ es cs, step os d = .ok (es, cs)) ∨ (refOf os d ≠ "" ∧ ∃ e, step os d = .error e) := by
  by_cases no : ∃ ls, d = .ord ls
  · obtain ⟨ls, rfl⟩ := no
    obtain ⟨G, l⟩ := gd ls rfl
    exact .inl ⟨rfl, _, _, G.step (by omega)⟩
  · have r : ∀ x : Res, step os d = x → refOf os d = match (motive := Res → Str) x with
      | .error e => e.name
      | .ok _ => "" := fun x st => by
      cases d with
      | ord ls => exact absurd ⟨ls, rfl⟩ no
      | ln w o l n => first | (simp only [refOf]; rw [st]; done) | (simp only [refOf]; rw [st]; cases x <;> rfl)
      | mo w o n => first | (simp only [refOf]; rw [st]; done) | (simp only [refOf]; rw [st]; cases x <;> rfl)
      | mv o p n => first | (simp only [refOf]; rw [st]; done) | (simp only [refOf]; rw [st]; cases x <;> rfl)
    cases st : step os d with
    | error e =>
      refine .inr ⟨?_, e, rfl⟩
      rw [r _ st]
      show e.name ≠ ""
      cases e <;> decide +kernel
    | ok c =>
      obtain ⟨es, cs⟩ := c
      exact .inl ⟨by rw [r _ st], es, cs, rfl⟩
theorem put_put {S : Nat → HD} {j : Nat} {a b : HD} : put (put S j a) j b = put S j b := by
  funext i
  unfold put
  split <;> rfl
/-- the last deed is let go -/
theorem Two.shrink {K : PySem.W.Frag} {H0 H : Hp} {bl dd p : Addr} {S : Nat → HD} {j : Nat} {ds0 : List Dd} {d : Dd} (h : Two K H0 H bl dd S) (hj : j < 2) (e : (S j).ds = ds0 ++ [d]) (hp : H p = none) :
    Two K H0 (upd (upd H p (.lst ((S j).xs.take ds0.length))) dd (.lst ([V.ref (S 0).dl, V.ref (S 1).dl].set j (.ref p)))) bl dd (put S j ⟨(S j).b, (S j).B, (S j).L, p, (S j).xs.take ds0.length, ds0⟩) := by
  have q := h.half j hj
  have s := same_upd (o := .lst ((S j).xs.take ds0.length)) hp
  have h2 := h.keep s
  refine h2.list hj upd_same (h.fresh hp) ?_ fun x hx => q.gd x (by rw [e]; exact List.mem_append_left _ hx)
  have pt := pr_take ds0.length (h2.half j hj).pd
  rw [e, List.take_left] at pt
  exact pt
theorem Two.len {K : PySem.W.Frag} {H0 H : Hp} {bl dd : Addr} {S : Nat → HD} {j : Nat} {ds0 : List Dd} {d : Dd} (h : Two K H0 H bl dd S) (hj : j < 2) (e : (S j).ds = ds0 ++ [d]) : (S j).xs.length = ds0.length + 1 := by
  rw [(h.half j hj).pd.length, e]
  simp
/-- a deed more -/
theorem Two.more {K : PySem.W.Frag} {H0 H : Hp} {bl dd p : Addr} {S : Nat → HD} {j : Nat} {v : V} {d : Dd} (h : Two K H0 H bl dd S) (hj : j < 2) (hd : DdAt (fun l => ¬ XF dd S l) H v d) (g : d.good) (gd : ∀ ls, d = .ord ls → Good ls) (hp : H p = none) :
    Two K H0 (upd (upd H p (.lst ((S j).xs ++ [v]))) dd (.lst ([V.ref (S 0).dl, V.ref (S 1).dl].set j (.ref p)))) bl dd (put S j ⟨(S j).b, (S j).B, (S j).L, p, (S j).xs ++ [v], (S j).ds ++ [d]⟩) := by
  have q := h.half j hj
  have s := same_upd (o := .lst ((S j).xs ++ [v])) hp
  have h2 := h.keep s
  refine h2.list hj upd_same (h.fresh hp) (Paired.snoc (h2.half j hj).pd (hd.keep (But.of (S := fun _ => False) s) fun _ _ => id)) fun x hx => ?_
  rcases List.mem_append.mp hx with z | z
  · exact q.gd x z
  · rw [List.mem_singleton.mp z]
    exact ⟨g, gd⟩
/-- at a turn's end the deeds that stand are the book's -/
def Bound (S : Nat → HD) (n : Nat) : Prop := ∀ j, j < 2 → (S j).B.trail = (S j).ds ∧ (S j).ds.length ≤ n
theorem Bound.put {S : Nat → HD} {n m j : Nat} {h : HD} (b : Bound S n) (l : n ≤ m) (e : h.B.trail = h.ds) (f : h.ds.length ≤ m) : Bound (put S j h) m := fun i hi => by
  by_cases c : i = j
  · subst c
    rw [put_at]
    exact ⟨e, f⟩
  · rw [put_ne c]
    exact ⟨(b i hi).1, Nat.le_trans (b i hi).2 l⟩
theorem Two.held {K : PySem.W.Frag} {H0 H H' : Hp} {bl dd : Addr} {S : Nat → HD} {j : Nat} {B' : Bk} {L' : Lay} {v : V} {d : Dd} (h : Two K H0 H bl dd S) (hj : j < 2) (m : Mod (S j).L L' H H') (hd : DdAt (fun l => ¬ XF dd S l) H v d) :
    DdAt (fun l => ¬ XF dd (put S j ⟨(S j).b, B', L', (S j).dl, (S j).xs, (S j).ds⟩) l) H' v d := by
  have grow : ∀ x, XF dd (put S j ⟨(S j).b, B', L', (S j).dl, (S j).xs, (S j).ds⟩) x → XF dd S x ∨ H x = none := fun x z => by
    rcases z with ⟨i, hi2, z⟩ | z
    · by_cases c : i = j
      · subst c
        rw [put_at] at z
        rcases m.grow x z with q | q
        · exact .inl (.inl ⟨i, hi2, q⟩)
        · exact .inr q
      · rw [put_ne c] at z
        exact .inl (.inl ⟨i, hi2, z⟩)
    · exact .inl (.inr z)
  refine ((hd.imp (F' := fun l => ¬ XF dd S l ∧ ∃ o, H l = some o) fun a f e => ⟨f, e⟩).keep m.but fun a f z => f.1 (.inl ⟨j, hj, z⟩)).imp fun a f _ z => ?_
  obtain ⟨o, e⟩ := f.2
  rcases grow a z with q | q
  · exact f.1 q
  · rw [e] at q; cases q
theorem r_whl {c : TT} {tb : TS} {D : Ends} {σ : L2.St} {H : Hp} (W : Nat → L2.St → Hp → Prop) (m : Nat) (w0 : W m σ H)
    (h : ∀ m σ H, W m σ H → c σ H fun b H1 => if b = true then ∃ N : L2.St → Hp → Prop, (∀ σ' H', N σ' H' → ∃ m', m' < m ∧ W m' σ' H') ∧ tb { D with nx := N, ct := N, bk := D.nx } σ H1 else D.nx σ H1) : tWhile c tb D σ H := ⟨W, ⟨m, w0⟩, h⟩

/-! ### the law -/
def spLaw (K : PySem.W.Frag) : Sp := fun vs H Q _ => ∃ a, vs = [.ref a] ∧ Script K H a ∧ ∀ H', Q (.bl true) H'
theorem len_Law {K : PySem.W.Frag} {vs : List V} {H : Hp} {Q : VK} {E : XK} (h : spLaw K vs H Q E) : vs.length = 1 := by
  obtain ⟨_, rfl, _⟩ := h; rfl
theorem ok_Law {P : Program} {w : World} {K : PySem.W.Frag} {mg : Str → Option Value} {base : Heap} (T : Tx w K mg) : FnOk P w K mg base CX0 10 (He.fAd K dLaw.at_) (fdO K dLaw.at_) P_Law (spLaw K) := by
  refine T.f_Law.ok sc_Law (fun vs H Q E h => len_Law h) (fun cdv A outer s H vs Q E hr h => ⟨_, PSs.nox ((pss_cons (ps_set (i := 1) sc_Law.nd rfl (Or.inl rfl) (pe_lst (pa_cons (pe_make0 T.mk_Book (ok_BookInit T) (hr.mono (by decide)) rfl T.g_Book T.b_BookInit .nil pass0) (pa_cons (pe_make0 T.mk_Book (ok_BookInit T) (hr.mono (by decide)) rfl T.g_Book T.b_BookInit .nil pass0) pa_nil))))
      (pss_cons (ps_set (i := 2) sc_Law.nd rfl (Or.inl rfl) (pe_lst (pa_cons (pe_call (ok_LPaidFirst T) (hr.mono (by decide)) rfl T.g_LPaidFirst T.f_LPaidFirst.kp T.b_LPaidFirst .nil pass0 (pa_cons (pe_ix ix_list (pv 1) pe_int (fun _ _ => rfl)) (pa_cons (pe_call (ok_LCellAt T) (hr.mono (by decide)) rfl T.g_LCellAt T.f_LCellAt.kp T.b_LCellAt .nil pass0 (pa_cons (pv 0) (pa_cons pe_int pa_nil))) pa_nil))) (pa_cons (pe_lst pa_nil) pa_nil))))
      (pss_cons (ps_for PassesOwn.never rfl (pi_range1 (by rfl) T.b_range (pa_cons (pe_op op_fdiv (pe_callB call_len_seq (by rfl) T.b_len (by decide +kernel) (pa_cons (pv 0) pa_nil)) pe_int) pa_nil)) (pg_name (i := 3) sc_Law.nd rfl (Or.inl rfl)) (pss_cons (ps_set (i := 4) sc_Law.nd rfl (Or.inl rfl) (pe_callTy call_int1 (by rfl) T.b_int (by decide +kernel) (pa_cons (pe_cmpR op_eq (pe_op op_mod (pe_op op_mod (pe_op op_mul (pe_ix ix_list (pv 0) (pe_op op_mul pe_int (pv 3)) (fun _ _ => rfl)) pe_int) pe_int) pe_int) pe_int (nomark _)) pa_nil)))
      (pss_cons (ps_set (i := 5) sc_Law.nd rfl (Or.inl rfl) (pe_call (ok_LModelOf T) (hr.mono (by decide)) rfl T.g_LModelOf T.f_LModelOf.kp T.b_LModelOf .nil pass0 (pa_cons (pe_ix ix_list (pv 2) (pv 4) (fun _ _ => rfl)) pa_nil)))
      (pss_cons (ps_set (i := 6) sc_Law.nd rfl (Or.inl rfl) (pe_call (ok_LDeedBy T) (hr.mono (by decide)) rfl T.g_LDeedBy T.f_LDeedBy.kp T.b_LDeedBy .nil pass0 (pa_cons (pe_ix ix_list (pv 0) (pe_op op_mul pe_int (pv 3)) (fun _ _ => rfl)) (pa_cons (pe_ix ix_list (pv 0) (pe_op op_add (pe_op op_mul pe_int (pv 3)) pe_int) (fun _ _ => rfl)) (pa_cons (pv 5) pa_nil)))))
      (pss_one (ps_if (PW.pt (pw_and (pt_cmpR (op_neD hr.units) (pe_ix ix_list (pv 2) (pv 4) (fun _ _ => rfl)) (pe_lst pa_nil) (nomark _)) (pw_and1 (pt_cmpR op_eq (pe_op op_mod (pe_op op_mod (pe_op op_mul (pe_ix ix_list (pv 0) (pe_op op_mul pe_int (pv 3)) (fun _ _ => rfl)) pe_int) pe_int) pe_int) pe_int (nomark _))))) (pss_cons (ps_if (pt_not (pt_val (pe_call (ok_LBack T) (hr.mono (by decide)) rfl T.g_LBack T.f_LBack.kp T.b_LBack .nil pass0 (pa_cons (pe_ix ix_list (pv 1) (pv 4) (fun _ _ => rfl)) (pa_cons (pe_ix ix_list (pv 2) (pv 4) (fun _ _ => rfl)) pa_nil))))) (pss_one (ps_ret pe_bl)) pss_nil)
      (pss_one (ps_asg (pe_slice sl_list (pe_ix ix_list (pv 2) (pv 4) (fun _ _ => rfl)) po_none (po_some (pe_un un_neg pe_int))) (pg_sub (pv 2) (pv 4) set_list)))) (pss_cons (ps_expr (pe_call (ok_LDone T) (hr.mono (by decide)) rfl T.g_LDone T.f_LDone.kp T.b_LDone .nil pass0 (pa_cons (pe_ix ix_list (pv 1) (pv 4) (fun _ _ => rfl)) (pa_cons (pv 6) pa_nil))))
      (pss_cons (ps_if (pt_cmpR op_eq (pe_call (ok_LRefusal T) (hr.mono (by decide)) rfl T.g_LRefusal T.f_LRefusal.kp T.b_LRefusal .nil pass0 (pa_cons (pv 6) (pa_cons (pv 5) pa_nil))) pe_str (nomark _)) (pss_one (ps_asg (pe_op op_cat (pe_ix ix_list (pv 2) (pv 4) (fun _ _ => rfl)) (pe_lst (pa_cons (pv 6) pa_nil))) (pg_sub (pv 2) (pv 4) set_list))) pss_nil)
      (pss_one (ps_if (pt_not (pt_val (pe_call (ok_LStandsBy T) (hr.mono (by decide)) rfl T.g_LStandsBy T.f_LStandsBy.kp T.b_LStandsBy .nil pass0 (pa_cons (pe_ix ix_list (pv 1) (pv 4) (fun _ _ => rfl)) (pa_cons (pe_ix ix_list (pv 2) (pv 4) (fun _ _ => rfl)) pa_nil))))) (pss_one (ps_ret pe_bl)) pss_nil))))))))))
      (pss_cons (ps_for PassesOwn.never rfl (pi_range1 (by rfl) T.b_range (pa_cons pe_int pa_nil)) (pg_name (i := 4) sc_Law.nd rfl (Or.inl rfl)) (pss_one (ps_while PassesOwn.never (pt_cmpR (op_neD hr.units) (pe_ix ix_list (pv 2) (pv 4) (fun _ _ => rfl)) (pe_lst pa_nil) (nomark _)) (pss_cons (ps_if (pt_not (pt_val (pe_call (ok_LBack T) (hr.mono (by decide)) rfl T.g_LBack T.f_LBack.kp T.b_LBack .nil pass0 (pa_cons (pe_ix ix_list (pv 1) (pv 4) (fun _ _ => rfl)) (pa_cons (pe_ix ix_list (pv 2) (pv 4) (fun _ _ => rfl)) pa_nil))))) (pss_one (ps_ret pe_bl)) pss_nil)
      (pss_one (ps_asg (pe_slice sl_list (pe_ix ix_list (pv 2) (pv 4) (fun _ _ => rfl)) po_none (po_some (pe_un un_neg pe_int))) (pg_sub (pv 2) (pv 4) set_list)))))))
      (pss_one (ps_ret (pe_and (pe_call (ok_LNothing T) (hr.mono (by decide)) rfl T.g_LNothing T.f_LNothing.kp T.b_LNothing .nil pass0 (pa_cons (pe_ix ix_list (pv 1) pe_int (fun _ _ => rfl)) pa_nil)) (pe_one (pe_call (ok_LNothing T) (hr.mono (by decide)) rfl T.g_LNothing T.f_LNothing.kp T.b_LNothing .nil pass0 (pa_cons (pe_ix ix_list (pv 1) pe_int (fun _ _ => rfl)) pa_nil))))))))))), ?_⟩)
  obtain ⟨s, rfl, scr, k⟩ := h
  obtain ⟨ns, hs0, hn⟩ := id scr
  have ki : ∀ H'', Same H H'' → SqL K H'' s (ns.map V.int) := fun H'' q => SqL.keep hs0 fun o e => q _ _ e
  walk_at "rd"
  intro b1 dx1 nb1 ndx1 ne1
  refine ⟨b1, dx1, rfl, upd_same, fun La H2 h2 bt2 own2 _ => ⟨rfl, ?_⟩⟩
  have N2 : New La H H2 := ⟨bt2.made (made_same nb1 ndx1) nb1, made_own own2 nb1⟩
  walk_at "rd"
  intro b2 dx2 nb2 ndx2 ne2
  refine ⟨b2, dx2, rfl, upd_same, fun Lb H4 h4 bt4 own4 _ => ⟨rfl, ?_⟩⟩
  have N4 : New Lb H2 H4 := ⟨bt4.made (made_same nb2 ndx2) nb2, made_own own4 nb2⟩
  walk_at "rd"
  refine r_mk (by simp) fun bl hbl => ?_
  have s5 := same_upd (o := .lst [.ref b1, .ref b2]) hbl
  have e5 : upd H4 bl (.lst [.ref b1, .ref b2]) bl = some (.lst [.ref b1, .ref b2]) := upd_same
  revert s5 e5
  generalize upd H4 bl (.lst [.ref b1, .ref b2]) = H5
  intro s5 e5
  have s25 := N4.same.trans s5
  have s05 := N2.same.trans s25
  have h1 := h2.same s25
  have h2' := h4.same s5
  walk_at "rd"
  refine r_ixL (SqL.of e5) (atI_get (j := 0) rfl rfl) ?_
  walk_at "rd"
  refine ⟨s, _, rfl, scr.same s05, by decide, fun c => ?_⟩
  walk_at "rd"
  refine ⟨b1, La, c, rfl, h1, fun dl xs B L' H6 bk6 ok6 hi6 gd6 l6 edl pd6 ndl fdl m6 st6 => ?_⟩
  walk_at "rd"
  refine r_mk (by simp) fun e hee => ?_
  have s7 := same_upd (o := .lst []) hee
  have e7 : upd H6 e (.lst []) e = some (.lst []) := upd_same
  revert s7 e7
  generalize upd H6 e (.lst []) = H7
  intro s7 e7
  walk_at "rd"
  refine r_mk (by simp) fun dd hdd => ?_
  have s8 := same_upd (o := .lst [.ref dl, .ref e]) hdd
  have e8 : upd H7 dd (.lst [.ref dl, .ref e]) dd = some (.lst [.ref dl, .ref e]) := upd_same
  revert s8 e8
  generalize upd H7 dd (.lst [.ref dl, .ref e]) = H8
  intro s8 e8
  -- what is of the books
  have laH : ∀ x, La.own x ≠ .no → H x = none := N2.own
  have lbH : ∀ x, Lb.own x ≠ .no → H2 x = none := N4.own
  have g6 : ∀ x, L'.own x ≠ .no → La.own x ≠ .no ∨ H5 x = none := m6.grow
  have dis : ∀ x, La.own x ≠ .no → Lb.own x = .no := fun x z => Classical.byContradiction fun y => by
    obtain ⟨o, q⟩ := h2.dom x z
    rw [lbH x y] at q; cases q
  have dd6 : H6 dd = none := Same.free s7 hdd
  have dd5 : H5 dd = none := st6 _ dd6
  have s78 := s7.trans s8
  let S : Nat → HD := fun j => if j = 0 then ⟨b1, B, L', dl, xs, B.trail⟩ else ⟨b2, ⟨[], []⟩, Lb, e, [], []⟩
  have n2dd : Lb.own dd = .no := h4.fresh (Same.free s5 dd5)
  have n1dd : L'.own dd = .no := bk6.fresh dd6
  have oX : ∀ x, XF dd S x → L'.own x ≠ .no ∨ Lb.own x ≠ .no ∨ x = dd := fun x z => by
    rcases z with ⟨j, hj, z⟩ | z
    · have : j = 0 ∨ j = 1 := by omega
      rcases this with rfl | rfl
      · exact .inl z
      · exact .inr (.inl z)
    · exact .inr (.inr z)
  have blLa : La.own bl = .no := h2.fresh (Same.free N4.same hbl)
  obtain ⟨bl6, blL'⟩ := m6.no e5 blLa
  have T0 : Two K H H8 bl dd S := by
    refine ⟨fun x o e => s78 _ _ (m6.but.keep _ _ (s05 _ _ e) fun f => by rw [laH x f] at e; cases e), s78 _ _ bl6, fun z => ?_, e8, fun j hj => ?_, fun i j hi hj n x z => ?_, fun j hj => ?_, fun x z => ?_⟩
    · rcases oX _ z with q | q | q
      · exact q blL'
      · exact q (h4.fresh hbl)
      · rw [q, dd6] at bl6; cases bl6
    · have : j = 0 ∨ j = 1 := by omega
      rcases this with rfl | rfl
      · refine ⟨bk6.same s78, ok6, hi6, s78 _ _ edl, fun z => ?_, dd_same (Paired.mapP pd6 fun v d q => q.imp fun a f ex z => ?_) s78, gd6⟩
        · rcases oX _ z with q | q | q
          · exact q ndl
          · exact q (h2'.fresh fdl)
          · have q' : dl = dd := q
            rw [q', dd6] at edl; cases edl
        · rcases oX _ z with q | q | q
          · exact q f.1
          · exact q (h2'.fresh f.2)
          · obtain ⟨o, ex⟩ := ex
            rw [q, dd6] at ex; cases ex
      · refine ⟨(h2'.keep m6.but fun x z f => z (dis x f)).same s78, ok0, rfl, s8 _ _ e7, fun z => ?_, .nil, fun d hd => by cases hd⟩
        rcases oX _ z with q | q | q
        · exact q (bk6.fresh hee)
        · exact q (h2'.fresh (st6 _ hee))
        · have q' : e = dd := q
          rw [q', hdd] at e7; cases e7
    · have a : i = 0 ∨ i = 1 := by omega
      have b : j = 0 ∨ j = 1 := by omega
      rcases a with rfl | rfl <;> rcases b with rfl | rfl
      · exact absurd rfl n
      · rcases g6 x z with q | q
        · exact dis x q
        · exact h2'.fresh q
      · refine Classical.byContradiction fun y => ?_
        rcases g6 x y with q | q
        · exact z (dis x q)
        · obtain ⟨o, e⟩ := h2'.dom x z
          rw [e] at q; cases q
      · exact absurd rfl n
    · have : j = 0 ∨ j = 1 := by omega
      rcases this with rfl | rfl
      · exact n1dd
      · exact n2dd
    · rcases oX x z with q | q | q
      · rcases g6 x q with q | q
        · exact laH x q
        · exact Same.free s05 q
      · exact Same.free N2.same (lbH x q)
      · rw [q]; exact Same.free s05 dd5
  have b0 : Bound S 100 := fun j hj => by
    have : j = 0 ∨ j = 1 := by omega
    rcases this with rfl | rfl
    · exact ⟨rfl, l6⟩
    · exact ⟨rfl, Nat.zero_le _⟩
  revert T0 b0
  generalize S = S
  intro T0 b0
  clear oX n1dd n2dd dd5 dd6 dis g6 lbH laH
  walk_at "rd"
  refine ⟨s, _, rfl, .inl (ki _ T0.same), ?_⟩
  rw [List.length_map]
  walk_at "rd"
  walk_at "md"
  refine ⟨_, rfl, by omega, by omega, for_range (lo := 0) (n := (((ns.length : Nat) : Int) / 2).toNat) (fun i σ H' => ∃ (S : Nat → HD) (v3 v4 v5 v6 : Option V), σ = [some (.ref s), some (.ref bl), some (.ref dd), v3, v4, v5, v6] ∧ Two K H H' bl dd S ∧ Bound S (100 + i))
    ⟨S, none, none, none, none, rfl, T0, b0⟩ ?_ ?_⟩
  · rintro i σ H9 hi ⟨S, v3, v4, v5, v6, rfl, T9, b9⟩
    rw [Int.zero_add]
    have hs9 := ki _ T9.same
    have l1 : 2 * i + 1 < ns.length := by omega
    walk_at "rd"
    walk_at "ml"
    refine r_ixL hs9 (atI_get (j := 2 * i) (by omega) (int_at (by omega))) ?_
    walk_at "rd"
    walk_at "ml"
    walk_at "rd"
    walk_at "md"
    walk_at "rd"
    walk_at "md"
    walk_at "rd"
    refine .inr ⟨_, rfl, ?_⟩
    obtain ⟨j, hj, ej⟩ : ∃ j : Nat, j < 2 ∧ (if decide (ns[2 * i] * 48271 % 10103 % 4 = 0) = true then (1 : Int) else 0) = (j : Int) := by
      split
      · exact ⟨1, by decide, rfl⟩
      · exact ⟨0, by decide, rfl⟩
    rw [ej]
    have Q9 := T9.half j hj
    obtain ⟨tr9, ln9⟩ := b9 j hj
    walk_at "rd"
    refine r_ixL (SqL.of T9.hd) (atI_get (j := j) rfl (pair_at (f := fun i => V.ref (S i).dl) hj)) ?_
    walk_at "rd"
    refine ⟨_, (S j).dl, (S j).xs, (S j).ds, (S j).B.each, rfl, Q9.dl, Q9.pd, Q9.gd, by omega, by rw [← tr9]; exact Q9.hi, fun a A H10 acc os s10 na fa => ?_⟩
    have T10 := T9.keep s10
    have hs10 := ki _ T10.same
    walk_at "rd"
    walk_at "ml"
    refine r_ixL hs10 (atI_get (j := 2 * i) (by omega) (int_at (by omega))) ?_
    walk_at "rd"
    walk_at "ml"
    walk_at "rd"
    refine r_ixL hs10 (atI_get (j := 2 * i + 1) (by omega) (int_at (by omega))) ?_
    walk_at "rd"
    refine ⟨_, _, a, _, A, rfl, acc, os, fun v d H11 s11 hd g gd _ => ?_⟩
    have T11 := T10.keep s11
    have hs11 := ki _ T11.same
    have acc11 := acc.same s11
    have hdX : DdAt (fun l => ¬ XF dd S l) H11 v d := hd.imp fun a f _ => T10.fresh f
    have gd1 : ∀ ls, d = .ord ls → Good ls := fun ls e => (gd ls e).1
    have Q11 := T11.half j hj
    with_reducible refine ifj (fun b H' => Same H11 H' ∧ (b = true → (S j).ds ≠ [])) ?_ fun QB hQB => ?_
    rotate_left
    · walk_at "rd"
      refine r_ixL (SqL.of T11.hd) (atI_get (j := j) rfl (pair_at (f := fun i => V.ref (S i).dl) hj)) ?_
      walk_at "rd"
      refine r_mk (by simp) fun e he => ?_
      have se := same_upd (o := .lst []) he
      have T12 := T11.keep se
      have hs12 := ki _ T12.same
      refine r_neDl (T12.half j hj).dl (T12.half j hj).pd Q11.gd upd_same ?_
      walk_at "rd"
      refine r_itn (fun c1 => ?_) (fun c1 => ?_)
      rotate_left
      · exact hQB _ _ ⟨se, fun z => by cases z⟩
      walk_at "rd"
      walk_at "ml"
      refine r_ixL hs12 (atI_get (j := 2 * i) (by omega) (int_at (by omega))) ?_
      walk_at "rd"
      walk_at "ml"
      walk_at "rd"
      walk_at "md"
      walk_at "rd"
      walk_at "md"
      walk_at "rd"
      exact hQB _ _ ⟨se, fun _ => c1⟩
    rintro bb H12 ⟨s12, bb1⟩
    have T12 := T11.keep s12
    have acc12 := acc11.same s12
    have hd12 := hdX.keep (But.of (S := fun _ => False) s12) fun _ _ => id
    have Q12 := T12.half j hj
    have own : ∀ {x : Addr}, ¬ XF dd S x → (S j).L.own x = .no := fun {x} n => Classical.byContradiction fun z => n (.inl ⟨j, hj, z⟩)
    refine r_itb (fun cb => ?_) (fun cb => ?_)
    · -- the last one taken back
      obtain ⟨ds0, d0, e0⟩ : ∃ ds0 d0, (S j).ds = ds0 ++ [d0] := by
        rcases List.eq_nil_or_concat (S j).ds with z | ⟨L, b, z⟩
        · exact absurd z (bb1 cb)
        · exact ⟨L, b, by rw [z, List.concat_eq_append]⟩
      walk_at "rd"
      refine r_ixL (SqL.of T12.hb) (atI_get (j := j) rfl (pair_at (f := fun i => V.ref (S i).b) hj)) ?_
      walk_at "rd"
      refine r_ixL (SqL.of T12.hd) (atI_get (j := j) rfl (pair_at (f := fun i => V.ref (S i).dl) hj)) ?_
      walk_at "rd"
      refine ⟨(S j).b, (S j).B, (S j).L, (S j).dl, (S j).xs, ds0, d0, rfl, Q12.bk, Q12.ok, by rw [tr9, e0], Q12.hi, by rw [tr9]; exact Q12.gd, by rw [tr9]; omega, Q12.dl, own Q12.nd, by rw [tr9]; exact Paired.mapP Q12.pd fun _ _ q => q.imp fun a f _ => own f, fun L' H13 es rep bk13 m13 st13 => ?_⟩
      have ok13 := replay_ok rep fun x hx => (Q12.gd x (by rw [e0]; exact List.mem_append_left _ hx)).1
      have T13 := T12.book hj bk13 ok13 rep m13
      have e13 : (put S j ⟨(S j).b, ⟨es, ds0⟩, L', (S j).dl, (S j).xs, (S j).ds⟩ j).ds = ds0 ++ [d0] := by rw [put_at]; exact e0
      have T14 := fun p hp => T13.shrink hj e13 (p := p) hp
      have lx := T13.len hj e13
      have dl13 := (T13.half j hj).dl
      have hd13 := T13.hd
      have bd : Bound (put S j ⟨(S j).b, ⟨es, ds0⟩, L', (S j).dl, (S j).xs.take ds0.length, ds0⟩) (100 + (i + 1)) := b9.put (by omega) rfl (by
        have := congrArg List.length e0
        rw [List.length_append] at this
        show ds0.length ≤ _
        simp at this
        omega)
      have bd2 : ∀ p : Addr, Bound (put S j ⟨(S j).b, ⟨es, ds0⟩, L', p, (S j).xs.take ds0.length, ds0⟩) (100 + (i + 1)) := fun p => b9.put (by omega) rfl (bd j hj |>.2 |> fun q => by rw [put_at] at q; exact q)
      walk_at "rd"
      refine r_ixL (SqL.of hd13) (atI_get (j := j) rfl (pair_at (f := fun i => V.ref (put S j ⟨(S j).b, ⟨es, ds0⟩, L', (S j).dl, (S j).xs, (S j).ds⟩ i).dl) hj)) ?_
      walk_at "rd"
      refine r_sll (SqL.of dl13) fun p hp => ?_
      rw [cut_last lx]
      walk_at "rd"
      refine r_setL (same_upd hp _ _ hd13) (j := j) rfl (by simpa using hj) ?_
      walk_at "rd"
      refine ⟨_, _, _, _, _, rfl, T14 p hp, ?_⟩
      rw [put_put, put_at]
      exact bd2 p
    · -- one more done
      walk_at "rd"
      refine r_ixL (SqL.of T12.hb) (atI_get (j := j) rfl (pair_at (f := fun i => V.ref (S i).b) hj)) ?_
      walk_at "rd"
      refine ⟨(S j).b, (S j).B, (S j).L, v, d, rfl, Q12.bk, Q12.ok, by rw [tr9]; omega, hd12.imp (fun a f _ => own f), g, gd1, fun v' L' H13 bk13 m13 st13 => ?_⟩
      have dk := done_keeps Q12.ok Q12.hi g
      have T13 := T12.book hj bk13 dk.1 dk.2 m13
      have hd13 : DdAt (fun _ => True) H13 v d := (hd12.keep m13.but fun a f z => z (own f)).imp fun _ _ _ => trivial
      have acc13 : AccAt H13 a (S j).B.each A := acc12.keep m13.but fun x z f => f (Q9.bk.fresh (fa x z))
      have hX13 := T12.held (B' := doneB (S j).B d) hj m13 hd12
      revert T13 hX13
      have eS : ∃ S2 : Nat → HD, put S j ⟨(S j).b, doneB (S j).B d, L', (S j).dl, (S j).xs, (S j).ds⟩ = S2 ∧ (S2 j).B = doneB (S j).B d ∧ (S2 j).ds = (S j).ds ∧ ∀ i, i ≠ j → S2 i = S i := ⟨_, rfl, by rw [put_at], by rw [put_at], fun i n => put_ne n⟩
      obtain ⟨S2, eS, eB, eD, eN⟩ := eS
      rw [eS]
      intro T13 hX13
      have Q13 := T13.half j hj
      with_reducible refine r_join (fun σ' H' => ∃ S', σ' = [some (.ref s), some (.ref bl), some (.ref dd), some (.int (i : Int)), some (.int (j : Int)), some (.ref a), some v] ∧ Two K H H' bl dd S' ∧ Bound S' (100 + (i + 1))) ?_ fun N hN => ?_
      rotate_left
      · walk_at "rd"
        refine ⟨_, v, d, a, (S j).B.each, A, rfl, hd13, g, acc13, os, fun H14 s14 => ?_⟩
        have T14 := T13.keep s14
        have Q14 := T14.half j hj
        have hX14 := hX13.keep (But.of (S := fun _ => False) s14) fun _ _ => id
        walk_at "rd"
        rcases ref_done gd with ⟨re, es, cs, st⟩ | ⟨re, e, st⟩
        · refine r_ity re ?_
          walk_at "rd"
          refine r_ixL (SqL.of T14.hd) (atI_get (j := j) rfl (pair_at (f := fun i => V.ref (S2 i).dl) hj)) ?_
          walk_at "rd"
          refine r_mk (by simp) fun l hl => ?_
          have sl := same_upd (o := .lst [v]) hl
          have T15 := T14.keep sl
          have hX15 := hX14.keep (But.of (S := fun _ => False) sl) fun _ _ => id
          have lx : (S2 j).xs.length ≤ 400 := by
            rw [Q14.pd.length, eD]
            omega
          refine ⟨(S2 j).dl, l, _, _, rfl, rfl, sl _ _ Q14.dl, upd_same, by show (S2 j).xs.length + 1 ≤ sizeLine; exact sz5 (by omega), fun p hp => ?_⟩
          have T16 := T15.more hj hX15 g gd1 hp
          walk_at "rd"
          refine r_setL (same_upd hp _ _ T15.hd) (j := j) rfl (by simpa using hj) ?_
          walk_at "rd"
          refine hN _ _ ⟨_, rfl, T16, ?_⟩
          intro i2 hi2
          by_cases c : i2 = j
          · subst c
            rw [put_at]
            refine ⟨?_, ?_⟩
            · show (S2 i2).B.trail = (S2 i2).ds ++ [d]
              rw [eB, eD, done_ok st, tr9]
            · show ((S2 i2).ds ++ [d]).length ≤ _
              rw [eD, List.length_append]
              show (S i2).ds.length + 1 ≤ _
              omega
          · rw [put_ne c, eN i2 c]
            have := b9 i2 hi2
            exact ⟨this.1, by omega⟩
        · refine r_itz re ?_
          walk_at "rd"
          refine hN _ _ ⟨S2, rfl, T14, fun i2 hi2 => ?_⟩
          by_cases c : i2 = j
          · subst c
            rw [eB, eD, done_err st]
            exact ⟨tr9, by omega⟩
          · rw [eN i2 c]
            have := b9 i2 hi2
            exact ⟨this.1, by omega⟩
      rintro σ' H15 ⟨S3, rfl, T15, b15⟩
      have Q15 := T15.half j hj
      obtain ⟨tr15, ln15⟩ := b15 j hj
      walk_at "rd"
      refine r_ixL (SqL.of T15.hb) (atI_get (j := j) rfl (pair_at (f := fun i => V.ref (S3 i).b) hj)) ?_
      walk_at "rd"
      refine r_ixL (SqL.of T15.hd) (atI_get (j := j) rfl (pair_at (f := fun i => V.ref (S3 i).dl) hj)) ?_
      walk_at "rd"
      refine ⟨_, (S3 j).b, (S3 j).B, (S3 j).L, (S3 j).dl, (S3 j).xs, rfl, Q15.bk, Q15.ok, Q15.dl, by rw [tr15]; exact Q15.pd, by rw [tr15]; exact Q15.gd, by rw [tr15]; omega, Q15.hi, fun H16 s16 => ?_⟩
      walk_at "rd"
      exact ⟨S3, _, _, _, _, rfl, T15.keep s16, b15⟩
  · rintro σ H9 ⟨S, v3, v4, v5, v6, rfl, T9, b9⟩
    have b10 : Bound S 200 := fun j hj => ⟨(b9 j hj).1, by have := (b9 j hj).2; omega⟩
    walk_at "rd"
    refine ⟨_, rfl, by omega, by omega, for_range (lo := 0) (n := 2) (fun i σ H' => ∃ (S : Nat → HD) (v3 v4 v5 v6 : Option V), σ = [some (.ref s), some (.ref bl), some (.ref dd), v3, v4, v5, v6] ∧ Two K H H' bl dd S ∧ Bound S 200 ∧ ∀ q, q < i → (S q).ds = [])
      ⟨S, v3, v4, v5, v6, rfl, T9, b10, fun q hq => by omega⟩ ?_ ?_⟩
    · rintro j σ H10 hj ⟨S, v3, v4, v5, v6, rfl, T10, b10, z10⟩
      rw [Int.zero_add]
      walk_at "rd"
      refine r_whl (fun m σ H' => ∃ S : Nat → HD, σ = [some (.ref s), some (.ref bl), some (.ref dd), v3, some (.int (j : Int)), v5, v6] ∧ Two K H H' bl dd S ∧ Bound S 200 ∧ (∀ q, q < j → (S q).ds = []) ∧ (S j).ds.length = m) _ ⟨S, rfl, T10, b10, z10, rfl⟩ ?_
      rintro m σ H11 ⟨S, rfl, T11, b11, z11, lm⟩
      have Q11 := T11.half j hj
      obtain ⟨tr11, ln11⟩ := b11 j hj
      walk_at "rd"
      refine r_ixL (SqL.of T11.hd) (atI_get (j := j) rfl (pair_at (f := fun i => V.ref (S i).dl) hj)) ?_
      walk_at "rd"
      refine r_mk (by simp) fun e he => ?_
      have se := same_upd (o := .lst []) he
      have T12 := T11.keep se
      have Q12 := T12.half j hj
      refine r_neDl Q12.dl Q12.pd Q12.gd upd_same ?_
      revert T12 Q12
      generalize upd H11 e (.lst []) = H12
      intro T12 Q12
      walk_at "rd"
      refine r_itn (fun c1 => ?_) (fun c1 => ?_)
      rotate_left
      · exact ⟨S, _, _, _, _, rfl, T12, b11, fun q hq => by
          by_cases c : q = j
          · rw [c]; exact c1
          · exact z11 q (by omega)⟩
      obtain ⟨ds0, d0, e0⟩ : ∃ ds0 d0, (S j).ds = ds0 ++ [d0] := by
        rcases List.eq_nil_or_concat (S j).ds with z | ⟨L, b, z⟩
        · exact absurd z c1
        · exact ⟨L, b, by rw [z, List.concat_eq_append]⟩
      have ld0 : ds0.length + 1 = m := by
        rw [← lm, e0]
        simp
      have own : ∀ {x : Addr}, ¬ XF dd S x → (S j).L.own x = .no := fun {x} n => Classical.byContradiction fun z => n (.inl ⟨j, hj, z⟩)
      refine ⟨fun σ' H' => ∃ m', m' < m ∧ ∃ S : Nat → HD, σ' = [some (.ref s), some (.ref bl), some (.ref dd), v3, some (.int (j : Int)), v5, v6] ∧ Two K H H' bl dd S ∧ Bound S 200 ∧ (∀ q, q < j → (S q).ds = []) ∧ (S j).ds.length = m', fun _ _ q => q, ?_⟩
      walk_at "rd"
      refine r_ixL (SqL.of T12.hb) (atI_get (j := j) rfl (pair_at (f := fun i => V.ref (S i).b) hj)) ?_
      walk_at "rd"
      refine r_ixL (SqL.of T12.hd) (atI_get (j := j) rfl (pair_at (f := fun i => V.ref (S i).dl) hj)) ?_
      walk_at "rd"
      refine ⟨(S j).b, (S j).B, (S j).L, (S j).dl, (S j).xs, ds0, d0, rfl, Q12.bk, Q12.ok, by rw [tr11, e0], Q12.hi, by rw [tr11]; exact Q12.gd, by rw [tr11]; omega, Q12.dl, own Q12.nd, by rw [tr11]; exact Paired.mapP Q12.pd fun _ _ q => q.imp fun a f _ => own f, fun L' H13 es rep bk13 m13 st13 => ?_⟩
      have ok13 := replay_ok rep fun x hx => (Q12.gd x (by rw [e0]; exact List.mem_append_left _ hx)).1
      have T13 := T12.book hj bk13 ok13 rep m13
      have e13 : (put S j ⟨(S j).b, ⟨es, ds0⟩, L', (S j).dl, (S j).xs, (S j).ds⟩ j).ds = ds0 ++ [d0] := by rw [put_at]; exact e0
      have T14 := fun p hp => T13.shrink hj e13 (p := p) hp
      have lx := T13.len hj e13
      have dl13 := (T13.half j hj).dl
      have hd13 := T13.hd
      walk_at "rd"
      refine r_ixL (SqL.of hd13) (atI_get (j := j) rfl (pair_at (f := fun i => V.ref (put S j ⟨(S j).b, ⟨es, ds0⟩, L', (S j).dl, (S j).xs, (S j).ds⟩ i).dl) hj)) ?_
      walk_at "rd"
      refine r_sll (SqL.of dl13) fun p hp => ?_
      rw [cut_last lx]
      walk_at "rd"
      refine r_setL (same_upd hp _ _ hd13) (j := j) rfl (by simpa using hj) ?_
      walk_at "rd"
      refine ⟨ds0.length, by omega, _, rfl, T14 p hp, ?_, fun q hq => ?_, ?_⟩
      · rw [put_put, put_at]
        exact b11.put (Nat.le_refl _) rfl (by show ds0.length ≤ 200; omega)
      · rw [put_put, put_ne (by omega)]
        exact z11 q hq
      · rw [put_put, put_at]
    · rintro σ H10 ⟨S, v3, v4, v5, v6, rfl, T10, b10, z10⟩
      have nilB : ∀ j, j < 2 → (S j).B = ⟨[], []⟩ := fun j hj => Hist.nil (T10.half j hj).hi (by rw [(b10 j hj).1]; exact z10 j hj)
      have bk0 := (T10.half 0 (by decide)).bk
      have bk1 := (T10.half 1 (by decide)).bk
      rw [nilB 0 (by decide)] at bk0
      rw [nilB 1 (by decide)] at bk1
      have own0 : ∀ {x : Addr}, ¬ XF dd S x → (S 0).L.own x = .no := fun {x} n => Classical.byContradiction fun z => n (.inl ⟨0, by decide, z⟩)
      walk_at "rd"
      refine r_ixL (SqL.of T10.hb) (atI_get (j := 0) rfl rfl) ?_
      walk_at "rd"
      refine ⟨(S 0).b, (S 0).L, rfl, bk0, fun L' H11 m11 st11 => ?_⟩
      have hb11 := m11.but.keep _ _ T10.hb fun f => f (own0 T10.nb)
      have bk11 := bk1.keep m11.but fun x z f => f (T10.dj 1 0 (by decide) (by decide) (by decide) x z)
      walk_at "rd"
      refine r_ixL (SqL.of hb11) (atI_get (j := 1) rfl rfl) ?_
      walk_at "rd"
      exact ⟨(S 1).b, (S 1).L, rfl, bk11, fun L'' H12 _ _ => k _⟩

theorem Tx.b_Law_args {w : World} {K : PySem.W.Frag} {mg : Str → Option Value} (T : Tx w K mg) (s : Shared) (v : Value) : BindsTo s (fdO K dLaw.at_) ⟨[v], []⟩ [("_law_script", v)] := by
  have b := FunD.bindsA (ps := ["_law_script"]) T.f_Law fun _ _ _ _ _ _ us hl => match us, hl with | [_], _ => rfl
  exact b s [v] rfl
theorem law_start {K : PySem.W.Frag} {H : Hp} {a : Addr} {ns : List Int} (hs : SqL K H a (ns.map V.int)) (hl : ns.length ≤ 63) : spLaw K [.ref a] H (fun v _ => v = .bl true) fun _ _ _ => False := ⟨a, rfl, ⟨ns, hs, hl⟩, fun _ => rfl⟩
end Of
open PySem PySem.W PySem.Calls PyProof.Rows
set_option maxRecDepth 100000 in
set_option maxHeartbeats 0 in
theorem PySem.Challenge.cw_orderflow_k09_taken_back_holds : PySem.Challenge.rw_orderflow_k09_taken_back.Holds := by
  w_on; o_law
  refine HandSHeadRun.head_any (r := OpenLaw.row PySem.Challenge.rw_orderflow_k09_taken_back) (q := view (OpenLaw.row PySem.Challenge.rw_orderflow_k09_taken_back).prog [65]) (H := Of.hk) (ob := Of.ob) (M := 20000) (loose := Of.names) (d := HandSHeadRun.topDef (OpenLaw.row PySem.Challenge.rw_orderflow_k09_taken_back).prog 65) (kwd := []) Of.ob_eq
    (by kernel_rfl) (fun s => by kernel_rfl) Of.run (by kernel_rfl) (by kernel_rfl) (by kernel_rfl) (by rfl) (by first | assumption | decide +kernel) (by decide +kernel) ⟨rfl, rfl, rfl, rfl, rfl, by decide +kernel⟩ ?hw ?hc
  case hw => w_witness2
  case hc =>
    refine L2.walk_ofE (l := PySem.Challenge.rw_orderflow_k09_taken_back) (n := 63) (k := 10) (x := "_law_script") (CX := L2.CX0) rfl (by decide) (by kernel_rfl) ⟨rfl, by decide, by decide⟩ ?F (fun _ _ _ _ z => z)
    intro w mg fa h Y G hm0
    obtain ⟨K, KX, c⟩ := Y
    have T : Of.Tx w K mg := Of.tx_of KX G c
    have hm : mg ("law" : PySem.Str) = some (.ref fa) := by
      have e : (HandSHeadRun.topDef (OpenLaw.row PySem.Challenge.rw_orderflow_k09_taken_back).prog 65).name = ("law" : PySem.Str) := by kernel_rfl
      rw [← e]
      exact hm0
    have ef : fa = He.fAd K Of.dLaw.at_ := by
      have q := hm.symm.trans T.g_Law
      cases q
      rfl
    rw [ef]
    exact ⟨K, Of.fdO K Of.dLaw.at_, Of.spLaw K, KX, fun s v => T.b_Law_args s v, fun H a ns hl _ hS => Of.law_start hS hl, fun base _ _ => Of.ok_Law T⟩
#print axioms PySem.Challenge.cw_orderflow_k09_taken_back_holds
