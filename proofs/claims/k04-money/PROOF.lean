import PyProof.Rows.All
import Wide.All
import OpenK.AllK
import Wide.FinOn
import KE.KStateDown
import Lean
import HandS.ForMost
import HandS.ForExc
import HandS.More
import HandS.TryMany
import HandS.Walk
import HandS.IsInst
import HandS.Defaults
import HandS.Head0
import HandS.Head1
import HandS.Head2
import HandS.HeadEnd
import HandS.HeadHook1
import HandS.HeadHook2
import HandS.HeadHook3
import HandS.HeadHook4
import PySem.Challenge.RW_orderflow_k04_money
set_option Elab.async false
set_option linter.all false
set_option maxRecDepth 100000
set_option maxHeartbeats 0
namespace Of
open PySem PySem.Spec PyProof.Rows L2
/-! ### a written dict of text keys, whole -/
theorem kd_of {K : PySem.W.Frag} {w : World} {a : Addr} {ks : List Str} (h : He.dicW K a = some (He.keysIn w.params ks)) :
    ∃ es n, K.lookup a = some ⟨.type "dict", none, .dict es n, #[]⟩ ∧ PySem.W.KeysLit w.params es.toList ∧ es.toList.map He.keyOf = He.keysIn w.params ks ∧ (a == sysModules) = false := by
  obtain ⟨es, n, D⟩ := He.dicW_ok h
  refine ⟨es, n, D.at_, D.lit, ?_, D.low⟩
  unfold He.dicW at h
  rw [D.at_] at h
  have e2 : (match decide ((("dict" : String)) = "dict") && ((#[] : Array (Option Value)).isEmpty && !(a == sysModules)) with
    | true => some (es.toList.map He.keyOf)
    | false => none) = some (He.keysIn w.params ks) := h
  have e3 : (decide ((("dict" : String)) = "dict") && ((#[] : Array (Option Value)).isEmpty && !(a == sysModules))) = true := by
    rw [D.low]; rfl
  rw [e3] at e2
  exact Option.some.inj e2
/-! ### the text by places -/
def top (i : Nat) : Stmt := PySem.Challenge.pw_orderflow_k04_money.main.body.getD i (.Pass ⟨0, 0, 0, 0⟩)
abbrev sWorth : Stmt := top 18
abbrev sIsItem : Stmt := top 19
abbrev sCheckLine : Stmt := top 20
abbrev sLineInit : Stmt := inClass (top 21) 0
abbrev sLineKept : Stmt := inClass (top 21) 1
abbrev sLineToCome : Stmt := inClass (top 21) 2
abbrev sLineKeptWorth : Stmt := inClass (top 21) 3
abbrev sLineCharge : Stmt := inClass (top 21) 4
abbrev sLineDeliver : Stmt := inClass (top 21) 5
abbrev sLineBring : Stmt := inClass (top 21) 6
abbrev sLineReduce : Stmt := inClass (top 21) 7
abbrev sLineNumbers : Stmt := inClass (top 21) 8
abbrev sOrderInit : Stmt := inClass (top 23) 0
abbrev sOrderOwing : Stmt := inClass (top 23) 1
abbrev sOrderLineOf : Stmt := inClass (top 23) 2
abbrev sOrderNeedOver : Stmt := inClass (top 23) 3
abbrev sOrderTurnLine : Stmt := inClass (top 23) 4
abbrev sOrderTake : Stmt := inClass (top 23) 5
abbrev sOrderMark : Stmt := inClass (top 23) 6
abbrev sOwn : Stmt := top 28
abbrev sBookInit : Stmt := inClass (top 29) 0
abbrev sBookOrderOf : Stmt := inClass (top 29) 1
abbrev sBookDo : Stmt := inClass (top 29) 2
abbrev sBookBegin : Stmt := inClass (top 29) 3
abbrev sBookShift : Stmt := inClass (top 29) 4
abbrev sBookOne : Stmt := inClass (top 29) 5
abbrev sBookNeedNumber : Stmt := inClass (top 29) 6
abbrev sBookOrders : Stmt := inClass (top 29) 8
abbrev sBookTold : Stmt := inClass (top 29) 9
abbrev sBookPaid : Stmt := inClass (top 29) 10
abbrev sBookOwed : Stmt := inClass (top 29) 11
abbrev sLCellAt : Stmt := top 31
abbrev sLWhole : Stmt := top 32
abbrev sLNumberBy : Stmt := top 33
abbrev sLTried : Stmt := top 34
abbrev sLChanges : Stmt := top 35
abbrev sLPairsAlike : Stmt := top 36
abbrev sLStands : Stmt := top 37
abbrev sLBegun : Stmt := top 38
abbrev sLaw : Stmt := top 39
def dWorth : He.DefD := ⟨("worth", none), "worth", "worth", defArgs sWorth, defBody sWorth, defScope sWorth, [], []⟩
def dIsItem : He.DefD := ⟨("is_item", none), "is_item", "is_item", defArgs sIsItem, defBody sIsItem, defScope sIsItem, [], []⟩
def dCheckLine : He.DefD := ⟨("check_line", none), "check_line", "check_line", defArgs sCheckLine, defBody sCheckLine, defScope sCheckLine, [], []⟩
def dLineInit : He.DefD := ⟨("Line", some "__init__"), "__init__", "Line.__init__", defArgs sLineInit, defBody sLineInit, defScope sLineInit, [], []⟩
def dLineKept : He.DefD := ⟨("Line", some "kept"), "kept", "Line.kept", defArgs sLineKept, defBody sLineKept, defScope sLineKept, [], []⟩
def dLineToCome : He.DefD := ⟨("Line", some "to_come"), "to_come", "Line.to_come", defArgs sLineToCome, defBody sLineToCome, defScope sLineToCome, [], []⟩
def dLineKeptWorth : He.DefD := ⟨("Line", some "kept_worth"), "kept_worth", "Line.kept_worth", defArgs sLineKeptWorth, defBody sLineKeptWorth, defScope sLineKeptWorth, [], []⟩
def dLineCharge : He.DefD := ⟨("Line", some "charge"), "charge", "Line.charge", defArgs sLineCharge, defBody sLineCharge, defScope sLineCharge, [], []⟩
def dLineDeliver : He.DefD := ⟨("Line", some "deliver"), "deliver", "Line.deliver", defArgs sLineDeliver, defBody sLineDeliver, defScope sLineDeliver, [], []⟩
def dLineBring : He.DefD := ⟨("Line", some "bring"), "bring", "Line.bring", defArgs sLineBring, defBody sLineBring, defScope sLineBring, [], []⟩
def dLineReduce : He.DefD := ⟨("Line", some "reduce"), "reduce", "Line.reduce", defArgs sLineReduce, defBody sLineReduce, defScope sLineReduce, [], []⟩
def dLineNumbers : He.DefD := ⟨("Line", some "numbers"), "numbers", "Line.numbers", defArgs sLineNumbers, defBody sLineNumbers, defScope sLineNumbers, [], []⟩
def dOrderInit : He.DefD := ⟨("Order", some "__init__"), "__init__", "Order.__init__", defArgs sOrderInit, defBody sOrderInit, defScope sOrderInit, [], []⟩
def dOrderOwing : He.DefD := ⟨("Order", some "owing"), "owing", "Order.owing", defArgs sOrderOwing, defBody sOrderOwing, defScope sOrderOwing, [], []⟩
def dOrderLineOf : He.DefD := ⟨("Order", some "line_of"), "line_of", "Order.line_of", defArgs sOrderLineOf, defBody sOrderLineOf, defScope sOrderLineOf, [], []⟩
def dOrderNeedOver : He.DefD := ⟨("Order", some "need_over"), "need_over", "Order.need_over", defArgs sOrderNeedOver, defBody sOrderNeedOver, defScope sOrderNeedOver, [], []⟩
def dOrderTurnLine : He.DefD := ⟨("Order", some "turn_line"), "turn_line", "Order.turn_line", defArgs sOrderTurnLine, defBody sOrderTurnLine, defScope sOrderTurnLine, [], []⟩
def dOrderTake : He.DefD := ⟨("Order", some "take"), "take", "Order.take", defArgs sOrderTake, defBody sOrderTake, defScope sOrderTake, [], []⟩
def dOrderMark : He.DefD := ⟨("Order", some "mark"), "mark", "Order.mark", defArgs sOrderMark, defBody sOrderMark, defScope sOrderMark, [], []⟩
def dOwn : He.DefD := ⟨("own", none), "own", "own", defArgs sOwn, defBody sOwn, defScope sOwn, [], []⟩
def dBookInit : He.DefD := ⟨("Book", some "__init__"), "__init__", "Book.__init__", defArgs sBookInit, defBody sBookInit, defScope sBookInit, [], []⟩
def dBookOrderOf : He.DefD := ⟨("Book", some "order_of"), "order_of", "Book.order_of", defArgs sBookOrderOf, defBody sBookOrderOf, defScope sBookOrderOf, [], []⟩
def dBookDo : He.DefD := ⟨("Book", some "do"), "do", "Book.do", defArgs sBookDo, defBody sBookDo, defScope sBookDo, [], []⟩
def dBookBegin : He.DefD := ⟨("Book", some "begin"), "begin", "Book.begin", defArgs sBookBegin, defBody sBookBegin, defScope sBookBegin, [], []⟩
def dBookShift : He.DefD := ⟨("Book", some "shift"), "shift", "Book.shift", defArgs sBookShift, defBody sBookShift, defScope sBookShift, [], []⟩
def dBookOne : He.DefD := ⟨("Book", some "one"), "one", "Book.one", defArgs sBookOne, defBody sBookOne, defScope sBookOne, [], []⟩
def dBookNeedNumber : He.DefD := ⟨("Book", some "need_number"), "need_number", "Book.need_number", defArgs sBookNeedNumber, defBody sBookNeedNumber, defScope sBookNeedNumber, [], []⟩
def dBookOrders : He.DefD := ⟨("Book", some "orders"), "orders", "Book.orders", defArgs sBookOrders, defBody sBookOrders, defScope sBookOrders, [], []⟩
def dBookTold : He.DefD := ⟨("Book", some "told"), "told", "Book.told", defArgs sBookTold, defBody sBookTold, defScope sBookTold, [], []⟩
def dBookPaid : He.DefD := ⟨("Book", some "paid"), "paid", "Book.paid", defArgs sBookPaid, defBody sBookPaid, defScope sBookPaid, [], []⟩
def dBookOwed : He.DefD := ⟨("Book", some "owed"), "owed", "Book.owed", defArgs sBookOwed, defBody sBookOwed, defScope sBookOwed, [], []⟩
def dLCellAt : He.DefD := ⟨("_law_cell_at", none), "_law_cell_at", "_law_cell_at", defArgs sLCellAt, defBody sLCellAt, defScope sLCellAt, [], []⟩
def dLWhole : He.DefD := ⟨("_law_whole", none), "_law_whole", "_law_whole", defArgs sLWhole, defBody sLWhole, defScope sLWhole, [], []⟩
def dLNumberBy : He.DefD := ⟨("_law_number_by", none), "_law_number_by", "_law_number_by", defArgs sLNumberBy, defBody sLNumberBy, defScope sLNumberBy, [], []⟩
def dLTried : He.DefD := ⟨("_law_tried", none), "_law_tried", "_law_tried", defArgs sLTried, defBody sLTried, defScope sLTried, [], []⟩
def dLChanges : He.DefD := ⟨("_law_changes", none), "_law_changes", "_law_changes", defArgs sLChanges, defBody sLChanges, defScope sLChanges, [], []⟩
def dLPairsAlike : He.DefD := ⟨("_law_pairs_alike", none), "_law_pairs_alike", "_law_pairs_alike", defArgs sLPairsAlike, defBody sLPairsAlike, defScope sLPairsAlike, [], []⟩
def dLStands : He.DefD := ⟨("_law_stands", none), "_law_stands", "_law_stands", defArgs sLStands, defBody sLStands, defScope sLStands, [], []⟩
def dLBegun : He.DefD := ⟨("_law_begun", none), "_law_begun", "_law_begun", defArgs sLBegun, defBody sLBegun, defScope sLBegun, [], []⟩
def dLaw : He.DefD := ⟨("law", none), "law", "law", defArgs sLaw, defBody sLaw, defScope sLaw, [], []⟩
def fn : List He.DefD := ([dWorth, dIsItem, dCheckLine, dLineInit, dLineKept, dLineToCome, dLineKeptWorth, dLineCharge, dLineDeliver, dLineBring, dLineReduce, dLineNumbers] : List He.DefD) ++ ([dOrderInit, dOrderOwing, dOrderLineOf, dOrderNeedOver, dOrderTurnLine, dOrderTake, dOrderMark, dOwn, dBookInit, dBookOrderOf, dBookDo, dBookBegin] : List He.DefD) ++ ([dBookShift, dBookOne, dBookNeedNumber, dBookOrders, dBookTold, dBookPaid, dBookOwed, dLCellAt, dLWhole, dLNumberBy, dLTried, dLChanges] : List He.DefD) ++ ([dLPairsAlike, dLStands, dLBegun, dLaw] : List He.DefD)
def fa : List He.Fa := ([.glo "worth", .glo "is_item", .glo "check_line", .glo "own", .glo "_law_cell_at", .glo "_law_whole", .glo "_law_number_by", .glo "_law_tried", .glo "_law_changes", .glo "_law_pairs_alike", .glo "_law_stands", .glo "_law_begun"] : List He.Fa) ++ ([.glo "law", .free "bool", .free "int", .free "isinstance", .free "len", .free "list", .free "max", .free "min", .free "range", .free "sum", .free "tuple", .str "LETTERS" "abcdefghijklmnopqrstuvwxyz"] : List He.Fa) ++ ([.int "MOST_LETTERS" 12, .int "MOST_PIECES" 1000000, .int "MOST_CENTS" 1000000000, .int "MOST_PACK" 1000, .glo "PARTS", .int "MOST_LINES" 20, .int "MOST_ORDERS" 40, .glo "FlowError", .exc "FlowError", .glo "NoDeed", .exc "NoDeed", .glo "NoLines"] : List He.Fa) ++ ([.exc "NoLines", .glo "NoItem", .exc "NoItem", .glo "NoNumber", .exc "NoNumber", .glo "FullBook", .exc "FullBook", .glo "NoOrder", .exc "NoOrder", .glo "SameOrder", .exc "SameOrder", .glo "NoLine"] : List He.Fa) ++ ([.exc "NoLine", .glo "TooMuch", .exc "TooMuch", .glo "Line", .cls "Line", .noat "Line" "item", .noat "Line" "ordered", .noat "Line" "cents", .noat "Line" "pack", .noat "Line" "sent", .noat "Line" "home", .noat "Line" "again"] : List He.Fa) ++ ([.noat "Line" "credited", .mkr "Line", .meth "Line" "kept", .meth "Line" "to_come", .meth "Line" "kept_worth", .meth "Line" "charge", .meth "Line" "deliver", .meth "Line" "bring", .meth "Line" "reduce", .meth "Line" "numbers", .glo "Order", .cls "Order"] : List He.Fa) ++ ([.noat "Order" "lines", .noat "Order" "money", .noat "Order" "marks", .mkr "Order", .meth "Order" "owing", .meth "Order" "line_of", .meth "Order" "need_over", .meth "Order" "turn_line", .meth "Order" "take", .meth "Order" "mark", .glo "Book", .cls "Book"] : List He.Fa) ++ ([.noat "Book" "each", .noat "Book" "trail", .mkr "Book", .meth "Book" "order_of", .meth "Book" "do", .meth "Book" "begin", .meth "Book" "shift", .meth "Book" "one", .meth "Book" "need_number", .meth "Book" "orders", .meth "Book" "told", .meth "Book" "paid"] : List He.Fa) ++ ([.meth "Book" "owed", .exm "NoDeed" "NoNumber" false, .exm "NoLines" "NoNumber" false, .exm "NoItem" "NoNumber" false, .exm "NoNumber" "NoNumber" true, .exm "FullBook" "NoNumber" false, .exm "NoOrder" "NoNumber" false, .exm "SameOrder" "NoNumber" false, .exm "NoLine" "NoNumber" false, .exm "TooMuch" "NoNumber" false, .exm "NoDeed" "TooMuch" false, .exm "NoLines" "TooMuch" false] : List He.Fa) ++ ([.exm "NoItem" "TooMuch" false, .exm "NoNumber" "TooMuch" false, .exm "FullBook" "TooMuch" false, .exm "NoOrder" "TooMuch" false, .exm "SameOrder" "TooMuch" false, .exm "NoLine" "TooMuch" false, .exm "TooMuch" "TooMuch" true] : List He.Fa)
def ts : List He.Tab := [(fun K => He.ga K "PARTS", ["order", "deliver", "back", "swap", "credit", "pay", "refund", "move"])]
def parts : List (Str × Int) := [("order", 2), ("deliver", 4), ("back", 4), ("swap", 4), ("credit", 4), ("pay", 3), ("refund", 3), ("move", 4)]
def ex (K : PySem.W.Frag) : Bool := He.valsB K (He.ga K "PARTS") (parts.map fun p => (p.1, He.Dv.int p.2))
abbrev R : PySem.W.OpenRow := PySem.W.OpenLaw.row PySem.Challenge.rw_orderflow_k04_money
abbrev qv : Program := PySem.W.view R.prog [39]
abbrev hk : PySem.W.Hook := He.hookX 5 fa fn ts [] ex
def ob (s : PySem.W.SharedT) : He.AlX := He.obsX 5 fa fn ts [] ex (HandSHeadRun.getT s)
theorem ob_eq (s : PySem.W.SharedT) : ob s = hk.obs s.abs := He.obsX_eq (HandSHeadRun.getT_eq s)
def names : List PySem.Str := (["_wall", "FlowError", "NoDeed", "NoLines", "NoItem", "NoNumber", "FullBook", "NoOrder", "SameOrder", "NoLine", "TooMuch", "LETTERS"] : List PySem.Str) ++ (["MOST_LETTERS", "MOST_PIECES", "MOST_CENTS", "MOST_PACK", "worth", "is_item", "check_line", "Line", "Order", "PARTS", "MOST_LINES", "MOST_ORDERS"] : List PySem.Str) ++ (["own", "Book", "_law_cell_at", "_law_whole", "_law_number_by", "_law_tried", "_law_changes", "_law_pairs_alike", "_law_stands", "_law_begun"] : List PySem.Str)
/-! ### what the walk asks of the text -/
def fdO (K : PySem.W.Frag) (p : Str × Option Str) : FuncData := match K.lookup (He.fAd K p) with
  | some ⟨_, _, .func fd, _⟩ => fd
  | _ => PySem.W.fnOf "" "" ⟨[], [], none, [], [], none, []⟩ [] default .none .none .none .none none .none .none
theorem fdO_of {K : PySem.W.Frag} {p : Str × Option Str} {x qual : Str} {params : Arguments} {body : List Stmt} {scope : Scope} {dvs : List V} {kws : List (Str × V)} {fd : FuncData} (F : FunD K x qual params body scope dvs kws (He.fAd K p) fd) :
    FunD K x qual params body scope dvs kws (He.fAd K p) (fdO K p) := by
  obtain ⟨oc, od, dV, kV, doc, pm, an, cdv, ct, osl, e, lk, _⟩ := F.ex
  have q : fdO K p = fd := by
    unfold fdO
    rw [lk]
  rw [q]
  exact F
theorem gi_ok {K : PySem.W.Frag} {h : Heap} {mg : Str → Option Value} (X : K.In h) (G : h.Ns mainGlobals mg) {x : Str} {i : Int} (c : (He.Fa.int x i).ok K = true) : ∃ u, mg x = some u ∧ RelV (.int i) u := by
  obtain ⟨t, h⟩ := He.int_ok X G c
  exact ⟨_, h, t, rfl⟩
theorem gs_ok {K : PySem.W.Frag} {h : Heap} {mg : Str → Option Value} (X : K.In h) (G : h.Ns mainGlobals mg) {x z : Str} (c : (He.Fa.str x z).ok K = true) : ∃ u, mg x = some u ∧ RelV (.str z) u := by
  obtain ⟨t, h⟩ := He.str_ok X G c
  exact ⟨_, h, t, rfl⟩
structure Tx (w : World) (K : PySem.W.Frag) (mg : Str → Option Value) : Prop where
  g_Worth : mg "worth" = some (.ref (He.ga K "worth"))
  g_IsItem : mg "is_item" = some (.ref (He.ga K "is_item"))
  g_CheckLine : mg "check_line" = some (.ref (He.ga K "check_line"))
  g_Own : mg "own" = some (.ref (He.ga K "own"))
  g_LCellAt : mg "_law_cell_at" = some (.ref (He.ga K "_law_cell_at"))
  g_LWhole : mg "_law_whole" = some (.ref (He.ga K "_law_whole"))
  g_LNumberBy : mg "_law_number_by" = some (.ref (He.ga K "_law_number_by"))
  g_LTried : mg "_law_tried" = some (.ref (He.ga K "_law_tried"))
  g_LChanges : mg "_law_changes" = some (.ref (He.ga K "_law_changes"))
  g_LPairsAlike : mg "_law_pairs_alike" = some (.ref (He.ga K "_law_pairs_alike"))
  g_LStands : mg "_law_stands" = some (.ref (He.ga K "_law_stands"))
  g_LBegun : mg "_law_begun" = some (.ref (He.ga K "_law_begun"))
  g_Law : mg "law" = some (.ref (He.ga K "law"))
  b_bool : mg "bool" = none
  b_int : mg "int" = none
  b_isinstance : mg "isinstance" = none
  b_len : mg "len" = none
  b_list : mg "list" = none
  b_max : mg "max" = none
  b_min : mg "min" = none
  b_range : mg "range" = none
  b_sum : mg "sum" = none
  b_tuple : mg "tuple" = none
  c_LETTERS : ∃ u, mg "LETTERS" = some u ∧ RelV (.str "abcdefghijklmnopqrstuvwxyz") u
  c_MOST_LETTERS : ∃ u, mg "MOST_LETTERS" = some u ∧ RelV (.int 12) u
  c_MOST_PIECES : ∃ u, mg "MOST_PIECES" = some u ∧ RelV (.int 1000000) u
  c_MOST_CENTS : ∃ u, mg "MOST_CENTS" = some u ∧ RelV (.int 1000000000) u
  c_MOST_PACK : ∃ u, mg "MOST_PACK" = some u ∧ RelV (.int 1000) u
  c_PARTS : mg "PARTS" = some (.ref (He.ga K "PARTS"))
  c_MOST_LINES : ∃ u, mg "MOST_LINES" = some u ∧ RelV (.int 20) u
  c_MOST_ORDERS : ∃ u, mg "MOST_ORDERS" = some u ∧ RelV (.int 40) u
  g_FlowError : mg "FlowError" = some (.ref (He.ga K "FlowError"))
  x_FlowError : PySem.W.excIn K (He.ga K "FlowError") He.veBase "ValueError.__new__" = true ∧ PySem.W.keepIn K (.ref (He.ga K "FlowError")) = true ∧ PySem.W.subIn K (.ref (He.ga K "FlowError")) (.type "BaseException") = some true ∧ PySem.W.typeIn K (.ref (He.ga K "FlowError")) = some (.type "type")
  g_NoDeed : mg "NoDeed" = some (.ref (He.ga K "NoDeed"))
  x_NoDeed : PySem.W.excIn K (He.ga K "NoDeed") He.veBase "ValueError.__new__" = true ∧ PySem.W.keepIn K (.ref (He.ga K "NoDeed")) = true ∧ PySem.W.subIn K (.ref (He.ga K "NoDeed")) (.type "BaseException") = some true ∧ PySem.W.typeIn K (.ref (He.ga K "NoDeed")) = some (.type "type")
  g_NoLines : mg "NoLines" = some (.ref (He.ga K "NoLines"))
  x_NoLines : PySem.W.excIn K (He.ga K "NoLines") He.veBase "ValueError.__new__" = true ∧ PySem.W.keepIn K (.ref (He.ga K "NoLines")) = true ∧ PySem.W.subIn K (.ref (He.ga K "NoLines")) (.type "BaseException") = some true ∧ PySem.W.typeIn K (.ref (He.ga K "NoLines")) = some (.type "type")
  g_NoItem : mg "NoItem" = some (.ref (He.ga K "NoItem"))
  x_NoItem : PySem.W.excIn K (He.ga K "NoItem") He.veBase "ValueError.__new__" = true ∧ PySem.W.keepIn K (.ref (He.ga K "NoItem")) = true ∧ PySem.W.subIn K (.ref (He.ga K "NoItem")) (.type "BaseException") = some true ∧ PySem.W.typeIn K (.ref (He.ga K "NoItem")) = some (.type "type")
  g_NoNumber : mg "NoNumber" = some (.ref (He.ga K "NoNumber"))
  x_NoNumber : PySem.W.excIn K (He.ga K "NoNumber") He.veBase "ValueError.__new__" = true ∧ PySem.W.keepIn K (.ref (He.ga K "NoNumber")) = true ∧ PySem.W.subIn K (.ref (He.ga K "NoNumber")) (.type "BaseException") = some true ∧ PySem.W.typeIn K (.ref (He.ga K "NoNumber")) = some (.type "type")
  g_FullBook : mg "FullBook" = some (.ref (He.ga K "FullBook"))
  x_FullBook : PySem.W.excIn K (He.ga K "FullBook") He.veBase "ValueError.__new__" = true ∧ PySem.W.keepIn K (.ref (He.ga K "FullBook")) = true ∧ PySem.W.subIn K (.ref (He.ga K "FullBook")) (.type "BaseException") = some true ∧ PySem.W.typeIn K (.ref (He.ga K "FullBook")) = some (.type "type")
  g_NoOrder : mg "NoOrder" = some (.ref (He.ga K "NoOrder"))
  x_NoOrder : PySem.W.excIn K (He.ga K "NoOrder") He.veBase "ValueError.__new__" = true ∧ PySem.W.keepIn K (.ref (He.ga K "NoOrder")) = true ∧ PySem.W.subIn K (.ref (He.ga K "NoOrder")) (.type "BaseException") = some true ∧ PySem.W.typeIn K (.ref (He.ga K "NoOrder")) = some (.type "type")
  g_SameOrder : mg "SameOrder" = some (.ref (He.ga K "SameOrder"))
  x_SameOrder : PySem.W.excIn K (He.ga K "SameOrder") He.veBase "ValueError.__new__" = true ∧ PySem.W.keepIn K (.ref (He.ga K "SameOrder")) = true ∧ PySem.W.subIn K (.ref (He.ga K "SameOrder")) (.type "BaseException") = some true ∧ PySem.W.typeIn K (.ref (He.ga K "SameOrder")) = some (.type "type")
  g_NoLine : mg "NoLine" = some (.ref (He.ga K "NoLine"))
  x_NoLine : PySem.W.excIn K (He.ga K "NoLine") He.veBase "ValueError.__new__" = true ∧ PySem.W.keepIn K (.ref (He.ga K "NoLine")) = true ∧ PySem.W.subIn K (.ref (He.ga K "NoLine")) (.type "BaseException") = some true ∧ PySem.W.typeIn K (.ref (He.ga K "NoLine")) = some (.type "type")
  g_TooMuch : mg "TooMuch" = some (.ref (He.ga K "TooMuch"))
  x_TooMuch : PySem.W.excIn K (He.ga K "TooMuch") He.veBase "ValueError.__new__" = true ∧ PySem.W.keepIn K (.ref (He.ga K "TooMuch")) = true ∧ PySem.W.subIn K (.ref (He.ga K "TooMuch")) (.type "BaseException") = some true ∧ PySem.W.typeIn K (.ref (He.ga K "TooMuch")) = some (.type "type")
  g_Line : mg "Line" = some (.ref (He.ga K "Line"))
  cl_Line : Cls K (He.ga K "Line")
  n_Line_item : NoAttr K (He.ga K "Line") "item"
  n_Line_ordered : NoAttr K (He.ga K "Line") "ordered"
  n_Line_cents : NoAttr K (He.ga K "Line") "cents"
  n_Line_pack : NoAttr K (He.ga K "Line") "pack"
  n_Line_sent : NoAttr K (He.ga K "Line") "sent"
  n_Line_home : NoAttr K (He.ga K "Line") "home"
  n_Line_again : NoAttr K (He.ga K "Line") "again"
  n_Line_credited : NoAttr K (He.ga K "Line") "credited"
  mk_Line : Mk K (He.ga K "Line") (He.ma K (He.ga K "Line") "__init__")
  m_Line_kept : Meth K (He.ga K "Line") "kept" (He.ma K (He.ga K "Line") "kept")
  m_Line_to_come : Meth K (He.ga K "Line") "to_come" (He.ma K (He.ga K "Line") "to_come")
  m_Line_kept_worth : Meth K (He.ga K "Line") "kept_worth" (He.ma K (He.ga K "Line") "kept_worth")
  m_Line_charge : Meth K (He.ga K "Line") "charge" (He.ma K (He.ga K "Line") "charge")
  m_Line_deliver : Meth K (He.ga K "Line") "deliver" (He.ma K (He.ga K "Line") "deliver")
  m_Line_bring : Meth K (He.ga K "Line") "bring" (He.ma K (He.ga K "Line") "bring")
  m_Line_reduce : Meth K (He.ga K "Line") "reduce" (He.ma K (He.ga K "Line") "reduce")
  m_Line_numbers : Meth K (He.ga K "Line") "numbers" (He.ma K (He.ga K "Line") "numbers")
  g_Order : mg "Order" = some (.ref (He.ga K "Order"))
  cl_Order : Cls K (He.ga K "Order")
  n_Order_lines : NoAttr K (He.ga K "Order") "lines"
  n_Order_money : NoAttr K (He.ga K "Order") "money"
  n_Order_marks : NoAttr K (He.ga K "Order") "marks"
  mk_Order : Mk K (He.ga K "Order") (He.ma K (He.ga K "Order") "__init__")
  m_Order_owing : Meth K (He.ga K "Order") "owing" (He.ma K (He.ga K "Order") "owing")
  m_Order_line_of : Meth K (He.ga K "Order") "line_of" (He.ma K (He.ga K "Order") "line_of")
  m_Order_need_over : Meth K (He.ga K "Order") "need_over" (He.ma K (He.ga K "Order") "need_over")
  m_Order_turn_line : Meth K (He.ga K "Order") "turn_line" (He.ma K (He.ga K "Order") "turn_line")
  m_Order_take : Meth K (He.ga K "Order") "take" (He.ma K (He.ga K "Order") "take")
  m_Order_mark : Meth K (He.ga K "Order") "mark" (He.ma K (He.ga K "Order") "mark")
  g_Book : mg "Book" = some (.ref (He.ga K "Book"))
  cl_Book : Cls K (He.ga K "Book")
  n_Book_each : NoAttr K (He.ga K "Book") "each"
  n_Book_trail : NoAttr K (He.ga K "Book") "trail"
  mk_Book : Mk K (He.ga K "Book") (He.ma K (He.ga K "Book") "__init__")
  m_Book_order_of : Meth K (He.ga K "Book") "order_of" (He.ma K (He.ga K "Book") "order_of")
  m_Book_do : Meth K (He.ga K "Book") "do" (He.ma K (He.ga K "Book") "do")
  m_Book_begin : Meth K (He.ga K "Book") "begin" (He.ma K (He.ga K "Book") "begin")
  m_Book_shift : Meth K (He.ga K "Book") "shift" (He.ma K (He.ga K "Book") "shift")
  m_Book_one : Meth K (He.ga K "Book") "one" (He.ma K (He.ga K "Book") "one")
  m_Book_need_number : Meth K (He.ga K "Book") "need_number" (He.ma K (He.ga K "Book") "need_number")
  m_Book_orders : Meth K (He.ga K "Book") "orders" (He.ma K (He.ga K "Book") "orders")
  m_Book_told : Meth K (He.ga K "Book") "told" (He.ma K (He.ga K "Book") "told")
  m_Book_paid : Meth K (He.ga K "Book") "paid" (He.ma K (He.ga K "Book") "paid")
  m_Book_owed : Meth K (He.ga K "Book") "owed" (He.ma K (He.ga K "Book") "owed")
  e_NoDeed_NoNumber : PySem.W.exmOne K (.ref (He.ga K "NoDeed")) (.ref (He.ga K "NoNumber")) = some false
  e_NoLines_NoNumber : PySem.W.exmOne K (.ref (He.ga K "NoLines")) (.ref (He.ga K "NoNumber")) = some false
  e_NoItem_NoNumber : PySem.W.exmOne K (.ref (He.ga K "NoItem")) (.ref (He.ga K "NoNumber")) = some false
  e_NoNumber_NoNumber : PySem.W.exmOne K (.ref (He.ga K "NoNumber")) (.ref (He.ga K "NoNumber")) = some true
  e_FullBook_NoNumber : PySem.W.exmOne K (.ref (He.ga K "FullBook")) (.ref (He.ga K "NoNumber")) = some false
  e_NoOrder_NoNumber : PySem.W.exmOne K (.ref (He.ga K "NoOrder")) (.ref (He.ga K "NoNumber")) = some false
  e_SameOrder_NoNumber : PySem.W.exmOne K (.ref (He.ga K "SameOrder")) (.ref (He.ga K "NoNumber")) = some false
  e_NoLine_NoNumber : PySem.W.exmOne K (.ref (He.ga K "NoLine")) (.ref (He.ga K "NoNumber")) = some false
  e_TooMuch_NoNumber : PySem.W.exmOne K (.ref (He.ga K "TooMuch")) (.ref (He.ga K "NoNumber")) = some false
  e_NoDeed_TooMuch : PySem.W.exmOne K (.ref (He.ga K "NoDeed")) (.ref (He.ga K "TooMuch")) = some false
  e_NoLines_TooMuch : PySem.W.exmOne K (.ref (He.ga K "NoLines")) (.ref (He.ga K "TooMuch")) = some false
  e_NoItem_TooMuch : PySem.W.exmOne K (.ref (He.ga K "NoItem")) (.ref (He.ga K "TooMuch")) = some false
  e_NoNumber_TooMuch : PySem.W.exmOne K (.ref (He.ga K "NoNumber")) (.ref (He.ga K "TooMuch")) = some false
  e_FullBook_TooMuch : PySem.W.exmOne K (.ref (He.ga K "FullBook")) (.ref (He.ga K "TooMuch")) = some false
  e_NoOrder_TooMuch : PySem.W.exmOne K (.ref (He.ga K "NoOrder")) (.ref (He.ga K "TooMuch")) = some false
  e_SameOrder_TooMuch : PySem.W.exmOne K (.ref (He.ga K "SameOrder")) (.ref (He.ga K "TooMuch")) = some false
  e_NoLine_TooMuch : PySem.W.exmOne K (.ref (He.ga K "NoLine")) (.ref (He.ga K "TooMuch")) = some false
  e_TooMuch_TooMuch : PySem.W.exmOne K (.ref (He.ga K "TooMuch")) (.ref (He.ga K "TooMuch")) = some true
  f_Worth : FunD K dWorth.name dWorth.qual dWorth.params dWorth.body dWorth.scope [] [] (He.fAd K dWorth.at_) (fdO K dWorth.at_)
  f_IsItem : FunD K dIsItem.name dIsItem.qual dIsItem.params dIsItem.body dIsItem.scope [] [] (He.fAd K dIsItem.at_) (fdO K dIsItem.at_)
  f_CheckLine : FunD K dCheckLine.name dCheckLine.qual dCheckLine.params dCheckLine.body dCheckLine.scope [] [] (He.fAd K dCheckLine.at_) (fdO K dCheckLine.at_)
  f_LineInit : FunD K dLineInit.name dLineInit.qual dLineInit.params dLineInit.body dLineInit.scope [] [] (He.fAd K dLineInit.at_) (fdO K dLineInit.at_)
  f_LineKept : FunD K dLineKept.name dLineKept.qual dLineKept.params dLineKept.body dLineKept.scope [] [] (He.fAd K dLineKept.at_) (fdO K dLineKept.at_)
  f_LineToCome : FunD K dLineToCome.name dLineToCome.qual dLineToCome.params dLineToCome.body dLineToCome.scope [] [] (He.fAd K dLineToCome.at_) (fdO K dLineToCome.at_)
  f_LineKeptWorth : FunD K dLineKeptWorth.name dLineKeptWorth.qual dLineKeptWorth.params dLineKeptWorth.body dLineKeptWorth.scope [] [] (He.fAd K dLineKeptWorth.at_) (fdO K dLineKeptWorth.at_)
  f_LineCharge : FunD K dLineCharge.name dLineCharge.qual dLineCharge.params dLineCharge.body dLineCharge.scope [] [] (He.fAd K dLineCharge.at_) (fdO K dLineCharge.at_)
  f_LineDeliver : FunD K dLineDeliver.name dLineDeliver.qual dLineDeliver.params dLineDeliver.body dLineDeliver.scope [] [] (He.fAd K dLineDeliver.at_) (fdO K dLineDeliver.at_)
  f_LineBring : FunD K dLineBring.name dLineBring.qual dLineBring.params dLineBring.body dLineBring.scope [] [] (He.fAd K dLineBring.at_) (fdO K dLineBring.at_)
  f_LineReduce : FunD K dLineReduce.name dLineReduce.qual dLineReduce.params dLineReduce.body dLineReduce.scope [] [] (He.fAd K dLineReduce.at_) (fdO K dLineReduce.at_)
  f_LineNumbers : FunD K dLineNumbers.name dLineNumbers.qual dLineNumbers.params dLineNumbers.body dLineNumbers.scope [] [] (He.fAd K dLineNumbers.at_) (fdO K dLineNumbers.at_)
  f_OrderInit : FunD K dOrderInit.name dOrderInit.qual dOrderInit.params dOrderInit.body dOrderInit.scope [] [] (He.fAd K dOrderInit.at_) (fdO K dOrderInit.at_)
  f_OrderOwing : FunD K dOrderOwing.name dOrderOwing.qual dOrderOwing.params dOrderOwing.body dOrderOwing.scope [] [] (He.fAd K dOrderOwing.at_) (fdO K dOrderOwing.at_)
  f_OrderLineOf : FunD K dOrderLineOf.name dOrderLineOf.qual dOrderLineOf.params dOrderLineOf.body dOrderLineOf.scope [] [] (He.fAd K dOrderLineOf.at_) (fdO K dOrderLineOf.at_)
  f_OrderNeedOver : FunD K dOrderNeedOver.name dOrderNeedOver.qual dOrderNeedOver.params dOrderNeedOver.body dOrderNeedOver.scope [] [] (He.fAd K dOrderNeedOver.at_) (fdO K dOrderNeedOver.at_)
  f_OrderTurnLine : FunD K dOrderTurnLine.name dOrderTurnLine.qual dOrderTurnLine.params dOrderTurnLine.body dOrderTurnLine.scope [] [] (He.fAd K dOrderTurnLine.at_) (fdO K dOrderTurnLine.at_)
  f_OrderTake : FunD K dOrderTake.name dOrderTake.qual dOrderTake.params dOrderTake.body dOrderTake.scope [] [] (He.fAd K dOrderTake.at_) (fdO K dOrderTake.at_)
  f_OrderMark : FunD K dOrderMark.name dOrderMark.qual dOrderMark.params dOrderMark.body dOrderMark.scope [] [] (He.fAd K dOrderMark.at_) (fdO K dOrderMark.at_)
  f_Own : FunD K dOwn.name dOwn.qual dOwn.params dOwn.body dOwn.scope [] [] (He.fAd K dOwn.at_) (fdO K dOwn.at_)
  f_BookInit : FunD K dBookInit.name dBookInit.qual dBookInit.params dBookInit.body dBookInit.scope [] [] (He.fAd K dBookInit.at_) (fdO K dBookInit.at_)
  f_BookOrderOf : FunD K dBookOrderOf.name dBookOrderOf.qual dBookOrderOf.params dBookOrderOf.body dBookOrderOf.scope [] [] (He.fAd K dBookOrderOf.at_) (fdO K dBookOrderOf.at_)
  f_BookDo : FunD K dBookDo.name dBookDo.qual dBookDo.params dBookDo.body dBookDo.scope [] [] (He.fAd K dBookDo.at_) (fdO K dBookDo.at_)
  f_BookBegin : FunD K dBookBegin.name dBookBegin.qual dBookBegin.params dBookBegin.body dBookBegin.scope [] [] (He.fAd K dBookBegin.at_) (fdO K dBookBegin.at_)
  f_BookShift : FunD K dBookShift.name dBookShift.qual dBookShift.params dBookShift.body dBookShift.scope [] [] (He.fAd K dBookShift.at_) (fdO K dBookShift.at_)
  f_BookOne : FunD K dBookOne.name dBookOne.qual dBookOne.params dBookOne.body dBookOne.scope [] [] (He.fAd K dBookOne.at_) (fdO K dBookOne.at_)
  f_BookNeedNumber : FunD K dBookNeedNumber.name dBookNeedNumber.qual dBookNeedNumber.params dBookNeedNumber.body dBookNeedNumber.scope [] [] (He.fAd K dBookNeedNumber.at_) (fdO K dBookNeedNumber.at_)
  f_BookOrders : FunD K dBookOrders.name dBookOrders.qual dBookOrders.params dBookOrders.body dBookOrders.scope [] [] (He.fAd K dBookOrders.at_) (fdO K dBookOrders.at_)
  f_BookTold : FunD K dBookTold.name dBookTold.qual dBookTold.params dBookTold.body dBookTold.scope [] [] (He.fAd K dBookTold.at_) (fdO K dBookTold.at_)
  f_BookPaid : FunD K dBookPaid.name dBookPaid.qual dBookPaid.params dBookPaid.body dBookPaid.scope [] [] (He.fAd K dBookPaid.at_) (fdO K dBookPaid.at_)
  f_BookOwed : FunD K dBookOwed.name dBookOwed.qual dBookOwed.params dBookOwed.body dBookOwed.scope [] [] (He.fAd K dBookOwed.at_) (fdO K dBookOwed.at_)
  f_LCellAt : FunD K dLCellAt.name dLCellAt.qual dLCellAt.params dLCellAt.body dLCellAt.scope [] [] (He.fAd K dLCellAt.at_) (fdO K dLCellAt.at_)
  f_LWhole : FunD K dLWhole.name dLWhole.qual dLWhole.params dLWhole.body dLWhole.scope [] [] (He.fAd K dLWhole.at_) (fdO K dLWhole.at_)
  f_LNumberBy : FunD K dLNumberBy.name dLNumberBy.qual dLNumberBy.params dLNumberBy.body dLNumberBy.scope [] [] (He.fAd K dLNumberBy.at_) (fdO K dLNumberBy.at_)
  f_LTried : FunD K dLTried.name dLTried.qual dLTried.params dLTried.body dLTried.scope [] [] (He.fAd K dLTried.at_) (fdO K dLTried.at_)
  f_LChanges : FunD K dLChanges.name dLChanges.qual dLChanges.params dLChanges.body dLChanges.scope [] [] (He.fAd K dLChanges.at_) (fdO K dLChanges.at_)
  f_LPairsAlike : FunD K dLPairsAlike.name dLPairsAlike.qual dLPairsAlike.params dLPairsAlike.body dLPairsAlike.scope [] [] (He.fAd K dLPairsAlike.at_) (fdO K dLPairsAlike.at_)
  f_LStands : FunD K dLStands.name dLStands.qual dLStands.params dLStands.body dLStands.scope [] [] (He.fAd K dLStands.at_) (fdO K dLStands.at_)
  f_LBegun : FunD K dLBegun.name dLBegun.qual dLBegun.params dLBegun.body dLBegun.scope [] [] (He.fAd K dLBegun.at_) (fdO K dLBegun.at_)
  f_Law : FunD K dLaw.name dLaw.qual dLaw.params dLaw.body dLaw.scope [] [] (He.fAd K dLaw.at_) (fdO K dLaw.at_)
  kd : ∃ es n, K.lookup (He.ga K "PARTS") = some ⟨.type "dict", none, .dict es n, #[]⟩ ∧ PySem.W.KeysLit w.params es.toList ∧ es.toList.map He.keyOf = He.keysIn w.params (parts.map (·.1)) ∧ ((He.ga K "PARTS") == sysModules) = false
  kv : ex K = true
theorem tx_of {w : World} {K : PySem.W.Frag} {h : Heap} {mg : Str → Option Value} (X : K.In h) (G : h.Ns mainGlobals mg) (c : He.SaysX fa fn ts [] ex w h K) : Tx w K mg where
  g_Worth := He.glo_ok X G (c.t.d.fact 0 (f := .glo "worth") rfl)
  g_IsItem := He.glo_ok X G (c.t.d.fact 1 (f := .glo "is_item") rfl)
  g_CheckLine := He.glo_ok X G (c.t.d.fact 2 (f := .glo "check_line") rfl)
  g_Own := He.glo_ok X G (c.t.d.fact 3 (f := .glo "own") rfl)
  g_LCellAt := He.glo_ok X G (c.t.d.fact 4 (f := .glo "_law_cell_at") rfl)
  g_LWhole := He.glo_ok X G (c.t.d.fact 5 (f := .glo "_law_whole") rfl)
  g_LNumberBy := He.glo_ok X G (c.t.d.fact 6 (f := .glo "_law_number_by") rfl)
  g_LTried := He.glo_ok X G (c.t.d.fact 7 (f := .glo "_law_tried") rfl)
  g_LChanges := He.glo_ok X G (c.t.d.fact 8 (f := .glo "_law_changes") rfl)
  g_LPairsAlike := He.glo_ok X G (c.t.d.fact 9 (f := .glo "_law_pairs_alike") rfl)
  g_LStands := He.glo_ok X G (c.t.d.fact 10 (f := .glo "_law_stands") rfl)
  g_LBegun := He.glo_ok X G (c.t.d.fact 11 (f := .glo "_law_begun") rfl)
  g_Law := He.glo_ok X G (c.t.d.fact 12 (f := .glo "law") rfl)
  b_bool := He.free_ok X G (c.t.d.fact 13 (f := .free "bool") rfl)
  b_int := He.free_ok X G (c.t.d.fact 14 (f := .free "int") rfl)
  b_isinstance := He.free_ok X G (c.t.d.fact 15 (f := .free "isinstance") rfl)
  b_len := He.free_ok X G (c.t.d.fact 16 (f := .free "len") rfl)
  b_list := He.free_ok X G (c.t.d.fact 17 (f := .free "list") rfl)
  b_max := He.free_ok X G (c.t.d.fact 18 (f := .free "max") rfl)
  b_min := He.free_ok X G (c.t.d.fact 19 (f := .free "min") rfl)
  b_range := He.free_ok X G (c.t.d.fact 20 (f := .free "range") rfl)
  b_sum := He.free_ok X G (c.t.d.fact 21 (f := .free "sum") rfl)
  b_tuple := He.free_ok X G (c.t.d.fact 22 (f := .free "tuple") rfl)
  c_LETTERS := gs_ok X G (c.t.d.fact 23 (f := .str "LETTERS" "abcdefghijklmnopqrstuvwxyz") rfl)
  c_MOST_LETTERS := gi_ok X G (c.t.d.fact 24 (f := .int "MOST_LETTERS" 12) rfl)
  c_MOST_PIECES := gi_ok X G (c.t.d.fact 25 (f := .int "MOST_PIECES" 1000000) rfl)
  c_MOST_CENTS := gi_ok X G (c.t.d.fact 26 (f := .int "MOST_CENTS" 1000000000) rfl)
  c_MOST_PACK := gi_ok X G (c.t.d.fact 27 (f := .int "MOST_PACK" 1000) rfl)
  c_PARTS := He.glo_ok X G (c.t.d.fact 28 (f := .glo "PARTS") rfl)
  c_MOST_LINES := gi_ok X G (c.t.d.fact 29 (f := .int "MOST_LINES" 20) rfl)
  c_MOST_ORDERS := gi_ok X G (c.t.d.fact 30 (f := .int "MOST_ORDERS" 40) rfl)
  g_FlowError := He.glo_ok X G (c.t.d.fact 31 (f := .glo "FlowError") rfl)
  x_FlowError := He.exc_ok (c.t.d.fact 32 (f := .exc "FlowError") rfl)
  g_NoDeed := He.glo_ok X G (c.t.d.fact 33 (f := .glo "NoDeed") rfl)
  x_NoDeed := He.exc_ok (c.t.d.fact 34 (f := .exc "NoDeed") rfl)
  g_NoLines := He.glo_ok X G (c.t.d.fact 35 (f := .glo "NoLines") rfl)
  x_NoLines := He.exc_ok (c.t.d.fact 36 (f := .exc "NoLines") rfl)
  g_NoItem := He.glo_ok X G (c.t.d.fact 37 (f := .glo "NoItem") rfl)
  x_NoItem := He.exc_ok (c.t.d.fact 38 (f := .exc "NoItem") rfl)
  g_NoNumber := He.glo_ok X G (c.t.d.fact 39 (f := .glo "NoNumber") rfl)
  x_NoNumber := He.exc_ok (c.t.d.fact 40 (f := .exc "NoNumber") rfl)
  g_FullBook := He.glo_ok X G (c.t.d.fact 41 (f := .glo "FullBook") rfl)
  x_FullBook := He.exc_ok (c.t.d.fact 42 (f := .exc "FullBook") rfl)
  g_NoOrder := He.glo_ok X G (c.t.d.fact 43 (f := .glo "NoOrder") rfl)
  x_NoOrder := He.exc_ok (c.t.d.fact 44 (f := .exc "NoOrder") rfl)
  g_SameOrder := He.glo_ok X G (c.t.d.fact 45 (f := .glo "SameOrder") rfl)
  x_SameOrder := He.exc_ok (c.t.d.fact 46 (f := .exc "SameOrder") rfl)
  g_NoLine := He.glo_ok X G (c.t.d.fact 47 (f := .glo "NoLine") rfl)
  x_NoLine := He.exc_ok (c.t.d.fact 48 (f := .exc "NoLine") rfl)
  g_TooMuch := He.glo_ok X G (c.t.d.fact 49 (f := .glo "TooMuch") rfl)
  x_TooMuch := He.exc_ok (c.t.d.fact 50 (f := .exc "TooMuch") rfl)
  g_Line := He.glo_ok X G (c.t.d.fact 51 (f := .glo "Line") rfl)
  cl_Line := He.cls_ok (c.t.d.fact 52 (f := .cls "Line") rfl)
  n_Line_item := He.noat_ok (c.t.d.fact 53 (f := .noat "Line" "item") rfl)
  n_Line_ordered := He.noat_ok (c.t.d.fact 54 (f := .noat "Line" "ordered") rfl)
  n_Line_cents := He.noat_ok (c.t.d.fact 55 (f := .noat "Line" "cents") rfl)
  n_Line_pack := He.noat_ok (c.t.d.fact 56 (f := .noat "Line" "pack") rfl)
  n_Line_sent := He.noat_ok (c.t.d.fact 57 (f := .noat "Line" "sent") rfl)
  n_Line_home := He.noat_ok (c.t.d.fact 58 (f := .noat "Line" "home") rfl)
  n_Line_again := He.noat_ok (c.t.d.fact 59 (f := .noat "Line" "again") rfl)
  n_Line_credited := He.noat_ok (c.t.d.fact 60 (f := .noat "Line" "credited") rfl)
  mk_Line := He.mkr_ok (c.t.d.fact 61 (f := .mkr "Line") rfl)
  m_Line_kept := He.meth_ok (c.t.d.fact 62 (f := .meth "Line" "kept") rfl)
  m_Line_to_come := He.meth_ok (c.t.d.fact 63 (f := .meth "Line" "to_come") rfl)
  m_Line_kept_worth := He.meth_ok (c.t.d.fact 64 (f := .meth "Line" "kept_worth") rfl)
  m_Line_charge := He.meth_ok (c.t.d.fact 65 (f := .meth "Line" "charge") rfl)
  m_Line_deliver := He.meth_ok (c.t.d.fact 66 (f := .meth "Line" "deliver") rfl)
  m_Line_bring := He.meth_ok (c.t.d.fact 67 (f := .meth "Line" "bring") rfl)
  m_Line_reduce := He.meth_ok (c.t.d.fact 68 (f := .meth "Line" "reduce") rfl)
  m_Line_numbers := He.meth_ok (c.t.d.fact 69 (f := .meth "Line" "numbers") rfl)
  g_Order := He.glo_ok X G (c.t.d.fact 70 (f := .glo "Order") rfl)
  cl_Order := He.cls_ok (c.t.d.fact 71 (f := .cls "Order") rfl)
  n_Order_lines := He.noat_ok (c.t.d.fact 72 (f := .noat "Order" "lines") rfl)
  n_Order_money := He.noat_ok (c.t.d.fact 73 (f := .noat "Order" "money") rfl)
  n_Order_marks := He.noat_ok (c.t.d.fact 74 (f := .noat "Order" "marks") rfl)
  mk_Order := He.mkr_ok (c.t.d.fact 75 (f := .mkr "Order") rfl)
  m_Order_owing := He.meth_ok (c.t.d.fact 76 (f := .meth "Order" "owing") rfl)
  m_Order_line_of := He.meth_ok (c.t.d.fact 77 (f := .meth "Order" "line_of") rfl)
  m_Order_need_over := He.meth_ok (c.t.d.fact 78 (f := .meth "Order" "need_over") rfl)
  m_Order_turn_line := He.meth_ok (c.t.d.fact 79 (f := .meth "Order" "turn_line") rfl)
  m_Order_take := He.meth_ok (c.t.d.fact 80 (f := .meth "Order" "take") rfl)
  m_Order_mark := He.meth_ok (c.t.d.fact 81 (f := .meth "Order" "mark") rfl)
  g_Book := He.glo_ok X G (c.t.d.fact 82 (f := .glo "Book") rfl)
  cl_Book := He.cls_ok (c.t.d.fact 83 (f := .cls "Book") rfl)
  n_Book_each := He.noat_ok (c.t.d.fact 84 (f := .noat "Book" "each") rfl)
  n_Book_trail := He.noat_ok (c.t.d.fact 85 (f := .noat "Book" "trail") rfl)
  mk_Book := He.mkr_ok (c.t.d.fact 86 (f := .mkr "Book") rfl)
  m_Book_order_of := He.meth_ok (c.t.d.fact 87 (f := .meth "Book" "order_of") rfl)
  m_Book_do := He.meth_ok (c.t.d.fact 88 (f := .meth "Book" "do") rfl)
  m_Book_begin := He.meth_ok (c.t.d.fact 89 (f := .meth "Book" "begin") rfl)
  m_Book_shift := He.meth_ok (c.t.d.fact 90 (f := .meth "Book" "shift") rfl)
  m_Book_one := He.meth_ok (c.t.d.fact 91 (f := .meth "Book" "one") rfl)
  m_Book_need_number := He.meth_ok (c.t.d.fact 92 (f := .meth "Book" "need_number") rfl)
  m_Book_orders := He.meth_ok (c.t.d.fact 93 (f := .meth "Book" "orders") rfl)
  m_Book_told := He.meth_ok (c.t.d.fact 94 (f := .meth "Book" "told") rfl)
  m_Book_paid := He.meth_ok (c.t.d.fact 95 (f := .meth "Book" "paid") rfl)
  m_Book_owed := He.meth_ok (c.t.d.fact 96 (f := .meth "Book" "owed") rfl)
  e_NoDeed_NoNumber := He.exm_ok (c.t.d.fact 97 (f := .exm "NoDeed" "NoNumber" false) rfl)
  e_NoLines_NoNumber := He.exm_ok (c.t.d.fact 98 (f := .exm "NoLines" "NoNumber" false) rfl)
  e_NoItem_NoNumber := He.exm_ok (c.t.d.fact 99 (f := .exm "NoItem" "NoNumber" false) rfl)
  e_NoNumber_NoNumber := He.exm_ok (c.t.d.fact 100 (f := .exm "NoNumber" "NoNumber" true) rfl)
  e_FullBook_NoNumber := He.exm_ok (c.t.d.fact 101 (f := .exm "FullBook" "NoNumber" false) rfl)
  e_NoOrder_NoNumber := He.exm_ok (c.t.d.fact 102 (f := .exm "NoOrder" "NoNumber" false) rfl)
  e_SameOrder_NoNumber := He.exm_ok (c.t.d.fact 103 (f := .exm "SameOrder" "NoNumber" false) rfl)
  e_NoLine_NoNumber := He.exm_ok (c.t.d.fact 104 (f := .exm "NoLine" "NoNumber" false) rfl)
  e_TooMuch_NoNumber := He.exm_ok (c.t.d.fact 105 (f := .exm "TooMuch" "NoNumber" false) rfl)
  e_NoDeed_TooMuch := He.exm_ok (c.t.d.fact 106 (f := .exm "NoDeed" "TooMuch" false) rfl)
  e_NoLines_TooMuch := He.exm_ok (c.t.d.fact 107 (f := .exm "NoLines" "TooMuch" false) rfl)
  e_NoItem_TooMuch := He.exm_ok (c.t.d.fact 108 (f := .exm "NoItem" "TooMuch" false) rfl)
  e_NoNumber_TooMuch := He.exm_ok (c.t.d.fact 109 (f := .exm "NoNumber" "TooMuch" false) rfl)
  e_FullBook_TooMuch := He.exm_ok (c.t.d.fact 110 (f := .exm "FullBook" "TooMuch" false) rfl)
  e_NoOrder_TooMuch := He.exm_ok (c.t.d.fact 111 (f := .exm "NoOrder" "TooMuch" false) rfl)
  e_SameOrder_TooMuch := He.exm_ok (c.t.d.fact 112 (f := .exm "SameOrder" "TooMuch" false) rfl)
  e_NoLine_TooMuch := He.exm_ok (c.t.d.fact 113 (f := .exm "NoLine" "TooMuch" false) rfl)
  e_TooMuch_TooMuch := He.exm_ok (c.t.d.fact 114 (f := .exm "TooMuch" "TooMuch" true) rfl)
  f_Worth := by
    obtain ⟨fd, F⟩ := c.t.d.def_ 0 (d := dWorth) rfl
    exact fdO_of F
  f_IsItem := by
    obtain ⟨fd, F⟩ := c.t.d.def_ 1 (d := dIsItem) rfl
    exact fdO_of F
  f_CheckLine := by
    obtain ⟨fd, F⟩ := c.t.d.def_ 2 (d := dCheckLine) rfl
    exact fdO_of F
  f_LineInit := by
    obtain ⟨fd, F⟩ := c.t.d.def_ 3 (d := dLineInit) rfl
    exact fdO_of F
  f_LineKept := by
    obtain ⟨fd, F⟩ := c.t.d.def_ 4 (d := dLineKept) rfl
    exact fdO_of F
  f_LineToCome := by
    obtain ⟨fd, F⟩ := c.t.d.def_ 5 (d := dLineToCome) rfl
    exact fdO_of F
  f_LineKeptWorth := by
    obtain ⟨fd, F⟩ := c.t.d.def_ 6 (d := dLineKeptWorth) rfl
    exact fdO_of F
  f_LineCharge := by
    obtain ⟨fd, F⟩ := c.t.d.def_ 7 (d := dLineCharge) rfl
    exact fdO_of F
  f_LineDeliver := by
    obtain ⟨fd, F⟩ := c.t.d.def_ 8 (d := dLineDeliver) rfl
    exact fdO_of F
  f_LineBring := by
    obtain ⟨fd, F⟩ := c.t.d.def_ 9 (d := dLineBring) rfl
    exact fdO_of F
  f_LineReduce := by
    obtain ⟨fd, F⟩ := c.t.d.def_ 10 (d := dLineReduce) rfl
    exact fdO_of F
  f_LineNumbers := by
    obtain ⟨fd, F⟩ := c.t.d.def_ 11 (d := dLineNumbers) rfl
    exact fdO_of F
  f_OrderInit := by
    obtain ⟨fd, F⟩ := c.t.d.def_ 12 (d := dOrderInit) rfl
    exact fdO_of F
  f_OrderOwing := by
    obtain ⟨fd, F⟩ := c.t.d.def_ 13 (d := dOrderOwing) rfl
    exact fdO_of F
  f_OrderLineOf := by
    obtain ⟨fd, F⟩ := c.t.d.def_ 14 (d := dOrderLineOf) rfl
    exact fdO_of F
  f_OrderNeedOver := by
    obtain ⟨fd, F⟩ := c.t.d.def_ 15 (d := dOrderNeedOver) rfl
    exact fdO_of F
  f_OrderTurnLine := by
    obtain ⟨fd, F⟩ := c.t.d.def_ 16 (d := dOrderTurnLine) rfl
    exact fdO_of F
  f_OrderTake := by
    obtain ⟨fd, F⟩ := c.t.d.def_ 17 (d := dOrderTake) rfl
    exact fdO_of F
  f_OrderMark := by
    obtain ⟨fd, F⟩ := c.t.d.def_ 18 (d := dOrderMark) rfl
    exact fdO_of F
  f_Own := by
    obtain ⟨fd, F⟩ := c.t.d.def_ 19 (d := dOwn) rfl
    exact fdO_of F
  f_BookInit := by
    obtain ⟨fd, F⟩ := c.t.d.def_ 20 (d := dBookInit) rfl
    exact fdO_of F
  f_BookOrderOf := by
    obtain ⟨fd, F⟩ := c.t.d.def_ 21 (d := dBookOrderOf) rfl
    exact fdO_of F
  f_BookDo := by
    obtain ⟨fd, F⟩ := c.t.d.def_ 22 (d := dBookDo) rfl
    exact fdO_of F
  f_BookBegin := by
    obtain ⟨fd, F⟩ := c.t.d.def_ 23 (d := dBookBegin) rfl
    exact fdO_of F
  f_BookShift := by
    obtain ⟨fd, F⟩ := c.t.d.def_ 24 (d := dBookShift) rfl
    exact fdO_of F
  f_BookOne := by
    obtain ⟨fd, F⟩ := c.t.d.def_ 25 (d := dBookOne) rfl
    exact fdO_of F
  f_BookNeedNumber := by
    obtain ⟨fd, F⟩ := c.t.d.def_ 26 (d := dBookNeedNumber) rfl
    exact fdO_of F
  f_BookOrders := by
    obtain ⟨fd, F⟩ := c.t.d.def_ 27 (d := dBookOrders) rfl
    exact fdO_of F
  f_BookTold := by
    obtain ⟨fd, F⟩ := c.t.d.def_ 28 (d := dBookTold) rfl
    exact fdO_of F
  f_BookPaid := by
    obtain ⟨fd, F⟩ := c.t.d.def_ 29 (d := dBookPaid) rfl
    exact fdO_of F
  f_BookOwed := by
    obtain ⟨fd, F⟩ := c.t.d.def_ 30 (d := dBookOwed) rfl
    exact fdO_of F
  f_LCellAt := by
    obtain ⟨fd, F⟩ := c.t.d.def_ 31 (d := dLCellAt) rfl
    exact fdO_of F
  f_LWhole := by
    obtain ⟨fd, F⟩ := c.t.d.def_ 32 (d := dLWhole) rfl
    exact fdO_of F
  f_LNumberBy := by
    obtain ⟨fd, F⟩ := c.t.d.def_ 33 (d := dLNumberBy) rfl
    exact fdO_of F
  f_LTried := by
    obtain ⟨fd, F⟩ := c.t.d.def_ 34 (d := dLTried) rfl
    exact fdO_of F
  f_LChanges := by
    obtain ⟨fd, F⟩ := c.t.d.def_ 35 (d := dLChanges) rfl
    exact fdO_of F
  f_LPairsAlike := by
    obtain ⟨fd, F⟩ := c.t.d.def_ 36 (d := dLPairsAlike) rfl
    exact fdO_of F
  f_LStands := by
    obtain ⟨fd, F⟩ := c.t.d.def_ 37 (d := dLStands) rfl
    exact fdO_of F
  f_LBegun := by
    obtain ⟨fd, F⟩ := c.t.d.def_ 38 (d := dLBegun) rfl
    exact fdO_of F
  f_Law := by
    obtain ⟨fd, F⟩ := c.t.d.def_ 39 (d := dLaw) rfl
    exact fdO_of F
  kd := by
    have e : ts.map (fun t => He.dicW K (t.1 K)) = ts.map fun t => some (He.keysIn w.params t.2) := congrArg (fun z : He.AlT => z.2) c.t
    have e1 : He.dicW K (He.ga K "PARTS") = some (He.keysIn w.params (parts.map (·.1))) := (List.cons.inj e).1
    exact kd_of e1
  kv := c.more
theorem room_any {k : Nat} {A : Around} (h : Room k A) : Room k A := h
/-! ### rules of our own over the layer -/
theorem pe_gc {X : Cx} {x : Str} {v : V} {pos : Pos} (hg : Gl X x) (hm : ∃ u, X.mg x = some u ∧ RelV v u) (hd : (x == ("__debug__" : Str)) = false := by decide) : PE X (.Name x pos) (tC v) := by
  obtain ⟨u, h, r⟩ := hm
  exact pe_glob hg h r hd
/-! ### readings from the left: one lemma a form -/
section
variable {σ : L2.St} {H : Hp} {Q : VK} {QB : Bool → Hp → Prop} {D : Ends} {K : PySem.W.Frag}
theorem r_seq {t u : TS} (h : t { D with nx := u D } σ H) : tSeq t u D σ H := h
/-- the ways behind a statement are joined: P holds behind it -/
theorem r_join {t u : TS} (P : L2.St → Hp → Prop) (h2 : ∀ σ' H', P σ' H' → u D σ' H') (h1 : ∀ N : L2.St → Hp → Prop, (∀ σ' H', P σ' H' → N σ' H') → t { D with nx := N } σ H) : tSeq t u D σ H := h1 (u D) h2
theorem r_asg {te : TE} {i : Nat} (h : te σ H fun x H1 => D.nx (σ.set i (some x)) H1) : tAsg te (gName i) D σ H := h
theorem r_gn {i : Nat} {v : V} {R : L2.St → Hp → Prop} (h : R (σ.set i (some v)) H) : gName i v σ H R := h
theorem r_ret {te : TE} (h : te σ H D.rt) : tRet te D σ H := h
theorem r_retN (h : D.rt .non H) : tRetN D σ H := h
theorem r_drop {te : TE} (h : te σ H fun _ H1 => D.nx σ H1) : tDrop te D σ H := h
theorem r_ifs {c : TT} {t u : TS} (h : c σ H fun b H1 => if b = true then t D σ H1 else u D σ H1) : tIfS c t u D σ H := h
theorem r_next (h : D.nx σ H) : tNext D σ H := h
theorem r_var {i : Nat} {v : V} (e : σ[i]? = some (some v)) (h : Q v H) : tVar i σ H Q := ⟨v, e, h⟩
theorem r_c {v : V} (h : Q v H) : tC v σ H Q := h
theorem r_op {r : R2} {ta tb : TE} (h : ta σ H fun x H1 => tb σ H1 fun y H2 => r x y H2 Q) : tOp r ta tb σ H Q := h
theorem r_un {r : V → Hp → VK → Prop} {ta : TE} (h : ta σ H fun x H1 => r x H1 Q) : tUn r ta σ H Q := h
theorem r_U {g : Int → V} {i : Int} (h : Q (g i) H) : rU g (.int i) H Q := ⟨i, rfl, h⟩
theorem r_I0 {g : Int → Int → V} {i j : Int} (h : Q (g i j) H) : rI0 g (.int i) (.int j) H Q := ⟨i, j, rfl, rfl, h⟩
theorem r_I {C : Int → Int → Prop} {g : Int → Int → V} {i j : Int} (c : C i j) (h : Q (g i j) H) : rI C g (.int i) (.int j) H Q := ⟨i, j, rfl, rfl, c, h⟩
theorem r_eqI {i j : Int} (h : Q (.bl (decide (i = j))) H) : rEq (.int i) (.int j) H Q := by
  refine ⟨rfl, ?_⟩
  have e : decide (V.int i = V.int j) = decide (i = j) := by simp
  rw [e]
  exact h
theorem r_neI {i j : Int} (h : Q (.bl (!decide (i = j))) H) : rNe (.int i) (.int j) H Q := by
  refine ⟨rfl, ?_⟩
  have e : decide (V.int i = V.int j) = decide (i = j) := by simp
  rw [e]
  exact h
theorem r_eqS {i j : Str} (h : Q (.bl (decide (i = j))) H) : rEq (.str i) (.str j) H Q := by
  refine ⟨rfl, ?_⟩
  have e : decide (V.str i = V.str j) = decide (i = j) := by simp
  rw [e]
  exact h
theorem r_neS {i j : Str} (h : Q (.bl (!decide (i = j))) H) : rNe (.str i) (.str j) H Q := by
  refine ⟨rfl, ?_⟩
  have e : decide (V.str i = V.str j) = decide (i = j) := by simp
  rw [e]
  exact h
theorem r_test {t : TE} (h : t σ H fun x H1 => ∃ k, x = V.bl k ∧ QB k H1) : tTest t σ H QB := h
theorem r_tB {t : TE} (h : t σ H fun x H1 => ∃ k, x = V.bl k ∧ QB k H1) : tB t σ H QB := h
theorem r_exb {b : Bool} {P : Bool → Prop} (h : P b) : ∃ k, V.bl b = V.bl k ∧ P k := ⟨b, rfl, h⟩
theorem r_and {t u : TT} (h : t σ H fun c H1 => if c = true then u σ H1 QB else QB false H1) : tAnd t u σ H QB := h
theorem r_or {t u : TT} (h : t σ H fun c H1 => if c = true then QB true H1 else u σ H1 QB) : tOr t u σ H QB := h
theorem r_not {t : TT} (h : t σ H fun c H1 => QB (!c) H1) : tNot t σ H QB := h
theorem r_andV {ta tb : TE} (h : ta σ H fun x H1 => ∃ c, x = V.bl c ∧ if c = true then tb σ H1 Q else Q (.bl false) H1) : tAndV ta tb σ H Q := h
theorem r_orV {ta tb : TE} (h : ta σ H fun x H1 => ∃ c, x = V.bl c ∧ if c = true then Q (.bl true) H1 else tb σ H1 Q) : tOrV ta tb σ H Q := h
theorem r_notV {ta : TE} (h : ta σ H fun x H1 => ∃ c, x = V.bl c ∧ Q (.bl (!c)) H1) : tNotV ta σ H Q := h
theorem r_ifE {t : TT} {ta tb : TE} (h : t σ H fun c H1 => if c = true then ta σ H1 Q else tb σ H1 Q) : tIf t ta tb σ H Q := h
theorem r_nil {QA : List V → Hp → Prop} (h : QA [] H) : tNil σ H QA := h
theorem r_cons {te : TE} {ta : TA} {QA : List V → Hp → Prop} (h : te σ H fun x H1 => ta σ H1 fun xs H2 => QA (x :: xs) H2) : tCons te ta σ H QA := h
theorem r_cb {r : List V → Hp → VK → Prop} {t : TA} (h : t σ H fun vs H1 => r vs H1 Q) : tCB r t σ H Q := h
theorem r_tup {t : TA} (h : t σ H fun xs H1 => xs.length ≤ sizeLine ∧ ∀ p, H1 p = none → Q (.ref p) (upd H1 p (.tup xs))) : tTup t σ H Q := h
theorem r_lst {t : TA} (h : t σ H fun xs H1 => xs.length ≤ sizeLine ∧ ∀ p, H1 p = none → Q (.ref p) (upd H1 p (.lst xs))) : tLst t σ H Q := h
theorem r_mk {xs : List V} {P : Addr → Prop} (hl : xs.length ≤ 100) (h : ∀ p, P p) : xs.length ≤ sizeLine ∧ ∀ p, P p := ⟨Nat.le_trans hl (by rw [sizeLine_eq]; decide), h⟩
theorem r_call {sp : Sp} {E : XK} {t : TA} (h : t σ H fun vs H1 => sp (vs ++ []) H1 Q E) : tCall sp [] E t σ H Q := h
theorem r_callS {sp : Sp} {E : L2.St → XK} {t : TA} (h : t σ H fun vs H1 => sp vs H1 Q (E σ)) : tCallS sp E t σ H Q := h
theorem r_meth {C : Addr} {m : Str} {sp : Sp} {E : XK} {ta : TE} {t : TA} (h : ta σ H fun x H1 => ∃ a dx fs, x = V.ref a ∧ H1 a = some (.ins C dx fs) ∧ fs.lookup m = none ∧ t σ H1 fun vs H2 => sp (x :: (vs ++ [])) H2 Q E) :
    tMeth C m sp [] E ta t σ H Q := h
theorem r_m {C : Addr} {m : Str} {a dx : Addr} {fs : List (Str × V)} {P : Prop} (ho : H a = some (.ins C dx fs)) (hn : fs.lookup m = none) (h : P) : ∃ a' dx' fs', V.ref a = V.ref a' ∧ H a' = some (.ins C dx' fs') ∧ fs'.lookup m = none ∧ P :=
  ⟨a, dx, fs, rfl, ho, hn, h⟩
theorem r_fld {ta : TE} {f : Str} (h : ta σ H fun x H1 => ∃ a C dx fs v, x = V.ref a ∧ H1 a = some (.ins C dx fs) ∧ Cls K C ∧ NoAttr K C f ∧ fs.lookup f = some v ∧ Q v H1) : tFld K ta f σ H Q := h
theorem r_f {f : Str} {a C dx : Addr} {fs : List (Str × V)} {v : V} {P : V → Prop} (ho : H a = some (.ins C dx fs)) (hc : Cls K C) (hn : NoAttr K C f) (hl : fs.lookup f = some v) (h : P v) :
    ∃ a' C' dx' fs' v', V.ref a = V.ref a' ∧ H a' = some (.ins C' dx' fs') ∧ Cls K C' ∧ NoAttr K C' f ∧ fs'.lookup f = some v' ∧ P v' := ⟨a, C, dx, fs, v, rfl, ho, hc, hn, hl, h⟩
theorem r_sfld {ta tv : TE} {f : Str} (h : tv σ H fun y H1 => ta σ H1 fun x H2 => ∃ a C dx fs, x = V.ref a ∧ H2 a = some (.ins C dx fs) ∧ Cls K C ∧ NoAttr K C f ∧ fs.length < 1000 ∧ D.nx σ (upd H2 a (.ins C dx (putF f y fs)))) :
    sFld K ta tv f D σ H := h
theorem r_sf {f : Str} {y : V} {a C dx : Addr} {fs gs : List (Str × V)} {P : Hp → Prop} (ho : H a = some (.ins C dx fs)) (hc : Cls K C) (hn : NoAttr K C f) (hp : putF f y fs = gs) (hl : fs.length ≤ 20) (h : P (upd H a (.ins C dx gs))) :
    ∃ a' C' dx' fs', V.ref a = V.ref a' ∧ H a' = some (.ins C' dx' fs') ∧ Cls K C' ∧ NoAttr K C' f ∧ fs'.length < 1000 ∧ P (upd H a' (.ins C' dx' (putF f y fs'))) :=
  ⟨a, C, dx, fs, rfl, ho, hc, hn, Nat.lt_of_le_of_lt hl (by decide), by rw [hp]; exact h⟩
theorem r_ixT {a : Addr} {xs : List V} {i : Int} {v : V} (h : SqT K H a xs) (e : atI xs i = some v) (q : Q v H) : rIxT K (.ref a) (.int i) H Q := ⟨a, xs, i, v, rfl, rfl, h, e, q⟩
theorem r_ixL {a : Addr} {xs : List V} {i : Int} {v : V} (h : SqL K H a xs) (e : atI xs i = some v) (q : Q v H) : rIxL K (.ref a) (.int i) H Q := ⟨a, xs, i, v, rfl, rfl, h, e, q⟩
theorem r_chain {r r' : R2} {ta tb tc : TE} (h : ta σ H fun x H1 => tb σ H1 fun y H2 => r x y H2 fun z H3 => ∃ k, z = V.bl k ∧ (if k = true then tc σ H3 fun w H4 => r' y w H4 Q else Q (.bl false) H3)) : tChain r r' ta tb tc σ H Q := h
theorem r_itd {p : Prop} [Decidable p] {A B : Prop} (h1 : p → A) (h2 : ¬ p → B) : if decide p = true then A else B := by
  by_cases h : p
  · rw [decide_eq_true h, if_pos rfl]; exact h1 h
  · rw [decide_eq_false h, if_neg (by decide)]; exact h2 h
theorem r_itn {p : Prop} [Decidable p] {A B : Prop} (h1 : ¬ p → A) (h2 : p → B) : if (!decide p) = true then A else B := by
  by_cases h : p
  · rw [decide_eq_true h, if_neg (by decide)]; exact h2 h
  · rw [decide_eq_false h, if_pos (show (!false) = true from rfl)]; exact h1 h
theorem r_itb {b : Bool} {A B : Prop} (h1 : b = true → A) (h2 : b = false → B) : if b = true then A else B := by
  cases b with
  | true => rw [if_pos rfl]; exact h1 rfl
  | false => rw [if_neg (by decide)]; exact h2 rfl
theorem r_ity {p : Prop} [Decidable p] {A B : Prop} (hp : p) (h : A) : if decide p = true then A else B := by
  rw [decide_eq_true hp, if_pos rfl]; exact h
theorem r_itz {p : Prop} [Decidable p] {A B : Prop} (hp : ¬ p) (h : B) : if decide p = true then A else B := by
  rw [decide_eq_false hp, if_neg (by decide)]; exact h
theorem r_itT {A B : Prop} (h : A) : if true = true then A else B := h
theorem r_itF {A B : Prop} (h : B) : if false = true then A else B := by
  rw [if_neg (by decide)]; exact h
theorem r_itnT {A B : Prop} (h : B) : if (!true) = true then A else B := by
  rw [if_neg (by decide)]; exact h
theorem r_itnF {A B : Prop} (h : A) : if (!false) = true then A else B := by
  rw [if_pos (by decide)]; exact h
theorem r_make {C : Addr} {sp : Sp} {E : XK} {t : TA} (h : t σ H fun vs H1 => ∀ x dx, H1 x = none → H1 dx = none → dx ≠ x → sp (.ref x :: (vs ++ [])) (upd (upd H1 dx (.own x)) x (.ins C dx [])) (fun v H2 => v = .non ∧ Q (.ref x) H2) E) : tMake C sp [] E t σ H Q := h
theorem r_bm {T : String} {r : V → List V → Hp → VK → Prop} {to : TE} {t : TA} (h : to σ H fun x H1 => tyV K T x H1 ∧ t σ H1 fun xs H2 => r x xs H2 Q) : tBM K T r to t σ H Q := h
theorem r_tyL {p : Addr} {xs : List V} {P : Prop} (h : SqL K H p xs) (q : P) : tyV K "list" (.ref p) H ∧ P := ⟨.inl ⟨rfl, xs, h⟩, q⟩
theorem r_app {l : Addr} {xs : List V} {y : V} (h : H l = some (.lst xs)) (hz : xs.length < sizeLine) (q : Q .non (upd H l (.lst (xs ++ [y])))) : rAppend (.ref l) [y] H Q := ⟨l, xs, y, rfl, rfl, h, hz, q⟩
theorem r_yes (h : QB true H) : tYes σ H QB := h
theorem r_raise {cls : Value} {W : WX} (h : W cls none σ H) : (fun (_ : Ends) (σ : L2.St) (H : Hp) => (fun (_ : L2.St) (H : Hp) (Q : XK) => Q cls none H) σ H fun cls d H' => W cls d σ H') D σ H := h
end
theorem atI_get {α : Type} {xs : List α} {i : Int} {j : Nat} {v : α} (e : i = (j : Int)) (h : xs[j]? = some v) : atI xs i = some v := by
  subst e
  have hl : j < xs.length := (List.getElem?_eq_some_iff.mp h).1
  unfold atI ixN
  rw [if_pos (by omega), if_pos (by omega)]
  simpa using h
theorem lk_hit {a : Str} {v : V} {r : List (Str × V)} : List.lookup a ((a, v) :: r) = some v := by simp [List.lookup]
theorem lk_miss {a b : Str} {v : V} {r : List (Str × V)} (h : ¬ a = b) : List.lookup a ((b, v) :: r) = List.lookup a r := by
  have e : (a == b) = false := by simpa using h
  simp [List.lookup, e]
theorem pf_hit {a : Str} {v u : V} {r : List (Str × V)} : putF a v ((a, u) :: r) = (a, v) :: r := by
  show (if a = a then (a, v) :: r else _) = _
  rw [if_pos rfl]
theorem pf_miss {a b : Str} {v u : V} {r : List (Str × V)} (h : ¬ b = a) : putF a v ((b, u) :: r) = (b, u) :: putF a v r := by
  show (if b = a then _ else (b, u) :: putF a v r) = _
  rw [if_neg h]
theorem pf_nil {a : Str} {v : V} : putF a v [] = [(a, v)] := rfl
/-- all but S is as it was; tuples always -/
structure But (S : Addr → Prop) (H H' : Hp) : Prop where
  keep : ∀ a o, H a = some o → ¬ S a → H' a = some o
  tup : ∀ a xs, H a = some (.tup xs) → H' a = some (.tup xs)
theorem But.refl {S : Addr → Prop} {H : Hp} : But S H H := ⟨fun _ _ h _ => h, fun _ _ h => h⟩
theorem But.trans {S : Addr → Prop} {H H1 H2 : Hp} (a : But S H H1) (b : But S H1 H2) : But S H H2 := ⟨fun x o h n => b.keep x o (a.keep x o h n) n, fun x o h => b.tup x o (a.tup x o h)⟩
theorem But.of {S : Addr → Prop} {H H' : Hp} (h : Same H H') : But S H H' := ⟨fun x o e _ => h x o e, fun x o e => h x _ e⟩
theorem But.mono {S S' : Addr → Prop} {H H' : Hp} (h : But S H H') (m : ∀ a, S a → S' a) : But S' H H' := ⟨fun x o e n => h.keep x o e fun z => n (m x z), h.tup⟩
theorem But.ins {S : Addr → Prop} {H : Hp} {a C dx : Addr} {fs : List (Str × V)} {o : HO} (ha : H a = some (.ins C dx fs)) (h : S a) : But S H (L2.upd H a o) :=
  ⟨fun x u e n => by rw [upd_ne (fun z => n (by rw [z]; exact h))]; exact e, fun x u e => by rw [upd_ne (ne_of e ha (by intro q; cases q))]; exact e⟩
theorem But.lst {S : Addr → Prop} {H : Hp} {a : Addr} {xs : List V} {o : HO} (ha : H a = some (.lst xs)) (h : S a) : But S H (L2.upd H a o) :=
  ⟨fun x u e n => by rw [upd_ne (fun z => n (by rw [z]; exact h))]; exact e, fun x u e => by rw [upd_ne (ne_of e ha (by intro q; cases q))]; exact e⟩
theorem same_upd {H : Hp} {a : Addr} {o : HO} (h : H a = none) : Same H (L2.upd H a o) := fun x u e => by
  rw [upd_ne (ne_of_none e h)]; exact e
/-- a new address may change -/
theorem But.new {S : Addr → Prop} {H H1 : Hp} {a : Addr} {o : HO} (b : But S H H1) (h : H a = none) : But S H (L2.upd H1 a o) :=
  ⟨fun x u e n => by rw [upd_ne (ne_of_none e h)]; exact b.keep x u e n, fun x u e => by rw [upd_ne (ne_of_none e h)]; exact b.tup x u e⟩
theorem But.same {H H' : Hp} (h : But (fun _ => False) H H') : Same H H' := fun x o e => h.keep x o e id
theorem But.mut {S S' : Addr → Prop} {H H1 H2 : Hp} (b : But S H H1) (c : But S' H1 H2) (m : ∀ a, S' a → S a ∨ H a = none) : But S H H2 :=
  ⟨fun x u e n => c.keep x u (b.keep x u e n) fun z => (m x z).elim n fun q => (by rw [q] at e; cases e), fun x u e => c.tup x u (b.tup x u e)⟩
theorem sz5 {n : Nat} (h : n ≤ 100000) : n ≤ sizeLine := Nat.le_trans h (by rw [sizeLine_eq]; decide)
theorem sz5l {n : Nat} (h : n < 100000) : n < sizeLine := Nat.lt_of_lt_of_le h (by rw [sizeLine_eq]; decide)
/-! ### comprehensions -/
theorem wipe1 {σ : L2.St} {j : Nat} {x : V} : wipe ((wipe σ [j]).set j (some x)) [j] = wipe σ [j] := by
  show ((σ.set j none).set j (some x)).set j none = σ.set j none
  simp
theorem take_snoc {α : Type} : ∀ {l : List α} {i : Nat} {x : α}, l[i]? = some x → l.take (i + 1) = l.take i ++ [x]
  | [], i, x, h => by simp at h
  | a :: l, 0, x, h => by
    have e : a = x := Option.some.inj h
    subst e
    rfl
  | a :: l, i + 1, x, h => by
    have ih := take_snoc (l := l) (i := i) (x := x) h
    show a :: l.take (i + 1) = a :: l.take i ++ [x]
    rw [ih]
    rfl
/-- what a comprehension's walk asks -/
def Lcs (J : It) (g : TG) (tt : TT) (te : TE) (vs : List Nat) (σ : L2.St) (H1 : Hp) (Q : VK) : Prop := ∀ D, H1 D = none → ∃ W : Nat → Nat → Hp → Prop, (∃ m, W 0 m (L2.upd H1 D (.lst []))) ∧ ∀ i m H, W i m H →
  (J.stop i H ∧ Q (.ref D) H) ∨ (J.go i H ∧ ∃ Nx : Hp → Prop, (∀ H', Nx H' → ∃ m', m' < m ∧ W (i + 1) m' H') ∧ ∀ x H', J.yld i H x H' → g x (wipe σ vs) H' fun σ2 H2 => wipe σ2 vs = wipe σ vs ∧ tt σ2 H2 fun b H3 =>
    if b = true then te σ2 H3 fun y H4 => ∃ acc, H4 D = some (.lst acc) ∧ acc.length < sizeLine ∧ Nx (L2.upd H4 D (.lst (acc ++ [y]))) else Nx H3)
theorem r_lcl {K : PySem.W.Frag} {tl te : TE} {g : TG} {tt : TT} {vs : List Nat} {σ : L2.St} {H : Hp} {Q : VK} (h : tl σ H fun x H1 => ∃ a, x = V.ref a ∧ (∃ xs, SqL K H1 a xs) ∧ Lcs (Itl K a) g tt te vs σ H1 Q) : tLc (iList K tl) g tt te vs σ H Q := h
theorem r_lct {K : PySem.W.Frag} {tl te : TE} {g : TG} {tt : TT} {vs : List Nat} {σ : L2.St} {H : Hp} {Q : VK} (h : tl σ H fun x H1 => ∃ a, x = V.ref a ∧ (∃ xs, SqT K H1 a xs) ∧ Lcs (Itt K a) g tt te vs σ H1 Q) : tLc (iTup K tl) g tt te vs σ H Q := h
theorem r_lcr {ta : TA} {te : TE} {g : TG} {tt : TT} {vs : List Nat} {σ : L2.St} {H : Hp} {Q : VK} (h : ta σ H fun us H1 => ∃ j : Int, us = [V.int j] ∧ -(2 ^ 62) ≤ j ∧ j < 2 ^ 62 ∧ Lcs (Itr 0 j.toNat) g tt te vs σ H1 Q) : tLc (iRng1 ta) g tt te vs σ H Q := h
/-- a comprehension whose elements leave what stands: by the list of its values -/
theorem lcp_list {K : PySem.W.Frag} {te : TE} {j : Nat} {σ : L2.St} {H1 : Hp} {Q : VK} {a : Addr} {xs ys : List V} (hs : SqL K H1 a xs) (hl : ys.length = xs.length) (hz : xs.length ≤ 100000)
    (he : ∀ (i : Nat) (x y : V) (H' : Hp) (R : VK), xs[i]? = some x → ys[i]? = some y → Same H1 H' → (∀ H'', Same H' H'' → R y H'') → te ((wipe σ [j]).set j (some x)) H' R)
    (k : ∀ (D : Addr) (H' : Hp), H1 D = none → Same H1 H' → H' D = some (.lst ys) → Q (.ref D) H') : ∃ a', V.ref a = V.ref a' ∧ (∃ xs, SqL K H1 a' xs) ∧ Lcs (Itl K a') (gName j) tYes te [j] σ H1 Q := by
  refine ⟨a, rfl, ⟨xs, hs⟩, fun D hD => ?_⟩
  refine lc_list (K := K) (a := a) (xs := xs) (fun i H' => Same H1 H' ∧ H' D = some (.lst (ys.take i))) ⟨same_upd hD, upd_same⟩ (fun i H' _ p => p.1.seq hs) ?_ ?_
  · rintro i x H' hi ⟨s, e⟩
    have hi2 : i < ys.length := by rw [hl]; exact (List.getElem?_eq_some_iff.mp hi).1
    have ey : ys[i]? = some ys[i] := List.getElem?_eq_getElem hi2
    refine ⟨wipe1, r_yes (r_itT ?_)⟩
    refine he i x _ H' _ hi ey s fun H'' s2 => ⟨_, s2 _ _ e, ?_, ?_, ?_⟩
    · refine sz5l ?_
      rw [List.length_take]
      omega
    · exact fun b o q => by
        rw [upd_ne (ne_of_none q hD)]
        exact s2 _ _ (s _ _ q)
    · rw [upd_same, take_snoc ey]
  · rintro H' ⟨s, e⟩
    refine k D H' hD s ?_
    rw [e, List.take_of_length_le (by omega)]
/-- .. whose elements are told by a relation that leans on tuples alone -/
theorem lcp_rel {K : PySem.W.Frag} {te : TE} {j : Nat} {σ : L2.St} {H1 : Hp} {Q : VK} {a : Addr} {xs : List V} {α : Type} {R : Hp → V → α → Prop} {zs : List α} (hs : SqL K H1 a xs) (hl : zs.length = xs.length) (hz : xs.length ≤ 100000)
    (stab : ∀ H H' v z, R H v z → (∀ b ys, H b = some (.tup ys) → H' b = some (.tup ys)) → R H' v z)
    (he : ∀ (i : Nat) (x : V) (z : α) (H' : Hp) (W : VK), xs[i]? = some x → zs[i]? = some z → Same H1 H' → (∀ y H'', Same H' H'' → R H'' y z → W y H'') → te ((wipe σ [j]).set j (some x)) H' W)
    (k : ∀ (D : Addr) (H' : Hp) (acc : List V), H1 D = none → Same H1 H' → H' D = some (.lst acc) → Paired (R H') acc zs → Q (.ref D) H') : ∃ a', V.ref a = V.ref a' ∧ (∃ xs, SqL K H1 a' xs) ∧ Lcs (Itl K a') (gName j) tYes te [j] σ H1 Q := by
  refine ⟨a, rfl, ⟨xs, hs⟩, fun D hD => ?_⟩
  refine lc_list (K := K) (a := a) (xs := xs) (fun i H' => Same H1 H' ∧ ∃ acc, H' D = some (.lst acc) ∧ Paired (R H') acc (zs.take i)) ⟨same_upd hD, [], upd_same, .nil⟩ (fun i H' _ p => p.1.seq hs) ?_ ?_
  · rintro i x H' hi ⟨s, acc, e, pr⟩
    have hi1 : i < xs.length := (List.getElem?_eq_some_iff.mp hi).1
    have hi2 : i < zs.length := by rw [hl]; exact hi1
    have ez : zs[i]? = some zs[i] := List.getElem?_eq_getElem hi2
    refine ⟨wipe1, r_yes (r_itT ?_)⟩
    refine he i x _ H' _ hi ez s fun y H'' s2 r => ⟨acc, s2 _ _ e, ?_, ?_, acc ++ [y], upd_same, ?_⟩
    · have := pr.length
      rw [List.length_take] at this
      refine sz5l ?_
      omega
    · exact fun b o q => by
        rw [upd_ne (ne_of_none q hD)]
        exact s2 _ _ (s _ _ q)
    · have up : ∀ b ys, H'' b = some (.tup ys) → L2.upd H'' D (.lst (acc ++ [y])) b = some (.tup ys) := fun b ys q => by
        rw [upd_ne (ne_of q (s2 _ _ e) (by intro z; cases z))]
        exact q
      rw [take_snoc ez]
      exact Paired.snoc (Paired.mapP pr fun _ _ q => stab _ _ _ _ q fun b ys w => up b ys (s2 _ _ w)) (stab _ _ _ _ r up)
  · rintro H' ⟨s, acc, e, pr⟩
    rw [List.take_of_length_le (by omega)] at pr
    exact k D H' acc hD s e pr
/-- .. over a range -/
theorem lcp_range {te : TE} {j : Nat} {σ : L2.St} {H1 : Hp} {Q : VK} {n : Int} {ys : List V} (hl : ys.length = n.toNat) (hz : n ≤ 100000) (hn : -100000 ≤ n)
    (he : ∀ (i : Nat) (y : V) (H' : Hp) (R : VK), ys[i]? = some y → Same H1 H' → (∀ H'', Same H' H'' → R y H'') → te ((wipe σ [j]).set j (some (.int (i : Int)))) H' R)
    (k : ∀ (D : Addr) (H' : Hp), H1 D = none → Same H1 H' → H' D = some (.lst ys) → Q (.ref D) H') : ∃ m : Int, [V.int n] = [V.int m] ∧ -(2 ^ 62) ≤ m ∧ m < 2 ^ 62 ∧ Lcs (Itr 0 m.toNat) (gName j) tYes te [j] σ H1 Q := by
  refine ⟨n, rfl, by omega, by omega, fun D hD => ?_⟩
  refine lc_range (lo := 0) (n := n.toNat) (fun i H' => Same H1 H' ∧ H' D = some (.lst (ys.take i))) ⟨same_upd hD, upd_same⟩ ?_ ?_
  · rintro i H' hi ⟨s, e⟩
    have hi2 : i < ys.length := by rw [hl]; exact hi
    have ey : ys[i]? = some ys[i] := List.getElem?_eq_getElem hi2
    refine ⟨wipe1, r_yes (r_itT ?_)⟩
    rw [Int.zero_add]
    refine he i _ H' _ ey s fun H'' s2 => ⟨_, s2 _ _ e, ?_, ?_, ?_⟩
    · refine sz5l ?_
      rw [List.length_take]
      omega
    · exact fun b o q => by
        rw [upd_ne (ne_of_none q hD)]
        exact s2 _ _ (s _ _ q)
    · rw [upd_same, take_snoc ey]
  · rintro H' ⟨s, e⟩
    refine k D H' hD s ?_
    rw [e, List.take_of_length_le (by omega)]
/-! ### what a for's walk asks -/
def Fors (J : It) (g : TG) (tb : TS) (D : Ends) (σ : L2.St) (H1 : Hp) : Prop := ∃ W : Nat → Nat → L2.St → Hp → Prop, (∃ m, W 0 m σ H1) ∧ ∀ i m σ H, W i m σ H →
  (J.stop i H ∧ D.nx σ H) ∨ (J.go i H ∧ ∃ N : L2.St → Hp → Prop, (∀ σ' H', N σ' H' → ∃ m', m' < m ∧ W (i + 1) m' σ' H') ∧ ∀ x H', J.yld i H x H' → g x σ H' fun σ2 H2 => tb { D with nx := N, ct := N, bk := D.nx } σ2 H2)
theorem r_forl {K : PySem.W.Frag} {tl : TE} {g : TG} {tb : TS} {D : Ends} {σ : L2.St} {H : Hp} (h : tl σ H fun x H1 => ∃ a, x = V.ref a ∧ (∃ xs, SqL K H1 a xs) ∧ Fors (Itl K a) g tb D σ H1) : tFor (iList K tl) g tb D σ H := h
theorem r_fort {K : PySem.W.Frag} {tl : TE} {g : TG} {tb : TS} {D : Ends} {σ : L2.St} {H : Hp} (h : tl σ H fun x H1 => ∃ a, x = V.ref a ∧ (∃ xs, SqT K H1 a xs) ∧ Fors (Itt K a) g tb D σ H1) : tFor (iTup K tl) g tb D σ H := h
theorem r_fors {te : TE} {g : TG} {tb : TS} {D : Ends} {σ : L2.St} {H : Hp} (h : te σ H fun v H1 => ∃ x, v = V.str x ∧ Fors (Its x) g tb D σ H1) : tFor (iStr te) g tb D σ H := h
theorem r_forr {ta : TA} {g : TG} {tb : TS} {D : Ends} {σ : L2.St} {H : Hp} (h : ta σ H fun us H1 => ∃ j : Int, us = [V.int j] ∧ -(2 ^ 62) ≤ j ∧ j < 2 ^ 62 ∧ Fors (Itr 0 j.toNat) g tb D σ H1) : tFor (iRng1 ta) g tb D σ H := h
theorem r_forr2 {ta : TA} {g : TG} {tb : TS} {D : Ends} {σ : L2.St} {H : Hp} (h : ta σ H fun us H1 => ∃ i j : Int, us = [V.int i, V.int j] ∧ (-(2 ^ 62) ≤ i ∧ i < 2 ^ 62 ∧ -(2 ^ 62) ≤ j ∧ j < 2 ^ 62) ∧ Fors (Itr i (j - i).toNat) g tb D σ H1) : tFor (iRng2 ta) g tb D σ H := h
theorem pf_m {a b : Str} {v u : V} {r s : List (Str × V)} (h : ¬ b = a) (e : putF a v r = s) : putF a v ((b, u) :: r) = (b, u) :: s := by
  rw [pf_miss h, e]
theorem lk_m {a b : Str} {v u : V} {r : List (Str × V)} (h : ¬ a = b) (e : List.lookup a r = some u) : List.lookup a ((b, v) :: r) = some u := (lk_miss h).trans e
theorem lk_n {a b : Str} {v : V} {r : List (Str × V)} (h : ¬ a = b) (e : List.lookup a r = none) : List.lookup a ((b, v) :: r) = none := (lk_miss h).trans e
/-! ### the data of the program -/
structure Ln where
  item : Str
  ordered : Int
  cents : Int
  pack : Int
  sent : Int
  home : Int
  again : Int
  credited : Int
def lnF (l : Ln) : List (Str × V) := [("item", .str l.item), ("ordered", .int l.ordered), ("cents", .int l.cents), ("pack", .int l.pack), ("sent", .int l.sent), ("home", .int l.home), ("again", .int l.again), ("credited", .int l.credited)]
def odF (ll : Addr) (m : Int) (lm : Addr) : List (Str × V) := [("lines", .ref ll), ("money", .int m), ("marks", .ref lm)]
def bkF (e t : Addr) : List (Str × V) := [("each", .ref e), ("trail", .ref t)]
/-! ### a method that may raise, called in a try -/
def tMX (C : Addr) (m : Str) (sp : Sp) (E : L2.St → XK) (ta : TE) (t : TA) : TE := fun σ H Q => ta σ H fun x H1 => ∃ a dx fs, x = V.ref a ∧ H1 a = some (.ins C dx fs) ∧ fs.lookup m = none ∧ t σ H1 fun vs H2 => sp (x :: vs) H2 Q (E σ)
theorem pe_mX {X : Cx} {CX : CXT} {k : Nat} {f C : Addr} {fd : FuncData} {ps : List Str} {sp : Sp} {E : L2.St → XK} {m : Str} {pos apos : Pos} {e o : Expr} {es : List Expr} {ta : TE} {t : TA} {pl : Sem Bool}
    (ho : PE X o ta) (hc : Cls X.K C) (hm : Meth X.K C m f) (G : FnOk X.prog X.w X.K X.mg X.base CX k f fd ps sp) (room : Room k X.A) (bd : Binds X.K fd ps []) (pass : ∀ σ, PassesAt CX X σ (E σ)) (hargs : PA X (e :: es) t)
    (hstar : starEach (e :: es) X.env = (false, eval e X.env) :: starEach es X.env := by rfl) (hplain : (backTo pos (starEach es X.env)).any (·.1) = false := by rfl)
    (hform : eval (.Call (.Attribute o m apos) (e :: es) [] pos) X.env = (do let ov ← eval o X.env; standAt apos.atName; let (f, first) ← holding [ov] (getMethod ov m pl); callWith pos f first (backTo pos (starEach (e :: es) X.env)) (backToKw pos (keywordEach [] X.env))) := by rfl) :
    PE X (.Call (.Attribute o m apos) (e :: es) [] pos) (tMX C m sp E ta t) := by
  refine ⟨fun pins st σ H Q inv hq => ?_⟩
  refine PySem.W.methodCall_KW (pl := pl) (thn (ho.run pins st σ H _ inv hq) fun u st1 hu => ?_) hform
  obtain ⟨x, H1, inv1, rx, a, dx, fs, ex, ea, hl, q⟩ := hu
  subst ex
  obtain rfl : u = Value.ref a := rx
  refine getmeth_ok inv1 ea hc hm hl ?_
  refine PySem.W.callWith_K (first := [.ref a]) (h₀ := X.base) inv1.ok.mod.kin hm.kp (thn (hargs.run pos pins st1 σ H1 _ inv1 q) fun us st2 hv => ?_) hstar hplain
  obtain ⟨vs, H2, inv2, rv, q2⟩ := hv
  exact ⟨inv2.kIn, run_fnS (us := .ref a :: us) (vs := .ref a :: vs) G room bd (pass σ) inv2 (.cons rfl rv) q2⟩
theorem pe_mX0 {X : Cx} {CX : CXT} {k : Nat} {f C : Addr} {fd : FuncData} {ps : List Str} {sp : Sp} {E : L2.St → XK} {m : Str} {pos apos : Pos} {o : Expr} {ta : TE} {pl : Sem Bool}
    (ho : PE X o ta) (hc : Cls X.K C) (hm : Meth X.K C m f) (G : FnOk X.prog X.w X.K X.mg X.base CX k f fd ps sp) (room : Room k X.A) (bd : Binds X.K fd ps []) (pass : ∀ σ, PassesAt CX X σ (E σ))
    (hform : eval (.Call (.Attribute o m apos) [] [] pos) X.env = (do let ov ← eval o X.env; standAt apos.atName; let (f, first) ← holding [ov] (getMethod ov m pl); callWith pos f first (backTo pos (starEach [] X.env)) (backToKw pos (keywordEach [] X.env))) := by rfl) :
    PE X (.Call (.Attribute o m apos) [] [] pos) (tMX C m sp E ta tNil) := by
  refine ⟨fun pins st σ H Q inv hq => ?_⟩
  refine PySem.W.methodCall_KW (pl := pl) (thn (ho.run pins st σ H _ inv hq) fun u st1 hu => ?_) hform
  obtain ⟨x, H1, inv1, rx, a, dx, fs, ex, ea, hl, q⟩ := hu
  subst ex
  obtain rfl : u = Value.ref a := rx
  refine getmeth_ok inv1 ea hc hm hl ?_
  exact PySem.W.callWith_K0 (first := [.ref a]) inv1.kIn hm.kp (run_fnS (us := [.ref a]) (vs := [.ref a]) G room bd (pass σ) inv1 (.cons rfl .nil) q)
section
variable {σ : L2.St} {H : Hp} {Q : VK} {QB : Bool → Hp → Prop} {D : Ends} {K : PySem.W.Frag}
theorem r_mx {C : Addr} {m : Str} {sp : Sp} {E : L2.St → XK} {ta : TE} {t : TA} (h : ta σ H fun x H1 => ∃ a dx fs, x = V.ref a ∧ H1 a = some (.ins C dx fs) ∧ fs.lookup m = none ∧ t σ H1 fun vs H2 => sp (x :: vs) H2 Q (E σ)) : tMX C m sp E ta t σ H Q := h
/-! ### slices, stores, kinds -/
theorem r_sl {r : V → Option Int → Option Int → Hp → VK → Prop} {te : TE} {tl th : TO} (h : te σ H fun x H1 => tl σ H1 fun l H2 => th σ H2 fun u H3 => r x l u H3 Q) : tSl r te tl th σ H Q := h
theorem r_part {te : TE} {QO : Option Int → Hp → Prop} (h : te σ H fun x H1 => ∃ i, x = V.int i ∧ QO (some i) H1) : tPart te σ H QO := h
theorem r_nopart {QO : Option Int → Hp → Prop} (h : QO none H) : tNoPart σ H QO := h
theorem r_exi {i : Int} {P : Int → Prop} (h : P i) : ∃ j, V.int i = V.int j ∧ P j := ⟨i, rfl, h⟩
theorem r_sll {a : Addr} {xs : List V} {lo hi : Option Int} (hs : SqL K H a xs) (k : ∀ p, H p = none → Q (.ref p) (upd H p (.lst (cutV xs lo hi)))) : rSlL K (.ref a) lo hi H Q := ⟨a, xs, rfl, hs, k⟩
theorem r_asgS {te to ti : TE} (h : te σ H fun x H1 => to σ H1 fun o H2 => ti σ H2 fun i H3 => rSetL o i x H3 fun H4 => D.nx σ H4) : tAsg te (gSub to ti rSetL) D σ H := h
theorem r_setL {p : Addr} {xs : List V} {i : Int} {j : Nat} {v : V} {R : Hp → Prop} (h : H p = some (.lst xs)) (e : i = (j : Int)) (hj : j < xs.length) (q : R (upd H p (.lst (xs.set j v)))) : rSetL (.ref p) (.int i) v H R :=
  ⟨p, xs, i, j, rfl, rfl, h, by unfold ixN; rw [e, if_pos (by omega), if_pos (by omega)]; simp, q⟩
theorem r_isi {x : V} {t : Value} {n : String} {b : Bool} (ty : TyOf K H x t) (hk : PySem.W.kitOne K t (.type n) = some b) (q : Q (.bl b) H) : rIsi K [x, .ty n] H Q := ⟨x, .ty n, t, .type n, b, rfl, .ty n, .base ty, hk, q⟩
theorem r_is_int_int {i : Int} (q : Q (.bl true) H) : rIsi K [.int i, .ty "int"] H Q := r_isi (.int i) (kit_ty (by decide +kernel)) q
theorem r_is_int_bool {i : Int} (q : Q (.bl false) H) : rIsi K [.int i, .ty "bool"] H Q := r_isi (.int i) (kit_ty (by decide +kernel)) q
theorem r_is_int_str {i : Int} (q : Q (.bl false) H) : rIsi K [.int i, .ty "str"] H Q := r_isi (.int i) (kit_ty (by decide +kernel)) q
theorem r_is_str_str {i : Str} (q : Q (.bl true) H) : rIsi K [.str i, .ty "str"] H Q := r_isi (.str i) (kit_ty (by decide +kernel)) q
theorem r_is_str_int {i : Str} (q : Q (.bl false) H) : rIsi K [.str i, .ty "int"] H Q := r_isi (.str i) (kit_ty (by decide +kernel)) q
theorem r_is_str_list {i : Str} (q : Q (.bl false) H) : rIsi K [.str i, .ty "list"] H Q := r_isi (.str i) (kit_ty (by decide +kernel)) q
theorem r_is_lst_list {a : Addr} {xs : List V} (h : H a = some (.lst xs)) (q : Q (.bl true) H) : rIsi K [.ref a, .ty "list"] H Q := r_isi (.lst h) (kit_ty (by decide +kernel)) q
theorem r_is_lst_str {a : Addr} {xs : List V} (h : H a = some (.lst xs)) (q : Q (.bl false) H) : rIsi K [.ref a, .ty "str"] H Q := r_isi (.lst h) (kit_ty (by decide +kernel)) q
theorem r_is_tup_tuple {a : Addr} {xs : List V} (h : H a = some (.tup xs)) (q : Q (.bl true) H) : rIsi K [.ref a, .ty "tuple"] H Q := r_isi (.tup h) (kit_ty (by decide +kernel)) q
end
theorem cut_from {xs : List V} {k : Nat} : cutV xs (some (k : Int)) none = xs.drop k := by
  unfold cutV
  rw [HT.sIx_nat, HT.sIx_none]
  by_cases h : k ≤ xs.length
  · rw [Nat.min_eq_left h, List.take_of_length_le (by simp)]
  · rw [Nat.min_eq_right (by omega), List.drop_of_length_le (Nat.le_refl _), List.drop_of_length_le (by omega)]
    simp
/-! ### data that is compared -/
def dOf : V → PyData
  | .non => .none
  | .bl b => .bool b
  | .int i => .int i
  | .str z => .str z
  | _ => .none
/-- an int, or a text -/
def Sc (v : V) : Prop := (∃ i, v = .int i) ∨ ∃ z, v = .str z ∧ PyData.strOk z = true
theorem Sc.int {i : Int} : Sc (.int i) := .inl ⟨i, rfl⟩
theorem Sc.dp {K : PySem.W.Frag} {H : Hp} {v : V} (h : Sc v) : Dp K H v (dOf v) := by
  rcases h with ⟨i, rfl⟩ | ⟨z, rfl, _⟩
  · exact .int i
  · exact .str z
theorem Sc.lay {v : V} (h : Sc v) : PyData.canLay0 (dOf v) = true ∧ PyData.depth (dOf v) = 0 := by
  rcases h with ⟨i, rfl⟩ | ⟨z, rfl, hz⟩
  · exact ⟨by simp only [dOf, PyData.canLay0], by simp only [dOf, PyData.depth]⟩
  · exact ⟨by simp only [dOf, PyData.canLay0]; exact hz, by simp only [dOf, PyData.depth]⟩
theorem Sc.eqv {v u : V} (h : Sc v) (g : Sc u) : PyData.eqv (dOf v) (dOf u) = decide (v = u) := by
  rcases h with ⟨i, rfl⟩ | ⟨z, rfl, _⟩ <;> rcases g with ⟨j, rfl⟩ | ⟨y, rfl, _⟩
  · simp [dOf, PyData.eqv, Bool.beq_eq_decide_eq]
  · simp [dOf, PyData.eqv]
  · simp [dOf, PyData.eqv]
  · simp [dOf, PyData.eqv, Bool.beq_eq_decide_eq]
def Scs (vs : List V) : Prop := ∀ v, v ∈ vs → Sc v
theorem Scs.nil : Scs [] := fun _ h => by cases h
theorem Scs.cons {v : V} {vs : List V} (h : Sc v) (g : Scs vs) : Scs (v :: vs) := fun u hu => by
  rcases List.mem_cons.mp hu with e | e
  · rw [e]; exact h
  · exact g u e
theorem Scs.dp {K : PySem.W.Frag} {H : Hp} : ∀ {vs : List V}, Scs vs → DpAll K H vs (vs.map dOf)
  | [], _ => .nil
  | v :: vs, h => .cons (h v List.mem_cons_self).dp (Scs.dp fun u hu => h u (List.mem_cons_of_mem _ hu))
theorem Scs.lay : ∀ {vs : List V}, Scs vs → PyData.canLayAll0 (vs.map dOf) = true ∧ PyData.depthAll (vs.map dOf) = 0
  | [], _ => ⟨by simp only [List.map_nil, PyData.canLayAll0], by simp only [List.map_nil, PyData.depthAll]⟩
  | v :: vs, h => by
    obtain ⟨a, b⟩ := (h v List.mem_cons_self).lay
    obtain ⟨c, d⟩ := Scs.lay (vs := vs) fun u hu => h u (List.mem_cons_of_mem _ hu)
    refine ⟨?_, ?_⟩
    · simp only [List.map_cons, PyData.canLayAll0, a, c, Bool.and_self]
    · simp only [List.map_cons, PyData.depthAll, b, d]; rfl
theorem Scs.eqv : ∀ {vs us : List V}, Scs vs → Scs us → PyData.eqvAll (vs.map dOf) (us.map dOf) = decide (vs = us)
  | [], [], _, _ => by simp [PyData.eqvAll]
  | [], u :: us, _, _ => by simp [PyData.eqvAll]
  | v :: vs, [], _, _ => by simp [PyData.eqvAll]
  | v :: vs, u :: us, h, g => by
    have ih := Scs.eqv (vs := vs) (us := us) (fun u hu => h u (List.mem_cons_of_mem _ hu)) fun u hu => g u (List.mem_cons_of_mem _ hu)
    simp only [List.map_cons, PyData.eqvAll, ih, (h v List.mem_cons_self).eqv (g u List.mem_cons_self)]
    simp
/-- a tuple of such -/
def dTup (r : List V) : PyData := .tuple (r.map dOf)
theorem dTup_dp {K : PySem.W.Frag} {H : Hp} {a : Addr} {r : List V} (h : SqT K H a r) (s : Scs r) : Dp K H (.ref a) (dTup r) := .tup h s.dp
theorem dTup_lay {r : List V} (s : Scs r) : PyData.canLay0 (dTup r) = true ∧ PyData.depth (dTup r) = 1 := by
  obtain ⟨a, b⟩ := s.lay
  exact ⟨by simp only [dTup, PyData.canLay0]; exact a, by simp only [dTup, PyData.depth, b]⟩
theorem dTup_shaped {r : List V} (s : Scs r) : SeqAt.shaped (dTup r) = true := by
  obtain ⟨a, b⟩ := dTup_lay s
  unfold SeqAt.shaped
  rw [a, b]
  rfl
theorem dTup_eqv {r q : List V} (s : Scs r) (t : Scs q) : PyData.eqv (dTup r) (dTup q) = decide (r = q) := by
  show PyData.eqv (.tuple _) (.tuple _) = _
  simp only [PyData.eqv]
  exact s.eqv t
/-- a list of such tuples -/
def dRows (rs : List (List V)) : PyData := .list (rs.map dTup)
def TupAt (H : Hp) (v : V) (r : List V) : Prop := ∃ t, v = .ref t ∧ H t = some (.tup r)
def Rws (rs : List (List V)) : Prop := ∀ r, r ∈ rs → Scs r
theorem dRows_all {K : PySem.W.Frag} {H : Hp} : ∀ {xs : List V} {rs : List (List V)}, Paired (TupAt H) xs rs → Rws rs → DpAll K H xs (rs.map dTup)
  | _, _, .nil, _ => .nil
  | _, _, .cons ⟨t, e, h⟩ r, s => by
    subst e
    exact .cons (dTup_dp (SqT.of h) (s _ List.mem_cons_self)) (dRows_all r fun q hq => s q (List.mem_cons_of_mem _ hq))
theorem dRows_dp {K : PySem.W.Frag} {H : Hp} {a : Addr} {xs : List V} {rs : List (List V)} (h : SqL K H a xs) (p : Paired (TupAt H) xs rs) (s : Rws rs) : Dp K H (.ref a) (dRows rs) := .lst h (dRows_all p s)
theorem dRows_lay0 : ∀ {rs : List (List V)}, Rws rs → PyData.canLayAll0 (rs.map dTup) = true ∧ PyData.depthAll (rs.map dTup) ≤ 1
  | [], _ => ⟨by simp only [List.map_nil, PyData.canLayAll0], by simp only [List.map_nil, PyData.depthAll]; omega⟩
  | r :: rs, h => by
    obtain ⟨a, b⟩ := dTup_lay (h r List.mem_cons_self)
    obtain ⟨c, d⟩ := dRows_lay0 (rs := rs) fun u hu => h u (List.mem_cons_of_mem _ hu)
    refine ⟨?_, ?_⟩
    · simp only [List.map_cons, PyData.canLayAll0, a, c, Bool.and_self]
    · simp only [List.map_cons, PyData.depthAll, b]; omega
theorem dRows_lay {rs : List (List V)} (s : Rws rs) : PyData.canLay0 (dRows rs) = true ∧ PyData.depth (dRows rs) ≤ 2 := by
  obtain ⟨a, b⟩ := dRows_lay0 s
  exact ⟨by simp only [dRows, PyData.canLay0]; exact a, by simp only [dRows, PyData.depth]; omega⟩
theorem dRows_shaped {rs : List (List V)} (s : Rws rs) : SeqAt.shaped (dRows rs) = true := by
  obtain ⟨a, b⟩ := dRows_lay s
  unfold SeqAt.shaped
  rw [a, decide_eq_true (by omega)]
  rfl
theorem dRows_eqv0 : ∀ {rs qs : List (List V)}, Rws rs → Rws qs → PyData.eqvAll (rs.map dTup) (qs.map dTup) = decide (rs = qs)
  | [], [], _, _ => by simp [PyData.eqvAll]
  | [], u :: us, _, _ => by simp [PyData.eqvAll]
  | v :: vs, [], _, _ => by simp [PyData.eqvAll]
  | v :: vs, u :: us, h, g => by
    have ih := dRows_eqv0 (rs := vs) (qs := us) (fun u hu => h u (List.mem_cons_of_mem _ hu)) fun u hu => g u (List.mem_cons_of_mem _ hu)
    simp only [List.map_cons, PyData.eqvAll, ih, dTup_eqv (h v List.mem_cons_self) (g u List.mem_cons_self)]
    simp
theorem dRows_eqv {rs qs : List (List V)} (s : Rws rs) (t : Rws qs) : PyData.eqv (dRows rs) (dRows qs) = decide (rs = qs) := by
  show PyData.eqv (.list _) (.list _) = _
  simp only [PyData.eqv]
  exact dRows_eqv0 s t
section
variable {H : Hp} {Q : VK} {K : PySem.W.Frag}
theorem r_neTT {a b : Addr} {r q : List V} (h : SqT K H a r) (g : SqT K H b q) (s : Scs r) (t : Scs q) (k : Q (.bl (!decide (r = q))) H) : rNeD K (.ref a) (.ref b) H Q :=
  ⟨_, _, dTup_dp h s, dTup_dp g t, dTup_shaped s, dTup_shaped t, by rw [dTup_eqv s t]; exact k⟩
theorem r_eqTT {a b : Addr} {r q : List V} (h : SqT K H a r) (g : SqT K H b q) (s : Scs r) (t : Scs q) (k : Q (.bl (decide (r = q))) H) : rEqD K (.ref a) (.ref b) H Q :=
  ⟨_, _, dTup_dp h s, dTup_dp g t, dTup_shaped s, dTup_shaped t, by rw [dTup_eqv s t]; exact k⟩
theorem r_neRR {a b : Addr} {xs ys : List V} {r q : List (List V)} (h : SqL K H a xs) (g : SqL K H b ys) (ph : Paired (TupAt H) xs r) (pg : Paired (TupAt H) ys q) (s : Rws r) (t : Rws q) (k : Q (.bl (!decide (r = q))) H) : rNeD K (.ref a) (.ref b) H Q :=
  ⟨_, _, dRows_dp h ph s, dRows_dp g pg t, dRows_shaped s, dRows_shaped t, by rw [dRows_eqv s t]; exact k⟩
theorem r_eqRR {a b : Addr} {xs ys : List V} {r q : List (List V)} (h : SqL K H a xs) (g : SqL K H b ys) (ph : Paired (TupAt H) xs r) (pg : Paired (TupAt H) ys q) (s : Rws r) (t : Rws q) (k : Q (.bl (decide (r = q))) H) : rEqD K (.ref a) (.ref b) H Q :=
  ⟨_, _, dRows_dp h ph s, dRows_dp g pg t, dRows_shaped s, dRows_shaped t, by rw [dRows_eqv s t]; exact k⟩
theorem sc_shaped {v : V} (s : Sc v) : SeqAt.shaped (dOf v) = true := by
  obtain ⟨a, b⟩ := s.lay
  unfold SeqAt.shaped
  rw [a, b]
  rfl
theorem r_neSS {x y : V} (s : Sc x) (t : Sc y) (k : Q (.bl (!decide (x = y))) H) : rNeD K x y H Q := ⟨_, _, s.dp, t.dp, sc_shaped s, sc_shaped t, by rw [s.eqv t]; exact k⟩
theorem r_eqSS {x y : V} (s : Sc x) (t : Sc y) (k : Q (.bl (decide (x = y))) H) : rEqD K x y H Q := ⟨_, _, s.dp, t.dp, sc_shaped s, sc_shaped t, by rw [s.eqv t]; exact k⟩
theorem r_neRS {a : Addr} {xs : List V} {r : List (List V)} {y : V} (h : SqL K H a xs) (ph : Paired (TupAt H) xs r) (s : Rws r) (t : Sc y) (k : Q (.bl true) H) : rNeD K (.ref a) y H Q :=
  ⟨_, _, dRows_dp h ph s, t.dp, dRows_shaped s, sc_shaped t, by
    have e : PyData.eqv (dRows r) (dOf y) = false := by
      rcases t with ⟨i, rfl⟩ | ⟨z, rfl, _⟩ <;> simp [dRows, dOf, PyData.eqv]
    rw [e]; exact k⟩
end
theorem lk_Line_item (l : Ln) : List.lookup ("item" : Str) (lnF l) = some (.str l.item) := by
  unfold lnF
  exact lk_hit
theorem lk_Line_ordered (l : Ln) : List.lookup ("ordered" : Str) (lnF l) = some (.int l.ordered) := by
  unfold lnF
  exact lk_m (by decide +kernel) (lk_hit)
theorem pt_Line_ordered (l : Ln) (z : Int) : putF "ordered" (.int z) (lnF l) = lnF { l with ordered := z } := by
  unfold lnF
  exact pf_m (by decide +kernel) (pf_hit)
theorem lk_Line_cents (l : Ln) : List.lookup ("cents" : Str) (lnF l) = some (.int l.cents) := by
  unfold lnF
  exact lk_m (by decide +kernel) (lk_m (by decide +kernel) (lk_hit))
theorem pt_Line_cents (l : Ln) (z : Int) : putF "cents" (.int z) (lnF l) = lnF { l with cents := z } := by
  unfold lnF
  exact pf_m (by decide +kernel) (pf_m (by decide +kernel) (pf_hit))
theorem lk_Line_pack (l : Ln) : List.lookup ("pack" : Str) (lnF l) = some (.int l.pack) := by
  unfold lnF
  exact lk_m (by decide +kernel) (lk_m (by decide +kernel) (lk_m (by decide +kernel) (lk_hit)))
theorem pt_Line_pack (l : Ln) (z : Int) : putF "pack" (.int z) (lnF l) = lnF { l with pack := z } := by
  unfold lnF
  exact pf_m (by decide +kernel) (pf_m (by decide +kernel) (pf_m (by decide +kernel) (pf_hit)))
theorem lk_Line_sent (l : Ln) : List.lookup ("sent" : Str) (lnF l) = some (.int l.sent) := by
  unfold lnF
  exact lk_m (by decide +kernel) (lk_m (by decide +kernel) (lk_m (by decide +kernel) (lk_m (by decide +kernel) (lk_hit))))
theorem pt_Line_sent (l : Ln) (z : Int) : putF "sent" (.int z) (lnF l) = lnF { l with sent := z } := by
  unfold lnF
  exact pf_m (by decide +kernel) (pf_m (by decide +kernel) (pf_m (by decide +kernel) (pf_m (by decide +kernel) (pf_hit))))
theorem lk_Line_home (l : Ln) : List.lookup ("home" : Str) (lnF l) = some (.int l.home) := by
  unfold lnF
  exact lk_m (by decide +kernel) (lk_m (by decide +kernel) (lk_m (by decide +kernel) (lk_m (by decide +kernel) (lk_m (by decide +kernel) (lk_hit)))))
theorem pt_Line_home (l : Ln) (z : Int) : putF "home" (.int z) (lnF l) = lnF { l with home := z } := by
  unfold lnF
  exact pf_m (by decide +kernel) (pf_m (by decide +kernel) (pf_m (by decide +kernel) (pf_m (by decide +kernel) (pf_m (by decide +kernel) (pf_hit)))))
theorem lk_Line_again (l : Ln) : List.lookup ("again" : Str) (lnF l) = some (.int l.again) := by
  unfold lnF
  exact lk_m (by decide +kernel) (lk_m (by decide +kernel) (lk_m (by decide +kernel) (lk_m (by decide +kernel) (lk_m (by decide +kernel) (lk_m (by decide +kernel) (lk_hit))))))
theorem pt_Line_again (l : Ln) (z : Int) : putF "again" (.int z) (lnF l) = lnF { l with again := z } := by
  unfold lnF
  exact pf_m (by decide +kernel) (pf_m (by decide +kernel) (pf_m (by decide +kernel) (pf_m (by decide +kernel) (pf_m (by decide +kernel) (pf_m (by decide +kernel) (pf_hit))))))
theorem lk_Line_credited (l : Ln) : List.lookup ("credited" : Str) (lnF l) = some (.int l.credited) := by
  unfold lnF
  exact lk_m (by decide +kernel) (lk_m (by decide +kernel) (lk_m (by decide +kernel) (lk_m (by decide +kernel) (lk_m (by decide +kernel) (lk_m (by decide +kernel) (lk_m (by decide +kernel) (lk_hit)))))))
theorem pt_Line_credited (l : Ln) (z : Int) : putF "credited" (.int z) (lnF l) = lnF { l with credited := z } := by
  unfold lnF
  exact pf_m (by decide +kernel) (pf_m (by decide +kernel) (pf_m (by decide +kernel) (pf_m (by decide +kernel) (pf_m (by decide +kernel) (pf_m (by decide +kernel) (pf_m (by decide +kernel) (pf_hit)))))))
theorem no_Line_kept (l : Ln) : List.lookup ("kept" : Str) (lnF l) = none := by
  unfold lnF
  exact lk_n (by decide +kernel) (lk_n (by decide +kernel) (lk_n (by decide +kernel) (lk_n (by decide +kernel) (lk_n (by decide +kernel) (lk_n (by decide +kernel) (lk_n (by decide +kernel) (lk_n (by decide +kernel) (rfl))))))))
theorem no_Line_to_come (l : Ln) : List.lookup ("to_come" : Str) (lnF l) = none := by
  unfold lnF
  exact lk_n (by decide +kernel) (lk_n (by decide +kernel) (lk_n (by decide +kernel) (lk_n (by decide +kernel) (lk_n (by decide +kernel) (lk_n (by decide +kernel) (lk_n (by decide +kernel) (lk_n (by decide +kernel) (rfl))))))))
theorem no_Line_kept_worth (l : Ln) : List.lookup ("kept_worth" : Str) (lnF l) = none := by
  unfold lnF
  exact lk_n (by decide +kernel) (lk_n (by decide +kernel) (lk_n (by decide +kernel) (lk_n (by decide +kernel) (lk_n (by decide +kernel) (lk_n (by decide +kernel) (lk_n (by decide +kernel) (lk_n (by decide +kernel) (rfl))))))))
theorem no_Line_charge (l : Ln) : List.lookup ("charge" : Str) (lnF l) = none := by
  unfold lnF
  exact lk_n (by decide +kernel) (lk_n (by decide +kernel) (lk_n (by decide +kernel) (lk_n (by decide +kernel) (lk_n (by decide +kernel) (lk_n (by decide +kernel) (lk_n (by decide +kernel) (lk_n (by decide +kernel) (rfl))))))))
theorem no_Line_deliver (l : Ln) : List.lookup ("deliver" : Str) (lnF l) = none := by
  unfold lnF
  exact lk_n (by decide +kernel) (lk_n (by decide +kernel) (lk_n (by decide +kernel) (lk_n (by decide +kernel) (lk_n (by decide +kernel) (lk_n (by decide +kernel) (lk_n (by decide +kernel) (lk_n (by decide +kernel) (rfl))))))))
theorem no_Line_bring (l : Ln) : List.lookup ("bring" : Str) (lnF l) = none := by
  unfold lnF
  exact lk_n (by decide +kernel) (lk_n (by decide +kernel) (lk_n (by decide +kernel) (lk_n (by decide +kernel) (lk_n (by decide +kernel) (lk_n (by decide +kernel) (lk_n (by decide +kernel) (lk_n (by decide +kernel) (rfl))))))))
theorem no_Line_reduce (l : Ln) : List.lookup ("reduce" : Str) (lnF l) = none := by
  unfold lnF
  exact lk_n (by decide +kernel) (lk_n (by decide +kernel) (lk_n (by decide +kernel) (lk_n (by decide +kernel) (lk_n (by decide +kernel) (lk_n (by decide +kernel) (lk_n (by decide +kernel) (lk_n (by decide +kernel) (rfl))))))))
theorem no_Line_numbers (l : Ln) : List.lookup ("numbers" : Str) (lnF l) = none := by
  unfold lnF
  exact lk_n (by decide +kernel) (lk_n (by decide +kernel) (lk_n (by decide +kernel) (lk_n (by decide +kernel) (lk_n (by decide +kernel) (lk_n (by decide +kernel) (lk_n (by decide +kernel) (lk_n (by decide +kernel) (rfl))))))))
theorem lk_Order_lines (ll : Addr) (m : Int) (lm : Addr) : List.lookup ("lines" : Str) (odF ll m lm) = some (.ref ll) := by
  unfold odF
  exact lk_hit
theorem pt_Order_lines (ll : Addr) (m : Int) (lm : Addr) (z : Addr) : putF "lines" (.ref z) (odF ll m lm) = odF z m lm := by
  unfold odF
  exact pf_hit
theorem lk_Order_money (ll : Addr) (m : Int) (lm : Addr) : List.lookup ("money" : Str) (odF ll m lm) = some (.int m) := by
  unfold odF
  exact lk_m (by decide +kernel) (lk_hit)
theorem pt_Order_money (ll : Addr) (m : Int) (lm : Addr) (z : Int) : putF "money" (.int z) (odF ll m lm) = odF ll z lm := by
  unfold odF
  exact pf_m (by decide +kernel) (pf_hit)
theorem lk_Order_marks (ll : Addr) (m : Int) (lm : Addr) : List.lookup ("marks" : Str) (odF ll m lm) = some (.ref lm) := by
  unfold odF
  exact lk_m (by decide +kernel) (lk_m (by decide +kernel) (lk_hit))
theorem pt_Order_marks (ll : Addr) (m : Int) (lm : Addr) (z : Addr) : putF "marks" (.ref z) (odF ll m lm) = odF ll m z := by
  unfold odF
  exact pf_m (by decide +kernel) (pf_m (by decide +kernel) (pf_hit))
theorem no_Order_owing (ll : Addr) (m : Int) (lm : Addr) : List.lookup ("owing" : Str) (odF ll m lm) = none := by
  unfold odF
  exact lk_n (by decide +kernel) (lk_n (by decide +kernel) (lk_n (by decide +kernel) (rfl)))
theorem no_Order_line_of (ll : Addr) (m : Int) (lm : Addr) : List.lookup ("line_of" : Str) (odF ll m lm) = none := by
  unfold odF
  exact lk_n (by decide +kernel) (lk_n (by decide +kernel) (lk_n (by decide +kernel) (rfl)))
theorem no_Order_need_over (ll : Addr) (m : Int) (lm : Addr) : List.lookup ("need_over" : Str) (odF ll m lm) = none := by
  unfold odF
  exact lk_n (by decide +kernel) (lk_n (by decide +kernel) (lk_n (by decide +kernel) (rfl)))
theorem no_Order_turn_line (ll : Addr) (m : Int) (lm : Addr) : List.lookup ("turn_line" : Str) (odF ll m lm) = none := by
  unfold odF
  exact lk_n (by decide +kernel) (lk_n (by decide +kernel) (lk_n (by decide +kernel) (rfl)))
theorem no_Order_take (ll : Addr) (m : Int) (lm : Addr) : List.lookup ("take" : Str) (odF ll m lm) = none := by
  unfold odF
  exact lk_n (by decide +kernel) (lk_n (by decide +kernel) (lk_n (by decide +kernel) (rfl)))
theorem no_Order_mark (ll : Addr) (m : Int) (lm : Addr) : List.lookup ("mark" : Str) (odF ll m lm) = none := by
  unfold odF
  exact lk_n (by decide +kernel) (lk_n (by decide +kernel) (lk_n (by decide +kernel) (rfl)))
theorem lk_Book_each (e t : Addr) : List.lookup ("each" : Str) (bkF e t) = some (.ref e) := by
  unfold bkF
  exact lk_hit
theorem pt_Book_each (e t : Addr) (z : Addr) : putF "each" (.ref z) (bkF e t) = bkF z t := by
  unfold bkF
  exact pf_hit
theorem lk_Book_trail (e t : Addr) : List.lookup ("trail" : Str) (bkF e t) = some (.ref t) := by
  unfold bkF
  exact lk_m (by decide +kernel) (lk_hit)
theorem pt_Book_trail (e t : Addr) (z : Addr) : putF "trail" (.ref z) (bkF e t) = bkF e z := by
  unfold bkF
  exact pf_m (by decide +kernel) (pf_hit)
theorem no_Book_order_of (e t : Addr) : List.lookup ("order_of" : Str) (bkF e t) = none := by
  unfold bkF
  exact lk_n (by decide +kernel) (lk_n (by decide +kernel) (rfl))
theorem no_Book_do (e t : Addr) : List.lookup ("do" : Str) (bkF e t) = none := by
  unfold bkF
  exact lk_n (by decide +kernel) (lk_n (by decide +kernel) (rfl))
theorem no_Book_begin (e t : Addr) : List.lookup ("begin" : Str) (bkF e t) = none := by
  unfold bkF
  exact lk_n (by decide +kernel) (lk_n (by decide +kernel) (rfl))
theorem no_Book_shift (e t : Addr) : List.lookup ("shift" : Str) (bkF e t) = none := by
  unfold bkF
  exact lk_n (by decide +kernel) (lk_n (by decide +kernel) (rfl))
theorem no_Book_one (e t : Addr) : List.lookup ("one" : Str) (bkF e t) = none := by
  unfold bkF
  exact lk_n (by decide +kernel) (lk_n (by decide +kernel) (rfl))
theorem no_Book_need_number (e t : Addr) : List.lookup ("need_number" : Str) (bkF e t) = none := by
  unfold bkF
  exact lk_n (by decide +kernel) (lk_n (by decide +kernel) (rfl))
theorem no_Book_undo (e t : Addr) : List.lookup ("undo" : Str) (bkF e t) = none := by
  unfold bkF
  exact lk_n (by decide +kernel) (lk_n (by decide +kernel) (rfl))
theorem no_Book_orders (e t : Addr) : List.lookup ("orders" : Str) (bkF e t) = none := by
  unfold bkF
  exact lk_n (by decide +kernel) (lk_n (by decide +kernel) (rfl))
theorem no_Book_told (e t : Addr) : List.lookup ("told" : Str) (bkF e t) = none := by
  unfold bkF
  exact lk_n (by decide +kernel) (lk_n (by decide +kernel) (rfl))
theorem no_Book_paid (e t : Addr) : List.lookup ("paid" : Str) (bkF e t) = none := by
  unfold bkF
  exact lk_n (by decide +kernel) (lk_n (by decide +kernel) (rfl))
theorem no_Book_owed (e t : Addr) : List.lookup ("owed" : Str) (bkF e t) = none := by
  unfold bkF
  exact lk_n (by decide +kernel) (lk_n (by decide +kernel) (rfl))
theorem no_Book_rows (e t : Addr) : List.lookup ("rows" : Str) (bkF e t) = none := by
  unfold bkF
  exact lk_n (by decide +kernel) (lk_n (by decide +kernel) (rfl))
theorem no_Book_settled (e t : Addr) : List.lookup ("settled" : Str) (bkF e t) = none := by
  unfold bkF
  exact lk_n (by decide +kernel) (lk_n (by decide +kernel) (rfl))
theorem no_Book_net (e t : Addr) : List.lookup ("net" : Str) (bkF e t) = none := by
  unfold bkF
  exact lk_n (by decide +kernel) (lk_n (by decide +kernel) (rfl))
abbrev N_Worth : List Str := ["pieces", "cents", "pack"]
abbrev P_Worth : List Str := ["pieces", "cents", "pack"]
theorem sc_Worth : FnScope N_Worth P_Worth (defScope sWorth) := ⟨rfl, rfl, rfl, by decide +kernel, rfl, by decide +kernel, by decide +kernel⟩
abbrev N_IsItem : List Str := ["item", "letter"]
abbrev P_IsItem : List Str := ["item"]
theorem sc_IsItem : FnScope N_IsItem P_IsItem (defScope sIsItem) := ⟨rfl, rfl, rfl, by decide +kernel, rfl, by decide +kernel, by decide +kernel⟩
abbrev N_CheckLine : List Str := ["told"]
abbrev P_CheckLine : List Str := ["told"]
theorem sc_CheckLine : FnScope N_CheckLine P_CheckLine (defScope sCheckLine) := ⟨rfl, rfl, rfl, by decide +kernel, rfl, by decide +kernel, by decide +kernel⟩
abbrev N_LineInit : List Str := ["self", "told"]
abbrev P_LineInit : List Str := ["self", "told"]
theorem sc_LineInit : FnScope N_LineInit P_LineInit (defScope sLineInit) := ⟨rfl, rfl, rfl, by decide +kernel, rfl, by decide +kernel, by decide +kernel⟩
abbrev N_LineKept : List Str := ["self"]
abbrev P_LineKept : List Str := ["self"]
theorem sc_LineKept : FnScope N_LineKept P_LineKept (defScope sLineKept) := ⟨rfl, rfl, rfl, by decide +kernel, rfl, by decide +kernel, by decide +kernel⟩
abbrev N_LineToCome : List Str := ["self"]
abbrev P_LineToCome : List Str := ["self"]
theorem sc_LineToCome : FnScope N_LineToCome P_LineToCome (defScope sLineToCome) := ⟨rfl, rfl, rfl, by decide +kernel, rfl, by decide +kernel, by decide +kernel⟩
abbrev N_LineKeptWorth : List Str := ["self"]
abbrev P_LineKeptWorth : List Str := ["self"]
theorem sc_LineKeptWorth : FnScope N_LineKeptWorth P_LineKeptWorth (defScope sLineKeptWorth) := ⟨rfl, rfl, rfl, by decide +kernel, rfl, by decide +kernel, by decide +kernel⟩
abbrev N_LineCharge : List Str := ["self"]
abbrev P_LineCharge : List Str := ["self"]
theorem sc_LineCharge : FnScope N_LineCharge P_LineCharge (defScope sLineCharge) := ⟨rfl, rfl, rfl, by decide +kernel, rfl, by decide +kernel, by decide +kernel⟩
abbrev N_LineDeliver : List Str := ["self", "pieces"]
abbrev P_LineDeliver : List Str := ["self", "pieces"]
theorem sc_LineDeliver : FnScope N_LineDeliver P_LineDeliver (defScope sLineDeliver) := ⟨rfl, rfl, rfl, by decide +kernel, rfl, by decide +kernel, by decide +kernel⟩
abbrev N_LineBring : List Str := ["self", "pieces", "anew"]
abbrev P_LineBring : List Str := ["self", "pieces", "anew"]
theorem sc_LineBring : FnScope N_LineBring P_LineBring (defScope sLineBring) := ⟨rfl, rfl, rfl, by decide +kernel, rfl, by decide +kernel, by decide +kernel⟩
abbrev N_LineReduce : List Str := ["self", "cents"]
abbrev P_LineReduce : List Str := ["self", "cents"]
theorem sc_LineReduce : FnScope N_LineReduce P_LineReduce (defScope sLineReduce) := ⟨rfl, rfl, rfl, by decide +kernel, rfl, by decide +kernel, by decide +kernel⟩
abbrev N_LineNumbers : List Str := ["self"]
abbrev P_LineNumbers : List Str := ["self"]
theorem sc_LineNumbers : FnScope N_LineNumbers P_LineNumbers (defScope sLineNumbers) := ⟨rfl, rfl, rfl, by decide +kernel, rfl, by decide +kernel, by decide +kernel⟩
abbrev N_OrderInit : List Str := ["self", "lines", "told"]
abbrev P_OrderInit : List Str := ["self", "lines"]
theorem sc_OrderInit : FnScope N_OrderInit P_OrderInit (defScope sOrderInit) := ⟨rfl, rfl, rfl, by decide +kernel, rfl, by decide +kernel, by decide +kernel⟩
abbrev N_OrderOwing : List Str := ["self", "line"]
abbrev P_OrderOwing : List Str := ["self"]
theorem sc_OrderOwing : FnScope N_OrderOwing P_OrderOwing (defScope sOrderOwing) := ⟨rfl, rfl, rfl, by decide +kernel, rfl, by decide +kernel, by decide +kernel⟩
abbrev N_OrderLineOf : List Str := ["self", "place"]
abbrev P_OrderLineOf : List Str := ["self", "place"]
theorem sc_OrderLineOf : FnScope N_OrderLineOf P_OrderLineOf (defScope sOrderLineOf) := ⟨rfl, rfl, rfl, by decide +kernel, rfl, by decide +kernel, by decide +kernel⟩
abbrev N_OrderNeedOver : List Str := ["self", "cents"]
abbrev P_OrderNeedOver : List Str := ["self", "cents"]
theorem sc_OrderNeedOver : FnScope N_OrderNeedOver P_OrderNeedOver (defScope sOrderNeedOver) := ⟨rfl, rfl, rfl, by decide +kernel, rfl, by decide +kernel, by decide +kernel⟩
abbrev N_OrderTurnLine : List Str := ["self", "word", "place", "number", "line"]
abbrev P_OrderTurnLine : List Str := ["self", "word", "place", "number"]
theorem sc_OrderTurnLine : FnScope N_OrderTurnLine P_OrderTurnLine (defScope sOrderTurnLine) := ⟨rfl, rfl, rfl, by decide +kernel, rfl, by decide +kernel, by decide +kernel⟩
abbrev N_OrderTake : List Str := ["self", "cents"]
abbrev P_OrderTake : List Str := ["self", "cents"]
theorem sc_OrderTake : FnScope N_OrderTake P_OrderTake (defScope sOrderTake) := ⟨rfl, rfl, rfl, by decide +kernel, rfl, by decide +kernel, by decide +kernel⟩
abbrev N_OrderMark : List Str := ["self", "word", "ahead", "change"]
abbrev P_OrderMark : List Str := ["self", "word", "ahead"]
theorem sc_OrderMark : FnScope N_OrderMark P_OrderMark (defScope sOrderMark) := ⟨rfl, rfl, rfl, by decide +kernel, rfl, by decide +kernel, by decide +kernel⟩
abbrev N_Own : List Str := ["deed", "line"]
abbrev P_Own : List Str := ["deed"]
theorem sc_Own : FnScope N_Own P_Own (defScope sOwn) := ⟨rfl, rfl, rfl, by decide +kernel, rfl, by decide +kernel, by decide +kernel⟩
abbrev N_BookInit : List Str := ["self"]
abbrev P_BookInit : List Str := ["self"]
theorem sc_BookInit : FnScope N_BookInit P_BookInit (defScope sBookInit) := ⟨rfl, rfl, rfl, by decide +kernel, rfl, by decide +kernel, by decide +kernel⟩
abbrev N_BookOrderOf : List Str := ["self", "number"]
abbrev P_BookOrderOf : List Str := ["self", "number"]
theorem sc_BookOrderOf : FnScope N_BookOrderOf P_BookOrderOf (defScope sBookOrderOf) := ⟨rfl, rfl, rfl, by decide +kernel, rfl, by decide +kernel, by decide +kernel⟩
abbrev N_BookDo : List Str := ["self", "deed", "changes"]
abbrev P_BookDo : List Str := ["self", "deed"]
theorem sc_BookDo : FnScope N_BookDo P_BookDo (defScope sBookDo) := ⟨rfl, rfl, rfl, by decide +kernel, rfl, by decide +kernel, by decide +kernel⟩
abbrev N_BookBegin : List Str := ["self", "lines", "told"]
abbrev P_BookBegin : List Str := ["self", "lines"]
theorem sc_BookBegin : FnScope N_BookBegin P_BookBegin (defScope sBookBegin) := ⟨rfl, rfl, rfl, by decide +kernel, rfl, by decide +kernel, by decide +kernel⟩
abbrev N_BookShift : List Str := ["self", "deed", "first", "other", "ahead"]
abbrev P_BookShift : List Str := ["self", "deed"]
theorem sc_BookShift : FnScope N_BookShift P_BookShift (defScope sBookShift) := ⟨rfl, rfl, rfl, by decide +kernel, rfl, by decide +kernel, by decide +kernel⟩
abbrev N_BookOne : List Str := ["self", "deed", "order", "number", "ahead"]
abbrev P_BookOne : List Str := ["self", "deed"]
theorem sc_BookOne : FnScope N_BookOne P_BookOne (defScope sBookOne) := ⟨rfl, rfl, rfl, by decide +kernel, rfl, by decide +kernel, by decide +kernel⟩
abbrev N_BookNeedNumber : List Str := ["self", "number"]
abbrev P_BookNeedNumber : List Str := ["self", "number"]
theorem sc_BookNeedNumber : FnScope N_BookNeedNumber P_BookNeedNumber (defScope sBookNeedNumber) := ⟨rfl, rfl, rfl, by decide +kernel, rfl, by decide +kernel, by decide +kernel⟩
abbrev N_BookOrders : List Str := ["self"]
abbrev P_BookOrders : List Str := ["self"]
theorem sc_BookOrders : FnScope N_BookOrders P_BookOrders (defScope sBookOrders) := ⟨rfl, rfl, rfl, by decide +kernel, rfl, by decide +kernel, by decide +kernel⟩
abbrev N_BookTold : List Str := ["self", "order", "line"]
abbrev P_BookTold : List Str := ["self", "order"]
theorem sc_BookTold : FnScope N_BookTold P_BookTold (defScope sBookTold) := ⟨rfl, rfl, rfl, by decide +kernel, rfl, by decide +kernel, by decide +kernel⟩
abbrev N_BookPaid : List Str := ["self", "order"]
abbrev P_BookPaid : List Str := ["self", "order"]
theorem sc_BookPaid : FnScope N_BookPaid P_BookPaid (defScope sBookPaid) := ⟨rfl, rfl, rfl, by decide +kernel, rfl, by decide +kernel, by decide +kernel⟩
abbrev N_BookOwed : List Str := ["self", "order"]
abbrev P_BookOwed : List Str := ["self", "order"]
theorem sc_BookOwed : FnScope N_BookOwed P_BookOwed (defScope sBookOwed) := ⟨rfl, rfl, rfl, by decide +kernel, rfl, by decide +kernel, by decide +kernel⟩
abbrev N_LCellAt : List Str := ["_law_script", "_law_k"]
abbrev P_LCellAt : List Str := ["_law_script", "_law_k"]
theorem sc_LCellAt : FnScope N_LCellAt P_LCellAt (defScope sLCellAt) := ⟨rfl, rfl, rfl, by decide +kernel, rfl, by decide +kernel, by decide +kernel⟩
abbrev N_LWhole : List Str := ["_law_found"]
abbrev P_LWhole : List Str := ["_law_found"]
theorem sc_LWhole : FnScope N_LWhole P_LWhole (defScope sLWhole) := ⟨rfl, rfl, rfl, by decide +kernel, rfl, by decide +kernel, by decide +kernel⟩
abbrev N_LNumberBy : List Str := ["_law_cell", "_law_most", "_law_way"]
abbrev P_LNumberBy : List Str := ["_law_cell", "_law_most"]
theorem sc_LNumberBy : FnScope N_LNumberBy P_LNumberBy (defScope sLNumberBy) := ⟨rfl, rfl, rfl, by decide +kernel, rfl, by decide +kernel, by decide +kernel⟩
abbrev N_LTried : List Str := ["_law_book", "_law_deed"]
abbrev P_LTried : List Str := ["_law_book", "_law_deed"]
theorem sc_LTried : FnScope N_LTried P_LTried (defScope sLTried) := ⟨rfl, rfl, rfl, by decide +kernel, rfl, by decide +kernel, by decide +kernel⟩
abbrev N_LChanges : List Str := ["_law_word", "_law_at", "_law_number"]
abbrev P_LChanges : List Str := ["_law_word", "_law_at", "_law_number"]
theorem sc_LChanges : FnScope N_LChanges P_LChanges (defScope sLChanges) := ⟨rfl, rfl, rfl, by decide +kernel, rfl, by decide +kernel, by decide +kernel⟩
abbrev N_LPairsAlike : List Str := ["_law_found", "_law_due", "_law_pair"]
abbrev P_LPairsAlike : List Str := ["_law_found", "_law_due"]
theorem sc_LPairsAlike : FnScope N_LPairsAlike P_LPairsAlike (defScope sLPairsAlike) := ⟨rfl, rfl, rfl, by decide +kernel, rfl, by decide +kernel, by decide +kernel⟩
abbrev N_LStands : List Str := ["_law_book", "_law_charges", "_law_sums", "_law_at"]
abbrev P_LStands : List Str := ["_law_book", "_law_charges", "_law_sums"]
theorem sc_LStands : FnScope N_LStands P_LStands (defScope sLStands) := ⟨rfl, rfl, rfl, by decide +kernel, rfl, by decide +kernel, by decide +kernel⟩
abbrev N_LBegun : List Str := ["_law_charges", "_law_book", "_law_at"]
abbrev P_LBegun : List Str := ["_law_charges"]
theorem sc_LBegun : FnScope N_LBegun P_LBegun (defScope sLBegun) := ⟨rfl, rfl, rfl, by decide +kernel, rfl, by decide +kernel, by decide +kernel⟩
abbrev N_Law : List Str := ["_law_script", "_law_charges", "_law_book", "_law_sums", "_law_k", "_law_word", "_law_at", "_law_over", "_law_most", "_law_number", "_law_deed", "_law_found", "_law_changes_here", "_law_change"]
abbrev P_Law : List Str := ["_law_script"]
theorem sc_Law : FnScope N_Law P_Law (defScope sLaw) := ⟨rfl, rfl, rfl, by decide +kernel, rfl, by decide +kernel, by decide +kernel⟩
theorem Tx.b_Worth {w : World} {K : PySem.W.Frag} {mg : Str → Option Value} (T : Tx w K mg) : Binds K (fdO K dWorth.at_) P_Worth [] := T.f_Worth.bindsN fun _ _ _ _ _ _ us hl => match us, hl with | [_, _, _], _ => rfl
theorem Tx.b_IsItem {w : World} {K : PySem.W.Frag} {mg : Str → Option Value} (T : Tx w K mg) : Binds K (fdO K dIsItem.at_) P_IsItem [] := T.f_IsItem.bindsN fun _ _ _ _ _ _ us hl => match us, hl with | [_], _ => rfl
theorem Tx.b_CheckLine {w : World} {K : PySem.W.Frag} {mg : Str → Option Value} (T : Tx w K mg) : Binds K (fdO K dCheckLine.at_) P_CheckLine [] := T.f_CheckLine.bindsN fun _ _ _ _ _ _ us hl => match us, hl with | [_], _ => rfl
theorem Tx.b_LineInit {w : World} {K : PySem.W.Frag} {mg : Str → Option Value} (T : Tx w K mg) : Binds K (fdO K dLineInit.at_) P_LineInit [] := T.f_LineInit.bindsN fun _ _ _ _ _ _ us hl => match us, hl with | [_, _], _ => rfl
theorem Tx.b_LineKept {w : World} {K : PySem.W.Frag} {mg : Str → Option Value} (T : Tx w K mg) : Binds K (fdO K dLineKept.at_) P_LineKept [] := T.f_LineKept.bindsN fun _ _ _ _ _ _ us hl => match us, hl with | [_], _ => rfl
theorem Tx.b_LineToCome {w : World} {K : PySem.W.Frag} {mg : Str → Option Value} (T : Tx w K mg) : Binds K (fdO K dLineToCome.at_) P_LineToCome [] := T.f_LineToCome.bindsN fun _ _ _ _ _ _ us hl => match us, hl with | [_], _ => rfl
theorem Tx.b_LineKeptWorth {w : World} {K : PySem.W.Frag} {mg : Str → Option Value} (T : Tx w K mg) : Binds K (fdO K dLineKeptWorth.at_) P_LineKeptWorth [] := T.f_LineKeptWorth.bindsN fun _ _ _ _ _ _ us hl => match us, hl with | [_], _ => rfl
theorem Tx.b_LineCharge {w : World} {K : PySem.W.Frag} {mg : Str → Option Value} (T : Tx w K mg) : Binds K (fdO K dLineCharge.at_) P_LineCharge [] := T.f_LineCharge.bindsN fun _ _ _ _ _ _ us hl => match us, hl with | [_], _ => rfl
theorem Tx.b_LineDeliver {w : World} {K : PySem.W.Frag} {mg : Str → Option Value} (T : Tx w K mg) : Binds K (fdO K dLineDeliver.at_) P_LineDeliver [] := T.f_LineDeliver.bindsN fun _ _ _ _ _ _ us hl => match us, hl with | [_, _], _ => rfl
theorem Tx.b_LineBring {w : World} {K : PySem.W.Frag} {mg : Str → Option Value} (T : Tx w K mg) : Binds K (fdO K dLineBring.at_) P_LineBring [] := T.f_LineBring.bindsN fun _ _ _ _ _ _ us hl => match us, hl with | [_, _, _], _ => rfl
theorem Tx.b_LineReduce {w : World} {K : PySem.W.Frag} {mg : Str → Option Value} (T : Tx w K mg) : Binds K (fdO K dLineReduce.at_) P_LineReduce [] := T.f_LineReduce.bindsN fun _ _ _ _ _ _ us hl => match us, hl with | [_, _], _ => rfl
theorem Tx.b_LineNumbers {w : World} {K : PySem.W.Frag} {mg : Str → Option Value} (T : Tx w K mg) : Binds K (fdO K dLineNumbers.at_) P_LineNumbers [] := T.f_LineNumbers.bindsN fun _ _ _ _ _ _ us hl => match us, hl with | [_], _ => rfl
theorem Tx.b_OrderInit {w : World} {K : PySem.W.Frag} {mg : Str → Option Value} (T : Tx w K mg) : Binds K (fdO K dOrderInit.at_) P_OrderInit [] := T.f_OrderInit.bindsN fun _ _ _ _ _ _ us hl => match us, hl with | [_, _], _ => rfl
theorem Tx.b_OrderOwing {w : World} {K : PySem.W.Frag} {mg : Str → Option Value} (T : Tx w K mg) : Binds K (fdO K dOrderOwing.at_) P_OrderOwing [] := T.f_OrderOwing.bindsN fun _ _ _ _ _ _ us hl => match us, hl with | [_], _ => rfl
theorem Tx.b_OrderLineOf {w : World} {K : PySem.W.Frag} {mg : Str → Option Value} (T : Tx w K mg) : Binds K (fdO K dOrderLineOf.at_) P_OrderLineOf [] := T.f_OrderLineOf.bindsN fun _ _ _ _ _ _ us hl => match us, hl with | [_, _], _ => rfl
theorem Tx.b_OrderNeedOver {w : World} {K : PySem.W.Frag} {mg : Str → Option Value} (T : Tx w K mg) : Binds K (fdO K dOrderNeedOver.at_) P_OrderNeedOver [] := T.f_OrderNeedOver.bindsN fun _ _ _ _ _ _ us hl => match us, hl with | [_, _], _ => rfl
theorem Tx.b_OrderTurnLine {w : World} {K : PySem.W.Frag} {mg : Str → Option Value} (T : Tx w K mg) : Binds K (fdO K dOrderTurnLine.at_) P_OrderTurnLine [] := T.f_OrderTurnLine.bindsN fun _ _ _ _ _ _ us hl => match us, hl with | [_, _, _, _], _ => rfl
theorem Tx.b_OrderTake {w : World} {K : PySem.W.Frag} {mg : Str → Option Value} (T : Tx w K mg) : Binds K (fdO K dOrderTake.at_) P_OrderTake [] := T.f_OrderTake.bindsN fun _ _ _ _ _ _ us hl => match us, hl with | [_, _], _ => rfl
theorem Tx.b_OrderMark {w : World} {K : PySem.W.Frag} {mg : Str → Option Value} (T : Tx w K mg) : Binds K (fdO K dOrderMark.at_) P_OrderMark [] := T.f_OrderMark.bindsN fun _ _ _ _ _ _ us hl => match us, hl with | [_, _, _], _ => rfl
theorem Tx.b_Own {w : World} {K : PySem.W.Frag} {mg : Str → Option Value} (T : Tx w K mg) : Binds K (fdO K dOwn.at_) P_Own [] := T.f_Own.bindsN fun _ _ _ _ _ _ us hl => match us, hl with | [_], _ => rfl
theorem Tx.b_BookInit {w : World} {K : PySem.W.Frag} {mg : Str → Option Value} (T : Tx w K mg) : Binds K (fdO K dBookInit.at_) P_BookInit [] := T.f_BookInit.bindsN fun _ _ _ _ _ _ us hl => match us, hl with | [_], _ => rfl
theorem Tx.b_BookOrderOf {w : World} {K : PySem.W.Frag} {mg : Str → Option Value} (T : Tx w K mg) : Binds K (fdO K dBookOrderOf.at_) P_BookOrderOf [] := T.f_BookOrderOf.bindsN fun _ _ _ _ _ _ us hl => match us, hl with | [_, _], _ => rfl
theorem Tx.b_BookDo {w : World} {K : PySem.W.Frag} {mg : Str → Option Value} (T : Tx w K mg) : Binds K (fdO K dBookDo.at_) P_BookDo [] := T.f_BookDo.bindsN fun _ _ _ _ _ _ us hl => match us, hl with | [_, _], _ => rfl
theorem Tx.b_BookBegin {w : World} {K : PySem.W.Frag} {mg : Str → Option Value} (T : Tx w K mg) : Binds K (fdO K dBookBegin.at_) P_BookBegin [] := T.f_BookBegin.bindsN fun _ _ _ _ _ _ us hl => match us, hl with | [_, _], _ => rfl
theorem Tx.b_BookShift {w : World} {K : PySem.W.Frag} {mg : Str → Option Value} (T : Tx w K mg) : Binds K (fdO K dBookShift.at_) P_BookShift [] := T.f_BookShift.bindsN fun _ _ _ _ _ _ us hl => match us, hl with | [_, _], _ => rfl
theorem Tx.b_BookOne {w : World} {K : PySem.W.Frag} {mg : Str → Option Value} (T : Tx w K mg) : Binds K (fdO K dBookOne.at_) P_BookOne [] := T.f_BookOne.bindsN fun _ _ _ _ _ _ us hl => match us, hl with | [_, _], _ => rfl
theorem Tx.b_BookNeedNumber {w : World} {K : PySem.W.Frag} {mg : Str → Option Value} (T : Tx w K mg) : Binds K (fdO K dBookNeedNumber.at_) P_BookNeedNumber [] := T.f_BookNeedNumber.bindsN fun _ _ _ _ _ _ us hl => match us, hl with | [_, _], _ => rfl
theorem Tx.b_BookOrders {w : World} {K : PySem.W.Frag} {mg : Str → Option Value} (T : Tx w K mg) : Binds K (fdO K dBookOrders.at_) P_BookOrders [] := T.f_BookOrders.bindsN fun _ _ _ _ _ _ us hl => match us, hl with | [_], _ => rfl
theorem Tx.b_BookTold {w : World} {K : PySem.W.Frag} {mg : Str → Option Value} (T : Tx w K mg) : Binds K (fdO K dBookTold.at_) P_BookTold [] := T.f_BookTold.bindsN fun _ _ _ _ _ _ us hl => match us, hl with | [_, _], _ => rfl
theorem Tx.b_BookPaid {w : World} {K : PySem.W.Frag} {mg : Str → Option Value} (T : Tx w K mg) : Binds K (fdO K dBookPaid.at_) P_BookPaid [] := T.f_BookPaid.bindsN fun _ _ _ _ _ _ us hl => match us, hl with | [_, _], _ => rfl
theorem Tx.b_BookOwed {w : World} {K : PySem.W.Frag} {mg : Str → Option Value} (T : Tx w K mg) : Binds K (fdO K dBookOwed.at_) P_BookOwed [] := T.f_BookOwed.bindsN fun _ _ _ _ _ _ us hl => match us, hl with | [_, _], _ => rfl
theorem Tx.b_LCellAt {w : World} {K : PySem.W.Frag} {mg : Str → Option Value} (T : Tx w K mg) : Binds K (fdO K dLCellAt.at_) P_LCellAt [] := T.f_LCellAt.bindsN fun _ _ _ _ _ _ us hl => match us, hl with | [_, _], _ => rfl
theorem Tx.b_LWhole {w : World} {K : PySem.W.Frag} {mg : Str → Option Value} (T : Tx w K mg) : Binds K (fdO K dLWhole.at_) P_LWhole [] := T.f_LWhole.bindsN fun _ _ _ _ _ _ us hl => match us, hl with | [_], _ => rfl
theorem Tx.b_LNumberBy {w : World} {K : PySem.W.Frag} {mg : Str → Option Value} (T : Tx w K mg) : Binds K (fdO K dLNumberBy.at_) P_LNumberBy [] := T.f_LNumberBy.bindsN fun _ _ _ _ _ _ us hl => match us, hl with | [_, _], _ => rfl
theorem Tx.b_LTried {w : World} {K : PySem.W.Frag} {mg : Str → Option Value} (T : Tx w K mg) : Binds K (fdO K dLTried.at_) P_LTried [] := T.f_LTried.bindsN fun _ _ _ _ _ _ us hl => match us, hl with | [_, _], _ => rfl
theorem Tx.b_LChanges {w : World} {K : PySem.W.Frag} {mg : Str → Option Value} (T : Tx w K mg) : Binds K (fdO K dLChanges.at_) P_LChanges [] := T.f_LChanges.bindsN fun _ _ _ _ _ _ us hl => match us, hl with | [_, _, _], _ => rfl
theorem Tx.b_LPairsAlike {w : World} {K : PySem.W.Frag} {mg : Str → Option Value} (T : Tx w K mg) : Binds K (fdO K dLPairsAlike.at_) P_LPairsAlike [] := T.f_LPairsAlike.bindsN fun _ _ _ _ _ _ us hl => match us, hl with | [_, _], _ => rfl
theorem Tx.b_LStands {w : World} {K : PySem.W.Frag} {mg : Str → Option Value} (T : Tx w K mg) : Binds K (fdO K dLStands.at_) P_LStands [] := T.f_LStands.bindsN fun _ _ _ _ _ _ us hl => match us, hl with | [_, _, _], _ => rfl
theorem Tx.b_LBegun {w : World} {K : PySem.W.Frag} {mg : Str → Option Value} (T : Tx w K mg) : Binds K (fdO K dLBegun.at_) P_LBegun [] := T.f_LBegun.bindsN fun _ _ _ _ _ _ us hl => match us, hl with | [_], _ => rfl
theorem Tx.b_Law {w : World} {K : PySem.W.Frag} {mg : Str → Option Value} (T : Tx w K mg) : Binds K (fdO K dLaw.at_) P_Law [] := T.f_Law.bindsN fun _ _ _ _ _ _ us hl => match us, hl with | [_], _ => rfl
theorem runF (w : World) : HandSHeadRun.RunEq R qv hk ob 20000 names (w.withFollow "special-get-raises" false) := by
  intro os
  kernel_rfl
theorem runT (w : World) : HandSHeadRun.RunEq R qv hk ob 20000 names (w.withFollow "special-get-raises" true) := by
  intro os
  kernel_rfl
theorem run (w : World) : HandSHeadRun.RunEq R qv hk ob 20000 names w := PySem.W.byRow2 "special-get-raises" (P := fun w => HandSHeadRun.RunEq R qv hk ob 20000 names w) runF runT w
local macro_rules | `(tactic| walk_at "rd1") => `(tactic| with_reducible first
  | refine r_gn ?_ | refine r_seq ?_ | refine r_asg ?_ | refine r_ret ?_ | refine r_retN ?_ | refine r_drop ?_ | refine r_ifs ?_ | refine r_next ?_ | refine r_var rfl ?_ | refine r_c ?_ | refine r_op ?_ | refine r_un ?_
  | refine r_U ?_ | refine r_I0 ?_ | refine r_eqI ?_ | refine r_neI ?_ | refine r_eqS ?_ | refine r_neS ?_ | refine r_test ?_ | refine r_tB ?_ | refine r_exb ?_ | refine r_and ?_ | refine r_or ?_ | refine r_not ?_
  | refine r_andV ?_ | refine r_orV ?_ | refine r_notV ?_ | refine r_ifE ?_ | refine r_nil ?_ | refine r_cons ?_ | refine r_cb ?_ | refine r_tup ?_ | refine r_lst ?_ | refine r_call ?_ | refine r_callS ?_ | refine r_meth ?_ | refine r_fld ?_ | refine r_sfld ?_
  | refine r_lcl ?_ | refine r_lct ?_ | refine r_lcr ?_ | refine r_forl ?_ | refine r_fort ?_ | refine r_fors ?_ | refine r_forr ?_ | refine r_forr2 ?_
  | refine r_mx ?_ | refine r_sl ?_ | refine r_part ?_ | refine r_nopart ?_ | refine r_exi ?_ | refine r_asgS ?_ | refine r_is_int_int ?_ | refine r_is_int_bool ?_ | refine r_is_int_str ?_ | refine r_is_str_str ?_ | refine r_is_str_int ?_ | refine r_is_str_list ?_
  | refine r_make ?_ | refine r_bm ?_ | refine r_chain ?_ | refine r_itT ?_ | refine r_itF ?_ | refine r_itnT ?_ | refine r_itnF ?_)
local macro_rules | `(tactic| walk_at "rs1") => `(tactic| with_reducible first
  | refine r_gn ?_ | refine r_asg ?_ | refine r_ret ?_ | refine r_retN ?_ | refine r_drop ?_ | refine r_ifs ?_ | refine r_next ?_ | refine r_var rfl ?_ | refine r_c ?_ | refine r_op ?_ | refine r_un ?_
  | refine r_U ?_ | refine r_I0 ?_ | refine r_eqI ?_ | refine r_neI ?_ | refine r_eqS ?_ | refine r_neS ?_ | refine r_test ?_ | refine r_tB ?_ | refine r_exb ?_ | refine r_and ?_ | refine r_or ?_ | refine r_not ?_
  | refine r_andV ?_ | refine r_orV ?_ | refine r_notV ?_ | refine r_ifE ?_ | refine r_nil ?_ | refine r_cons ?_ | refine r_cb ?_ | refine r_tup ?_ | refine r_lst ?_ | refine r_call ?_ | refine r_callS ?_ | refine r_meth ?_ | refine r_fld ?_ | refine r_sfld ?_
  | refine r_lcl ?_ | refine r_lct ?_ | refine r_lcr ?_ | refine r_forl ?_ | refine r_fort ?_ | refine r_fors ?_ | refine r_forr ?_ | refine r_forr2 ?_
  | refine r_mx ?_ | refine r_sl ?_ | refine r_part ?_ | refine r_nopart ?_ | refine r_exi ?_ | refine r_asgS ?_ | refine r_is_int_int ?_ | refine r_is_int_bool ?_ | refine r_is_int_str ?_ | refine r_is_str_str ?_ | refine r_is_str_int ?_ | refine r_is_str_list ?_
  | refine r_make ?_ | refine r_bm ?_ | refine r_chain ?_ | refine r_itT ?_ | refine r_itF ?_ | refine r_itnT ?_ | refine r_itnF ?_)
local macro_rules | `(tactic| walk_at "rs") => `(tactic| repeat walk_at "rs1")
local macro_rules | `(tactic| walk_at "rd") => `(tactic| repeat walk_at "rd1")
local macro_rules | `(tactic| walk_at "pf") => `(tactic| repeat first | exact pf_nil | exact pf_hit | (apply pf_m; decide +kernel))
local macro_rules | `(tactic| walk_at "pos") => `(tactic| (first | (show (0 : Int) < _; decide) | exact ⟨by decide, by decide⟩ | omega))
local macro_rules | `(tactic| walk_at "md") => `(tactic| refine r_I (by walk_at "pos") ?_)
local macro_rules | `(tactic| walk_at "cell") => `(tactic| refine ⟨_, _, rfl, by assumption, by decide, fun _ => ?_⟩)
/-! ### prices and items -/
def spWorth (_ : PySem.W.Frag) : Sp := fun vs H Q _ => ∃ n c p : Int, vs = [.int n, .int c, .int p] ∧ (-(2 ^ 64) < c ∧ c < 2 ^ 64) ∧ (0 < p ∧ p < 1073741824) ∧ Q (.int (n * c / p)) H
theorem len_Worth {K : PySem.W.Frag} {vs : List V} {H : Hp} {Q : VK} {E : XK} (h : spWorth K vs H Q E) : vs.length = 3 := by
  obtain ⟨_, _, _, rfl, _⟩ := h; rfl
theorem ok_Worth {P : Program} {w : World} {K : PySem.W.Frag} {mg : Str → Option Value} {base : Heap} (T : Tx w K mg) : FnOk P w K mg base CX0 1 (He.fAd K dWorth.at_) (fdO K dWorth.at_) P_Worth (spWorth K) := by
  refine T.f_Worth.ok sc_Worth (fun vs H Q E h => len_Worth h) (fun cdv A outer s H vs Q E hr h => ⟨_, PSs.nox ((pss_one (ps_ret (pe_op op_fdiv (pe_op op_mul (pv 0) (pv 1)) (pv 2))))), ?_⟩)
  obtain ⟨n, c, p, rfl, hc, hp, q⟩ := h
  walk_at "rd"
  refine r_I (.inr hc) ?_
  walk_at "rd"
  exact r_I hp q
/-! ### a line -/
def LnAt (K : PySem.W.Frag) (H : Hp) (a : Addr) (l : Ln) : Prop := ∃ dx, H a = some (.ins (He.ga K "Line") dx (lnF l))
/-- the prices of a line are within their bounds -/
def Ln.ok (l : Ln) : Prop := (0 ≤ l.cents ∧ l.cents ≤ 1000000000) ∧ (1 ≤ l.pack ∧ l.pack ≤ 1000)
def Ln.kept (l : Ln) : Int := l.sent - l.home
def Ln.toCome (l : Ln) : Int := l.ordered - l.sent + l.again
def Ln.worth (l : Ln) : Int := l.kept * l.cents / l.pack
def Ln.charge (l : Ln) : Int := l.worth - l.credited
def spLn (K : PySem.W.Frag) (g : Ln → Int) : Sp := fun vs H Q _ => ∃ (a : Addr) (l : Ln), vs = [.ref a] ∧ LnAt K H a l ∧ l.ok ∧ Q (.int (g l)) H
theorem len_ln {K : PySem.W.Frag} {g : Ln → Int} {vs : List V} {H : Hp} {Q : VK} {E : XK} (h : spLn K g vs H Q E) : vs.length = 1 := by
  obtain ⟨_, _, rfl, _⟩ := h; rfl
abbrev spLineKept (K : PySem.W.Frag) := spLn K Ln.kept
abbrev spLineToCome (K : PySem.W.Frag) := spLn K Ln.toCome
abbrev spLineKeptWorth (K : PySem.W.Frag) := spLn K Ln.worth
abbrev spLineCharge (K : PySem.W.Frag) := spLn K Ln.charge
abbrev len_LineKept {K : PySem.W.Frag} {vs : List V} {H : Hp} {Q : VK} {E : XK} (h : spLineKept K vs H Q E) := len_ln h
abbrev len_LineToCome {K : PySem.W.Frag} {vs : List V} {H : Hp} {Q : VK} {E : XK} (h : spLineToCome K vs H Q E) := len_ln h
abbrev len_LineKeptWorth {K : PySem.W.Frag} {vs : List V} {H : Hp} {Q : VK} {E : XK} (h : spLineKeptWorth K vs H Q E) := len_ln h
abbrev len_LineCharge {K : PySem.W.Frag} {vs : List V} {H : Hp} {Q : VK} {E : XK} (h : spLineCharge K vs H Q E) := len_ln h
theorem ok_LineKept {P : Program} {w : World} {K : PySem.W.Frag} {mg : Str → Option Value} {base : Heap} (T : Tx w K mg) : FnOk P w K mg base CX0 1 (He.fAd K dLineKept.at_) (fdO K dLineKept.at_) P_LineKept (spLineKept K) := by
  refine T.f_LineKept.ok sc_LineKept (fun vs H Q E h => len_LineKept h) (fun cdv A outer s H vs Q E hr h => ⟨_, PSs.nox ((pss_one (ps_ret (pe_op op_sub (pe_fld (pv 0) rfl) (pe_fld (pv 0) rfl))))), ?_⟩)
  obtain ⟨a, l, rfl, ⟨dx, ha⟩, ho, q⟩ := h
  walk_at "rd"
  refine r_f ha T.cl_Line T.n_Line_sent (lk_Line_sent l) ?_
  walk_at "rd"
  refine r_f ha T.cl_Line T.n_Line_home (lk_Line_home l) ?_
  walk_at "rd"
  exact q
theorem ok_LineToCome {P : Program} {w : World} {K : PySem.W.Frag} {mg : Str → Option Value} {base : Heap} (T : Tx w K mg) : FnOk P w K mg base CX0 1 (He.fAd K dLineToCome.at_) (fdO K dLineToCome.at_) P_LineToCome (spLineToCome K) := by
  refine T.f_LineToCome.ok sc_LineToCome (fun vs H Q E h => len_LineToCome h) (fun cdv A outer s H vs Q E hr h => ⟨_, PSs.nox ((pss_one (ps_ret (pe_op op_add (pe_op op_sub (pe_fld (pv 0) rfl) (pe_fld (pv 0) rfl)) (pe_fld (pv 0) rfl))))), ?_⟩)
  obtain ⟨a, l, rfl, ⟨dx, ha⟩, ho, q⟩ := h
  walk_at "rd"
  refine r_f ha T.cl_Line T.n_Line_ordered (lk_Line_ordered l) ?_
  walk_at "rd"
  refine r_f ha T.cl_Line T.n_Line_sent (lk_Line_sent l) ?_
  walk_at "rd"
  refine r_f ha T.cl_Line T.n_Line_again (lk_Line_again l) ?_
  walk_at "rd"
  exact q
theorem ok_LineKeptWorth {P : Program} {w : World} {K : PySem.W.Frag} {mg : Str → Option Value} {base : Heap} (T : Tx w K mg) : FnOk P w K mg base CX0 2 (He.fAd K dLineKeptWorth.at_) (fdO K dLineKeptWorth.at_) P_LineKeptWorth (spLineKeptWorth K) := by
  refine T.f_LineKeptWorth.ok sc_LineKeptWorth (fun vs H Q E h => len_LineKeptWorth h) (fun cdv A outer s H vs Q E hr h => ⟨_, PSs.nox ((pss_one (ps_ret (pe_call (ok_Worth T) (hr.mono (by decide)) rfl T.g_Worth T.f_Worth.kp T.b_Worth .nil pass0 (pa_cons (pe_meth0 (pv 0) T.cl_Line T.m_Line_kept (ok_LineKept T) (hr.mono (by decide)) T.b_LineKept .nil pass0) (pa_cons (pe_fld (pv 0) rfl) (pa_cons (pe_fld (pv 0) rfl) pa_nil))))))), ?_⟩)
  obtain ⟨a, l, rfl, ⟨dx, ha⟩, ho, q⟩ := h
  walk_at "rd"
  refine r_m ha (no_Line_kept l) ?_
  walk_at "rd"
  refine ⟨a, l, rfl, ⟨dx, ha⟩, ho, ?_⟩
  walk_at "rd"
  refine r_f ha T.cl_Line T.n_Line_cents (lk_Line_cents l) ?_
  walk_at "rd"
  refine r_f ha T.cl_Line T.n_Line_pack (lk_Line_pack l) ?_
  walk_at "rd"
  obtain ⟨h1, h2⟩ := ho
  exact ⟨_, _, _, rfl, by omega, by omega, q⟩
theorem ok_LineCharge {P : Program} {w : World} {K : PySem.W.Frag} {mg : Str → Option Value} {base : Heap} (T : Tx w K mg) : FnOk P w K mg base CX0 3 (He.fAd K dLineCharge.at_) (fdO K dLineCharge.at_) P_LineCharge (spLineCharge K) := by
  refine T.f_LineCharge.ok sc_LineCharge (fun vs H Q E h => len_LineCharge h) (fun cdv A outer s H vs Q E hr h => ⟨_, PSs.nox ((pss_one (ps_ret (pe_op op_sub (pe_meth0 (pv 0) T.cl_Line T.m_Line_kept_worth (ok_LineKeptWorth T) (hr.mono (by decide)) T.b_LineKeptWorth .nil pass0) (pe_fld (pv 0) rfl))))), ?_⟩)
  obtain ⟨a, l, rfl, ⟨dx, ha⟩, ho, q⟩ := h
  walk_at "rd"
  refine r_m ha (no_Line_kept_worth l) ?_
  walk_at "rd"
  refine ⟨a, l, rfl, ⟨dx, ha⟩, ho, ?_⟩
  walk_at "rd"
  refine r_f ha T.cl_Line T.n_Line_credited (lk_Line_credited l) ?_
  walk_at "rd"
  exact q

/-! ### items, lines as they are told -/
abbrev letters : Str := "abcdefghijklmnopqrstuvwxyz"
def isItem (z : Str) : Bool := decide (∀ c ∈ z.cps.toList, c ∈ letters.cps.toList) && decide (1 ≤ z.length ∧ z.length ≤ 12)
def spIsItem (_ : PySem.W.Frag) : Sp := fun vs H Q _ => ∃ z : Str, vs = [.str z] ∧ z.length ≤ 100000 ∧ Q (.bl (isItem z)) H
theorem len_IsItem {K : PySem.W.Frag} {vs : List V} {H : Hp} {Q : VK} {E : XK} (h : spIsItem K vs H Q E) : vs.length = 1 := by
  obtain ⟨_, rfl, _⟩ := h; rfl
theorem isItem_no {z : Str} {i : Nat} {c : Nat} (h : z.cps[i]? = some c) (n : ¬ c ∈ letters.cps.toList) : isItem z = false := by
  have hm : c ∈ z.cps.toList := by
    have h2 : z.cps.toList[i]? = some c := by simpa using h
    exact List.mem_of_getElem? h2
  unfold isItem
  rw [decide_eq_false (fun q => n (q c hm))]
  rfl
theorem isItem_yes {z : Str} (h : ∀ j c, j < z.cps.size → z.cps[j]? = some c → c ∈ letters.cps.toList) : isItem z = decide (1 ≤ z.length ∧ z.length ≤ 12) := by
  unfold isItem
  rw [decide_eq_true (fun c hc => ?_)]
  · rfl
  · obtain ⟨j, hj⟩ := List.getElem?_of_mem hc
    have h2 : z.cps[j]? = some c := by simpa using hj
    exact h j c (Array.getElem?_eq_some_iff.mp h2).1 h2
theorem ok_IsItem {P : Program} {w : World} {K : PySem.W.Frag} {mg : Str → Option Value} {base : Heap} (T : Tx w K mg) : FnOk P w K mg base CX0 1 (He.fAd K dIsItem.at_) (fdO K dIsItem.at_) P_IsItem (spIsItem K) := by
  refine T.f_IsItem.ok sc_IsItem (fun vs H Q E h => len_IsItem h) (fun cdv A outer s H vs Q E hr h => ⟨_, PSs.nox ((pss_cons (ps_for PassesOwn.never rfl (pi_str (pv 0)) (pg_name (i := 1) sc_IsItem.nd rfl (Or.inl rfl)) (pss_one (ps_if (pt_cmpR op_notIn_sign (pv 1) (pe_gc rfl T.c_LETTERS) (by rfl)) (pss_one (ps_ret pe_bl)) pss_nil)))
      (pss_one (ps_ret (pe_chain op_le op_le pe_int (pe_callB call_len_str (by rfl) T.b_len (by decide +kernel) (pa_cons (pv 0) pa_nil)) (pe_gc rfl T.c_MOST_LETTERS)))))), ?_⟩)
  obtain ⟨z, rfl, hz, q⟩ := h
  walk_at "rd"
  refine ⟨z, rfl, for_it walk_str (fun i σ H' => ∃ v, σ = [some (.str z), v] ∧ H' = H ∧ ∀ j c, j < i → z.cps[j]? = some c → c ∈ letters.cps.toList) ⟨none, rfl, rfl, fun j c hj => absurd hj (Nat.not_lt_zero _)⟩ (fun _ _ _ _ _ => trivial) ?_ ?_⟩
  · rintro i x σ H1 H2 hi ⟨v, rfl, rfl, hp⟩ ⟨rfl, c, hc, rfl⟩
    walk_at "rd"
    refine ⟨c, _, rfl, rfl, ?_⟩
    walk_at "rd"
    refine r_itn (fun hn => ?_) (fun hy => ?_)
    · walk_at "rd"
      rw [isItem_no hc hn] at q
      exact q
    · walk_at "rd"
      refine ⟨_, rfl, rfl, fun j c' hj e => ?_⟩
      by_cases h : j = i
      · subst h
        rw [hc] at e
        rw [← Option.some.inj e]
        exact hy
      · exact hp j c' (by omega) e
  · rintro σ H1 ⟨v, rfl, rfl, hp⟩
    walk_at "rd"
    refine ⟨z, rfl, sz5 hz, ?_⟩
    rw [isItem_yes hp] at q
    walk_at "rd"
    refine r_itd (fun h1 => ?_) (fun h1 => ?_)
    · walk_at "rd"
      have e : decide (1 ≤ z.length ∧ z.length ≤ 12) = decide ((z.length : Int) ≤ 12) := by
        by_cases h2 : z.length ≤ 12
        · rw [decide_eq_true (by omega), decide_eq_true (by omega)]
        · rw [decide_eq_false (by omega), decide_eq_false (by omega)]
      rw [e] at q
      exact q
    · rw [decide_eq_false (by omega)] at q
      exact q
/-- a line as it is handed in -/
structure Lt where
  item : Str
  pieces : Int
  cents : Int
  pack : Int
def LtAt (H : Hp) (v : V) (t : Lt) : Prop := ∃ a, v = .ref a ∧ H a = some (.tup [.str t.item, .int t.pieces, .int t.cents, .int t.pack])
inductive Er where
  | noDeed | noLines | noItem | noNumber | fullBook | noOrder | sameOrder | noLine | tooMuch | nothingDone
  deriving DecidableEq
def Er.name : Er → Str
  | .noDeed => "NoDeed" | .noLines => "NoLines" | .noItem => "NoItem" | .noNumber => "NoNumber" | .fullBook => "FullBook"
  | .noOrder => "NoOrder" | .sameOrder => "SameOrder" | .noLine => "NoLine" | .tooMuch => "TooMuch" | .nothingDone => "NothingDone"
def numOk (t : Lt) : Prop := (1 ≤ t.pieces ∧ t.pieces ≤ 1000000) ∧ (0 ≤ t.cents ∧ t.cents ≤ 1000000000) ∧ (1 ≤ t.pack ∧ t.pack ≤ 1000)
instance (t : Lt) : Decidable (numOk t) := by unfold numOk; infer_instance
def ltCheck (t : Lt) : Option Er := if isItem t.item then (if numOk t then none else some .noNumber) else some .noItem
/-- what leaves: by the verdict -/
def Out (K : PySem.W.Frag) (r : Option Er) (ok : Prop) (E : Value → Prop) : Prop := match r with
  | none => ok
  | some e => E (.ref (He.ga K e.name))
def spCheckLine (K : PySem.W.Frag) : Sp := fun vs H Q E => ∃ (v : V) (t : Lt), vs = [v] ∧ LtAt H v t ∧ t.item.length ≤ 100000 ∧ Out K (ltCheck t) (Q .non H) fun c => E c none H
theorem len_CheckLine {K : PySem.W.Frag} {vs : List V} {H : Hp} {Q : VK} {E : XK} (h : spCheckLine K vs H Q E) : vs.length = 1 := by
  obtain ⟨_, _, rfl, _⟩ := h; rfl
theorem ok_CheckLine {P : Program} {w : World} {K : PySem.W.Frag} {mg : Str → Option Value} {base : Heap} (T : Tx w K mg) : FnOk P w K mg base (L2.CX P w) 2 (He.fAd K dCheckLine.at_) (fdO K dCheckLine.at_) P_CheckLine (spCheckLine K) := by
  refine T.f_CheckLine.ok sc_CheckLine (fun vs H Q E h => len_CheckLine h) (fun cdv A outer s H vs Q E hr h => ⟨_, ((pss_cons (ps_if (pt_not (pt_val (pe_call (ok_IsItem T) (hr.mono (by decide)) rfl T.g_IsItem T.f_IsItem.kp T.b_IsItem .nil pass0 (pa_cons (pe_ix ix_tup (pv 0) pe_int (fun _ _ => rfl)) pa_nil)))) (pss_one (ps_raise rfl (takes_of rfl rfl rfl rfl) (pmk_own PySem.F.excBase_ValueError T.x_NoItem.1 T.g_NoItem T.x_NoItem.2.1 (raises_own T.x_NoItem.2.2.1 T.x_NoItem.2.2.2) rfl))) pss_nil)
      (pss_cons (ps_if (pt_not (pt_chain op_le op_le pe_int (pe_ix ix_tup (pv 0) pe_int (fun _ _ => rfl)) (pe_gc rfl T.c_MOST_PIECES))) (pss_one (ps_raise rfl (takes_of rfl rfl rfl rfl) (pmk_own PySem.F.excBase_ValueError T.x_NoNumber.1 T.g_NoNumber T.x_NoNumber.2.1 (raises_own T.x_NoNumber.2.2.1 T.x_NoNumber.2.2.2) rfl))) pss_nil)
      (pss_one (ps_if (PW.pt (pw_or (pt_not (pt_chain op_le op_le pe_int (pe_ix ix_tup (pv 0) pe_int (fun _ _ => rfl)) (pe_gc rfl T.c_MOST_CENTS))) (pw_or1 (pt_not (pt_chain op_le op_le pe_int (pe_ix ix_tup (pv 0) pe_int (fun _ _ => rfl)) (pe_gc rfl T.c_MOST_PACK)))))) (pss_one (ps_raise rfl (takes_of rfl rfl rfl rfl) (pmk_own PySem.F.excBase_ValueError T.x_NoNumber.1 T.g_NoNumber T.x_NoNumber.2.1 (raises_own T.x_NoNumber.2.2.1 T.x_NoNumber.2.2.2) rfl))) pss_nil))))), ?_⟩)
  obtain ⟨v, t, rfl, ⟨a, rfl, ha⟩, hz, o⟩ := h
  walk_at "rd"
  refine r_ixT (SqT.of ha) (atI_get (j := 0) rfl rfl) ?_
  walk_at "rd"
  refine ⟨t.item, rfl, hz, ?_⟩
  walk_at "rd"
  unfold ltCheck at o
  cases hi : isItem t.item with
  | false =>
    rw [hi] at o
    walk_at "rd"
    exact o
  | true =>
    rw [hi, if_pos rfl] at o
    walk_at "rd"
    refine r_ixT (SqT.of ha) (atI_get (j := 1) rfl rfl) ?_
    walk_at "rd"
    have bad : ¬ numOk t → E (.ref (He.ga K "NoNumber")) none H := fun n => by
      rw [if_neg n] at o
      exact o
    refine r_itd (fun h1 => ?_) (fun h1 => ?_)
    · walk_at "rd"
      refine r_itn (fun h2 => ?_) (fun h2 => ?_)
      · exact bad fun z => h2 z.1.2
      walk_at "rd"
      refine r_ixT (SqT.of ha) (atI_get (j := 2) rfl rfl) ?_
      walk_at "rd"
      refine r_itd (fun h3 => ?_) (fun h3 => ?_)
      · walk_at "rd"
        refine r_itn (fun h4 => ?_) (fun h4 => ?_)
        · exact bad fun z => h4 z.2.1.2
        walk_at "rd"
        refine r_ixT (SqT.of ha) (atI_get (j := 3) rfl rfl) ?_
        walk_at "rd"
        refine r_itd (fun h5 => ?_) (fun h5 => ?_)
        · walk_at "rd"
          refine r_itn (fun h6 => ?_) (fun h6 => ?_)
          · exact bad fun z => h6 z.2.2.2
          walk_at "rd"
          rw [if_pos (show numOk t from ⟨⟨h1, h2⟩, ⟨h3, h4⟩, h5, h6⟩)] at o
          exact o
        · walk_at "rd"
          exact bad fun z => h5 z.2.2.1
      · walk_at "rd"
        exact bad fun z => h3 z.2.1.1
    · walk_at "rd"
      exact bad fun z => h1 z.1.1
/-! ### a line's deeds -/
def Lt.ln (t : Lt) : Ln := ⟨t.item, t.pieces, t.cents, t.pack, 0, 0, 0, 0⟩
def spLineInit (K : PySem.W.Frag) : Sp := fun vs H Q _ => ∃ (a dx : Addr) (v : V) (t : Lt), vs = [.ref a, v] ∧ H a = some (.ins (He.ga K "Line") dx []) ∧ LtAt H v t ∧ ∀ H', LnAt K H' a t.ln → But (· = a) H H' → Q .non H'
theorem len_LineInit {K : PySem.W.Frag} {vs : List V} {H : Hp} {Q : VK} {E : XK} (h : spLineInit K vs H Q E) : vs.length = 2 := by
  obtain ⟨_, _, _, _, rfl, _⟩ := h; rfl
theorem ok_LineInit {P : Program} {w : World} {K : PySem.W.Frag} {mg : Str → Option Value} {base : Heap} (T : Tx w K mg) : FnOk P w K mg base CX0 1 (He.fAd K dLineInit.at_) (fdO K dLineInit.at_) P_LineInit (spLineInit K) := by
  refine T.f_LineInit.ok sc_LineInit (fun vs H Q E h => len_LineInit h) (fun cdv A outer s H vs Q E hr h => ⟨_, PSs.nox ((pss_cons (ps_fld (pv 0) (pe_ix ix_tup (pv 1) pe_int (fun _ _ => rfl)) rfl)
      (pss_cons (ps_fld (pv 0) (pe_ix ix_tup (pv 1) pe_int (fun _ _ => rfl)) rfl)
      (pss_cons (ps_fld (pv 0) (pe_ix ix_tup (pv 1) pe_int (fun _ _ => rfl)) rfl)
      (pss_cons (ps_fld (pv 0) (pe_ix ix_tup (pv 1) pe_int (fun _ _ => rfl)) rfl)
      (pss_cons (ps_fld (pv 0) pe_int rfl)
      (pss_cons (ps_fld (pv 0) pe_int rfl)
      (pss_cons (ps_fld (pv 0) pe_int rfl)
      (pss_one (ps_fld (pv 0) pe_int rfl)))))))))), ?_⟩)
  obtain ⟨a, dx, v, t, rfl, ha, ⟨b, rfl, hb⟩, k⟩ := h
  have ab : b ≠ a := ne_of hb ha (by intro q; cases q)
  walk_at "rd"
  refine r_ixT (SqT.of hb) (atI_get (j := 0) rfl rfl) ?_
  walk_at "rd"
  refine r_sf ha T.cl_Line T.n_Line_item (by walk_at "pf") (by simp) ?_
  walk_at "rd"
  refine r_ixT (SqT.of (by rw [upd_ne ab]; exact hb)) (atI_get (j := 1) rfl rfl) ?_
  walk_at "rd"
  refine r_sf upd_same T.cl_Line T.n_Line_ordered (by walk_at "pf") (by simp) ?_
  rw [upd_upd]
  walk_at "rd"
  refine r_ixT (SqT.of (by rw [upd_ne ab]; exact hb)) (atI_get (j := 2) rfl rfl) ?_
  walk_at "rd"
  refine r_sf upd_same T.cl_Line T.n_Line_cents (by walk_at "pf") (by simp) ?_
  rw [upd_upd]
  walk_at "rd"
  refine r_ixT (SqT.of (by rw [upd_ne ab]; exact hb)) (atI_get (j := 3) rfl rfl) ?_
  walk_at "rd"
  refine r_sf upd_same T.cl_Line T.n_Line_pack (by walk_at "pf") (by simp) ?_
  rw [upd_upd]
  walk_at "rd"
  refine r_sf upd_same T.cl_Line T.n_Line_sent (by walk_at "pf") (by simp) ?_
  rw [upd_upd]
  walk_at "rd"
  refine r_sf upd_same T.cl_Line T.n_Line_home (by walk_at "pf") (by simp) ?_
  rw [upd_upd]
  walk_at "rd"
  refine r_sf upd_same T.cl_Line T.n_Line_again (by walk_at "pf") (by simp) ?_
  rw [upd_upd]
  walk_at "rd"
  refine r_sf upd_same T.cl_Line T.n_Line_credited (by walk_at "pf") (by simp) ?_
  rw [upd_upd]
  walk_at "rd"
  exact k _ ⟨dx, upd_same⟩ (But.ins ha rfl)
/-- a line's deed: refused, or the line behind it -/
def spLd (K : PySem.W.Frag) (g : Ln → Int → Option Ln) : Sp := fun vs H Q E => ∃ (a : Addr) (l : Ln) (n : Int), vs = [.ref a, .int n] ∧ LnAt K H a l ∧ l.ok ∧
  (g l n = none → E (.ref (He.ga K "TooMuch")) none H) ∧ ∀ l', g l n = some l' → ∀ H', LnAt K H' a l' → But (· = a) H H' → Q .non H'
theorem len_ld {K : PySem.W.Frag} {g : Ln → Int → Option Ln} {vs : List V} {H : Hp} {Q : VK} {E : XK} (h : spLd K g vs H Q E) : vs.length = 2 := by
  obtain ⟨_, _, _, rfl, _⟩ := h; rfl
def Ln.deliver (l : Ln) (n : Int) : Option Ln := if n > l.toCome then none else some { l with sent := l.sent + n }
def Ln.reduce (l : Ln) (n : Int) : Option Ln := if n > l.charge then none else some { l with credited := l.credited + n }
def Ln.cut (l : Ln) : Ln := { l with credited := if l.worth < l.credited then l.worth else l.credited }
def Ln.bring (anew : Bool) (l : Ln) (n : Int) : Option Ln := if n > l.kept then none else some (Ln.cut (if anew then { l with home := l.home + n, again := l.again + n } else { l with home := l.home + n }))
abbrev spLineDeliver (K : PySem.W.Frag) := spLd K Ln.deliver
abbrev spLineReduce (K : PySem.W.Frag) := spLd K Ln.reduce
abbrev len_LineDeliver {K : PySem.W.Frag} {vs : List V} {H : Hp} {Q : VK} {E : XK} (h : spLineDeliver K vs H Q E) := len_ld h
abbrev len_LineReduce {K : PySem.W.Frag} {vs : List V} {H : Hp} {Q : VK} {E : XK} (h : spLineReduce K vs H Q E) := len_ld h
theorem ok_LineDeliver {P : Program} {w : World} {K : PySem.W.Frag} {mg : Str → Option Value} {base : Heap} (T : Tx w K mg) : FnOk P w K mg base (L2.CX P w) 2 (He.fAd K dLineDeliver.at_) (fdO K dLineDeliver.at_) P_LineDeliver (spLineDeliver K) := by
  refine T.f_LineDeliver.ok sc_LineDeliver (fun vs H Q E h => len_LineDeliver h) (fun cdv A outer s H vs Q E hr h => ⟨_, ((pss_cons (ps_if (pt_cmpR op_gt (pv 1) (pe_meth0 (pv 0) T.cl_Line T.m_Line_to_come (ok_LineToCome T) (hr.mono (by decide)) T.b_LineToCome .nil pass0) (nomark _)) (pss_one (ps_raise rfl (takes_of rfl rfl rfl rfl) (pmk_own PySem.F.excBase_ValueError T.x_TooMuch.1 T.g_TooMuch T.x_TooMuch.2.1 (raises_own T.x_TooMuch.2.2.1 T.x_TooMuch.2.2.2) rfl))) pss_nil)
      (pss_one (ps_fld (pv 0) (pe_op op_add (pe_fld (pv 0) rfl) (pv 1)) rfl)))), ?_⟩)
  obtain ⟨a, l, n, rfl, ⟨dx, ha⟩, ho, no, k⟩ := h
  walk_at "rd"
  refine r_m ha (no_Line_to_come l) ?_
  walk_at "rd"
  refine ⟨a, l, rfl, ⟨dx, ha⟩, ho, ?_⟩
  walk_at "rd"
  unfold Ln.deliver at no k
  refine r_itd (fun c => ?_) (fun c => ?_)
  · rw [if_pos c] at no
    exact no rfl
  · rw [if_neg c] at k
    walk_at "rd"
    refine r_f ha T.cl_Line T.n_Line_sent (lk_Line_sent l) ?_
    walk_at "rd"
    refine r_sf ha T.cl_Line T.n_Line_sent (pt_Line_sent l _) (by show 8 ≤ 20; decide) ?_
    exact k _ rfl _ ⟨dx, upd_same⟩ (But.ins ha rfl)
theorem ok_LineReduce {P : Program} {w : World} {K : PySem.W.Frag} {mg : Str → Option Value} {base : Heap} (T : Tx w K mg) : FnOk P w K mg base (L2.CX P w) 4 (He.fAd K dLineReduce.at_) (fdO K dLineReduce.at_) P_LineReduce (spLineReduce K) := by
  refine T.f_LineReduce.ok sc_LineReduce (fun vs H Q E h => len_LineReduce h) (fun cdv A outer s H vs Q E hr h => ⟨_, ((pss_cons (ps_if (pt_cmpR op_gt (pv 1) (pe_meth0 (pv 0) T.cl_Line T.m_Line_charge (ok_LineCharge T) (hr.mono (by decide)) T.b_LineCharge .nil pass0) (nomark _)) (pss_one (ps_raise rfl (takes_of rfl rfl rfl rfl) (pmk_own PySem.F.excBase_ValueError T.x_TooMuch.1 T.g_TooMuch T.x_TooMuch.2.1 (raises_own T.x_TooMuch.2.2.1 T.x_TooMuch.2.2.2) rfl))) pss_nil)
      (pss_one (ps_fld (pv 0) (pe_op op_add (pe_fld (pv 0) rfl) (pv 1)) rfl)))), ?_⟩)
  obtain ⟨a, l, n, rfl, ⟨dx, ha⟩, ho, no, k⟩ := h
  walk_at "rd"
  refine r_m ha (no_Line_charge l) ?_
  walk_at "rd"
  refine ⟨a, l, rfl, ⟨dx, ha⟩, ho, ?_⟩
  walk_at "rd"
  unfold Ln.reduce at no k
  refine r_itd (fun c => ?_) (fun c => ?_)
  · rw [if_pos c] at no
    exact no rfl
  · rw [if_neg c] at k
    walk_at "rd"
    refine r_f ha T.cl_Line T.n_Line_credited (lk_Line_credited l) ?_
    walk_at "rd"
    refine r_sf ha T.cl_Line T.n_Line_credited (pt_Line_credited l _) (by show 8 ≤ 20; decide) ?_
    exact k _ rfl _ ⟨dx, upd_same⟩ (But.ins ha rfl)
def spLineBring (K : PySem.W.Frag) : Sp := fun vs H Q E => ∃ (b : Bool) (v : V) (n : V), vs = [v, n, .bl b] ∧ spLd K (Ln.bring b) [v, n] H Q E
theorem len_LineBring {K : PySem.W.Frag} {vs : List V} {H : Hp} {Q : VK} {E : XK} (h : spLineBring K vs H Q E) : vs.length = 3 := by
  obtain ⟨_, _, _, rfl, _⟩ := h; rfl
theorem ok_LineBring {P : Program} {w : World} {K : PySem.W.Frag} {mg : Str → Option Value} {base : Heap} (T : Tx w K mg) : FnOk P w K mg base (L2.CX P w) 3 (He.fAd K dLineBring.at_) (fdO K dLineBring.at_) P_LineBring (spLineBring K) := by
  refine T.f_LineBring.ok sc_LineBring (fun vs H Q E h => len_LineBring h) (fun cdv A outer s H vs Q E hr h => ⟨_, ((pss_cons (ps_if (pt_cmpR op_gt (pv 1) (pe_meth0 (pv 0) T.cl_Line T.m_Line_kept (ok_LineKept T) (hr.mono (by decide)) T.b_LineKept .nil pass0) (nomark _)) (pss_one (ps_raise rfl (takes_of rfl rfl rfl rfl) (pmk_own PySem.F.excBase_ValueError T.x_TooMuch.1 T.g_TooMuch T.x_TooMuch.2.1 (raises_own T.x_TooMuch.2.2.1 T.x_TooMuch.2.2.2) rfl))) pss_nil)
      (pss_cons (ps_fld (pv 0) (pe_op op_add (pe_fld (pv 0) rfl) (pv 1)) rfl)
      (pss_cons (ps_if (pt_val (pv 2)) (pss_one (ps_fld (pv 0) (pe_op op_add (pe_fld (pv 0) rfl) (pv 1)) rfl)) pss_nil)
      (pss_one (ps_fld (pv 0) (pe_callB (call_min2 rfl) (by rfl) T.b_min (by decide +kernel) (pa_cons (pe_fld (pv 0) rfl) (pa_cons (pe_meth0 (pv 0) T.cl_Line T.m_Line_kept_worth (ok_LineKeptWorth T) (hr.mono (by decide)) T.b_LineKeptWorth .nil pass0) pa_nil))) rfl)))))), ?_⟩)
  obtain ⟨anew, v, n, rfl, a, l, m, e, ⟨dx, ha⟩, ho, no, k⟩ := h
  cases e
  walk_at "rd"
  refine r_m ha (no_Line_kept l) ?_
  walk_at "rd"
  refine ⟨a, l, rfl, ⟨dx, ha⟩, ho, ?_⟩
  walk_at "rd"
  unfold Ln.bring at no k
  refine r_itd (fun c => ?_) (fun c => ?_)
  · rw [if_pos c] at no
    exact no rfl
  · rw [if_neg c] at k
    walk_at "rd"
    refine r_f ha T.cl_Line T.n_Line_home (lk_Line_home l) ?_
    walk_at "rd"
    refine r_sf ha T.cl_Line T.n_Line_home (pt_Line_home l _) (by show 8 ≤ 20; decide) ?_
    walk_at "rd"
    have fin : ∀ (l2 : Ln) (H2 : Hp), l2.ok → H2 a = some (.ins (He.ga K "Line") dx (lnF l2)) → But (· = a) H H2 → (∀ H', LnAt K H' a l2.cut → But (· = a) H H' → Q .non H') → sFld K (tVar 0)
        (tCB (fun xs H Q => ∃ i j, xs = [V.int i, V.int j] ∧ Q (V.int (if j < i then j else i)) H) (tCons (tFld K (tVar 0) "credited") (tCons (tMeth (He.ga K "Line") "kept_worth" (spLineKeptWorth K) [] E0 (tVar 0) tNil) tNil)))
        "credited" { nx := fun _ H' => Q .non H', rt := Q } (start N_LineBring [V.ref a, V.int m, V.bl anew]) H2 := by
      intro l2 H2 ok2 h2 b2 k2
      walk_at "rd"
      refine r_f h2 T.cl_Line T.n_Line_credited (lk_Line_credited l2) ?_
      walk_at "rd"
      refine r_m h2 (no_Line_kept_worth l2) ?_
      walk_at "rd"
      refine ⟨a, l2, rfl, ⟨dx, h2⟩, ok2, ?_⟩
      walk_at "rd"
      refine ⟨_, _, rfl, ?_⟩
      walk_at "rd"
      refine r_sf h2 T.cl_Line T.n_Line_credited (pt_Line_credited l2 _) (by show 8 ≤ 20; decide) ?_
      exact k2 _ ⟨dx, upd_same⟩ (b2.trans (But.ins h2 rfl))
    cases anew with
    | true =>
      walk_at "rd"
      refine r_f upd_same T.cl_Line T.n_Line_again (lk_Line_again _) ?_
      walk_at "rd"
      refine r_sf upd_same T.cl_Line T.n_Line_again (pt_Line_again _ _) (by show 8 ≤ 20; decide) ?_
      rw [upd_upd]
      exact fin { l with home := l.home + m, again := l.again + m } _ ho upd_same (But.ins ha rfl) (fun H' h1 h2 => k _ rfl H' h1 h2)
    | false =>
      refine r_itF (r_next ?_)
      exact fin { l with home := l.home + m } _ ho upd_same (But.ins ha rfl) (fun H' h1 h2 => k _ rfl H' h1 h2)
def lnTold (l : Ln) : List V := [.str l.item, .int l.ordered, .int l.sent, .int l.home, .int l.again, .int l.credited]
def spLineNumbers (K : PySem.W.Frag) : Sp := fun vs H Q _ => ∃ (a : Addr) (l : Ln), vs = [.ref a] ∧ LnAt K H a l ∧ ∀ p, H p = none → Q (.ref p) (upd H p (.tup (lnTold l)))
theorem len_LineNumbers {K : PySem.W.Frag} {vs : List V} {H : Hp} {Q : VK} {E : XK} (h : spLineNumbers K vs H Q E) : vs.length = 1 := by
  obtain ⟨_, _, rfl, _⟩ := h; rfl
theorem ok_LineNumbers {P : Program} {w : World} {K : PySem.W.Frag} {mg : Str → Option Value} {base : Heap} (T : Tx w K mg) : FnOk P w K mg base CX0 1 (He.fAd K dLineNumbers.at_) (fdO K dLineNumbers.at_) P_LineNumbers (spLineNumbers K) := by
  refine T.f_LineNumbers.ok sc_LineNumbers (fun vs H Q E h => len_LineNumbers h) (fun cdv A outer s H vs Q E hr h => ⟨_, PSs.nox ((pss_one (ps_ret (pe_tup (pa_cons (pe_fld (pv 0) rfl) (pa_cons (pe_fld (pv 0) rfl) (pa_cons (pe_fld (pv 0) rfl) (pa_cons (pe_fld (pv 0) rfl) (pa_cons (pe_fld (pv 0) rfl) (pa_cons (pe_fld (pv 0) rfl) pa_nil)))))))))), ?_⟩)
  obtain ⟨a, l, rfl, ⟨dx, ha⟩, k⟩ := h
  walk_at "rd"
  refine r_f ha T.cl_Line T.n_Line_item (lk_Line_item l) ?_
  walk_at "rd"
  refine r_f ha T.cl_Line T.n_Line_ordered (lk_Line_ordered l) ?_
  walk_at "rd"
  refine r_f ha T.cl_Line T.n_Line_sent (lk_Line_sent l) ?_
  walk_at "rd"
  refine r_f ha T.cl_Line T.n_Line_home (lk_Line_home l) ?_
  walk_at "rd"
  refine r_f ha T.cl_Line T.n_Line_again (lk_Line_again l) ?_
  walk_at "rd"
  refine r_f ha T.cl_Line T.n_Line_credited (lk_Line_credited l) ?_
  walk_at "rd"
  exact r_mk (by simp) k

/-! ### an order -/
structure Od where
  lines : List Ln
  money : Int
  marks : List (Str × Int)
/-- where an order lies -/
structure OL where
  o : Addr
  ll : Addr
  lm : Addr
  las : List Addr
def OL.foot (p : OL) (a : Addr) : Prop := a = p.o ∨ a = p.ll ∨ a = p.lm ∨ a ∈ p.las
def MkAt (H : Hp) (v : V) (m : Str × Int) : Prop := ∃ b, v = .ref b ∧ H b = some (.tup [.str m.1, .int m.2])
structure OdAt (K : PySem.W.Frag) (H : Hp) (p : OL) (o : Od) : Prop where
  ob : ∃ dx, H p.o = some (.ins (He.ga K "Order") dx (odF p.ll o.money p.lm))
  ll : H p.ll = some (.lst (p.las.map V.ref))
  len : p.las.length = o.lines.length
  ln : ∀ (i : Nat) a l, p.las[i]? = some a → o.lines[i]? = some l → LnAt K H a l
  nd : p.las.Nodup
  dif : p.ll ≠ p.lm
  lm : ∃ ts, H p.lm = some (.lst ts) ∧ Paired (MkAt H) ts o.marks
structure Od.ok (o : Od) : Prop where
  ln : ∀ l, l ∈ o.lines → l.ok
  few : o.lines.length ≤ 20
def Od.owing (o : Od) : Int := (o.lines.map Ln.charge).sum - o.money
theorem But.lnAt {K : PySem.W.Frag} {S : Addr → Prop} {H H' : Hp} {a : Addr} {l : Ln} (b : But S H H') (h : LnAt K H a l) (n : ¬ S a) : LnAt K H' a l := by
  obtain ⟨dx, e⟩ := h
  exact ⟨dx, b.keep _ _ e n⟩
theorem But.mks {S : Addr → Prop} {H H' : Hp} (b : But S H H') {ts : List V} {ms : List (Str × Int)} (h : Paired (MkAt H) ts ms) : Paired (MkAt H') ts ms :=
  Paired.mapP h fun _ _ ⟨c, e, q⟩ => ⟨c, e, b.tup _ _ q⟩
/-- an order that is left alone -/
theorem OdAt.keep {K : PySem.W.Frag} {S : Addr → Prop} {H H' : Hp} {p : OL} {o : Od} (h : OdAt K H p o) (b : But S H H') (n : ∀ a, p.foot a → ¬ S a) : OdAt K H' p o where
  ob := by
    obtain ⟨dx, e⟩ := h.ob
    exact ⟨dx, b.keep _ _ e (n _ (.inl rfl))⟩
  ll := b.keep _ _ h.ll (n _ (.inr (.inl rfl)))
  len := h.len
  ln := fun i a l e1 e2 => b.lnAt (h.ln i a l e1 e2) (n _ (.inr (.inr (.inr (List.mem_of_getElem? e1)))))
  nd := h.nd
  dif := h.dif
  lm := by
    obtain ⟨ts, e, q⟩ := h.lm
    exact ⟨ts, b.keep _ _ e (n _ (.inr (.inr (.inl rfl)))), b.mks q⟩
theorem OdAt.same {K : PySem.W.Frag} {H H' : Hp} {p : OL} {o : Od} (h : OdAt K H p o) (s : Same H H') : OdAt K H' p o := h.keep (But.of (S := fun _ => False) s) fun _ _ => id
theorem ref_at {as : List Addr} {i : Nat} {x : V} (h : (as.map V.ref)[i]? = some x) : ∃ a, as[i]? = some a ∧ x = V.ref a := by
  rw [List.getElem?_map] at h
  cases e : as[i]? with
  | none => rw [e] at h; cases h
  | some a =>
    rw [e] at h
    exact ⟨a, rfl, (Option.some.inj h).symm⟩
def spOrderOwing (K : PySem.W.Frag) : Sp := fun vs H Q _ => ∃ (p : OL) (o : Od), vs = [.ref p.o] ∧ OdAt K H p o ∧ o.ok ∧ ∀ H', Same H H' → Q (.int o.owing) H'
theorem len_OrderOwing {K : PySem.W.Frag} {vs : List V} {H : Hp} {Q : VK} {E : XK} (h : spOrderOwing K vs H Q E) : vs.length = 1 := by
  obtain ⟨_, _, rfl, _⟩ := h; rfl
theorem ok_OrderOwing {P : Program} {w : World} {K : PySem.W.Frag} {mg : Str → Option Value} {base : Heap} (T : Tx w K mg) : FnOk P w K mg base CX0 4 (He.fAd K dOrderOwing.at_) (fdO K dOrderOwing.at_) P_OrderOwing (spOrderOwing K) := by
  refine T.f_OrderOwing.ok sc_OrderOwing (fun vs H Q E h => len_OrderOwing h) (fun cdv A outer s H vs Q E hr h => ⟨_, PSs.nox ((pss_one (ps_ret (pe_op op_sub (pe_callB (cr_sum rfl) (by rfl) T.b_sum (by decide +kernel) (pa_cons (pe_lc (own := [("line", 1)]) (g := gName 1) (tt := tYes) rfl sc_OrderOwing.nd (pi_list (pe_fld (pv 0) rfl)) (blkOk_by (N := N_OrderOwing) (sc := defScope sOrderOwing) (by decide +kernel)) (fun _ _ _ _ _ => pg_name (i := 1) sc_OrderOwing.nd rfl (Or.inl rfl)) (fun _ _ _ _ _ => pts_nil) (fun _ _ _ _ _ => (pe_meth0 (pv 1) T.cl_Line T.m_Line_charge (ok_LineCharge T) (hr.mono (by decide)) T.b_LineCharge .nil pass0))) pa_nil)) (pe_fld (pv 0) rfl))))), ?_⟩)
  obtain ⟨p, o, rfl, O, ok, k⟩ := h
  obtain ⟨dx, ho⟩ := O.ob
  walk_at "rd"
  refine r_f ho T.cl_Order T.n_Order_lines (lk_Order_lines _ _ _) ?_
  refine lcp_list (ys := o.lines.map fun l => V.int l.charge) (SqL.of O.ll) (by simp [O.len]) (by have := ok.few; simp [O.len]; omega) ?_ ?_
  · intro i x y H' R ex ey s q
    obtain ⟨a, ea, rfl⟩ := ref_at ex
    rw [List.getElem?_map] at ey
    cases el : o.lines[i]? with
    | none => rw [el] at ey; cases ey
    | some l =>
      rw [el] at ey
      have e2 : V.int l.charge = y := Option.some.inj ey
      subst e2
      obtain ⟨dl, hl⟩ := O.ln i a l ea el
      walk_at "rd"
      refine r_m (s _ _ hl) (no_Line_charge l) ?_
      walk_at "rd"
      exact ⟨a, l, rfl, ⟨dl, s _ _ hl⟩, ok.ln l (List.mem_of_getElem? el), q _ (Same.refl _)⟩
  · intro D H' hD s e
    walk_at "rd"
    refine ⟨D, o.lines.map Ln.charge, rfl, SqL.of (by rw [e, List.map_map]; rfl), ?_⟩
    walk_at "rd"
    refine r_f (s _ _ ho) T.cl_Order T.n_Order_money (lk_Order_money _ _ _) ?_
    walk_at "rd"
    exact k _ s
def spOrderNeedOver (K : PySem.W.Frag) : Sp := fun vs H Q E => ∃ (p : OL) (o : Od) (n : Int), vs = [.ref p.o, .int n] ∧ OdAt K H p o ∧ o.ok ∧
  (n > -o.owing → ∀ H', Same H H' → E (.ref (He.ga K "TooMuch")) none H') ∧ (¬ n > -o.owing → ∀ H', Same H H' → Q .non H')
theorem len_OrderNeedOver {K : PySem.W.Frag} {vs : List V} {H : Hp} {Q : VK} {E : XK} (h : spOrderNeedOver K vs H Q E) : vs.length = 2 := by
  obtain ⟨_, _, _, rfl, _⟩ := h; rfl
theorem ok_OrderNeedOver {P : Program} {w : World} {K : PySem.W.Frag} {mg : Str → Option Value} {base : Heap} (T : Tx w K mg) : FnOk P w K mg base (L2.CX P w) 5 (He.fAd K dOrderNeedOver.at_) (fdO K dOrderNeedOver.at_) P_OrderNeedOver (spOrderNeedOver K) := by
  refine T.f_OrderNeedOver.ok sc_OrderNeedOver (fun vs H Q E h => len_OrderNeedOver h) (fun cdv A outer s H vs Q E hr h => ⟨_, ((pss_one (ps_if (pt_cmpR op_gt (pv 1) (pe_un un_neg (pe_meth0 (pv 0) T.cl_Order T.m_Order_owing (ok_OrderOwing T) (hr.mono (by decide)) T.b_OrderOwing .nil pass0)) (nomark _)) (pss_one (ps_raise rfl (takes_of rfl rfl rfl rfl) (pmk_own PySem.F.excBase_ValueError T.x_TooMuch.1 T.g_TooMuch T.x_TooMuch.2.1 (raises_own T.x_TooMuch.2.2.1 T.x_TooMuch.2.2.2) rfl))) pss_nil))), ?_⟩)
  obtain ⟨p, o, n, rfl, O, ok, k1, k2⟩ := h
  obtain ⟨dx, ho⟩ := O.ob
  walk_at "rd"
  refine r_m ho (no_Order_owing _ _ _) ?_
  walk_at "rd"
  refine ⟨p, o, rfl, O, ok, fun H' s => ?_⟩
  walk_at "rd"
  refine r_itd (fun c => k1 c _ s) (fun c => ?_)
  walk_at "rd"
  exact k2 c _ s
def spOrderLineOf (K : PySem.W.Frag) : Sp := fun vs H Q E => ∃ (p : OL) (o : Od) (n : Int), vs = [.ref p.o, .int n] ∧ OdAt K H p o ∧
  (¬ (0 ≤ n ∧ n < o.lines.length) → E (.ref (He.ga K "NoLine")) none H) ∧ (∀ (i : Nat) a, n = (i : Int) → p.las[i]? = some a → Q (.ref a) H)
theorem len_OrderLineOf {K : PySem.W.Frag} {vs : List V} {H : Hp} {Q : VK} {E : XK} (h : spOrderLineOf K vs H Q E) : vs.length = 2 := by
  obtain ⟨_, _, _, rfl, _⟩ := h; rfl
theorem ok_OrderLineOf {P : Program} {w : World} {K : PySem.W.Frag} {mg : Str → Option Value} {base : Heap} (T : Tx w K mg) : FnOk P w K mg base (L2.CX P w) 1 (He.fAd K dOrderLineOf.at_) (fdO K dOrderLineOf.at_) P_OrderLineOf (spOrderLineOf K) := by
  refine T.f_OrderLineOf.ok sc_OrderLineOf (fun vs H Q E h => len_OrderLineOf h) (fun cdv A outer s H vs Q E hr h => ⟨_, ((pss_cons (ps_if (pt_not (pt_chain op_le op_lt pe_int (pv 1) (pe_callB call_len_seq (by rfl) T.b_len (by decide +kernel) (pa_cons (pe_fld (pv 0) rfl) pa_nil)))) (pss_one (ps_raise rfl (takes_of rfl rfl rfl rfl) (pmk_own PySem.F.excBase_ValueError T.x_NoLine.1 T.g_NoLine T.x_NoLine.2.1 (raises_own T.x_NoLine.2.2.1 T.x_NoLine.2.2.2) rfl))) pss_nil)
      (pss_one (ps_ret (pe_ix ix_list (pe_fld (pv 0) rfl) (pv 1) (fun _ _ => rfl)))))), ?_⟩)
  obtain ⟨p, o, n, rfl, O, k1, k2⟩ := h
  obtain ⟨dx, ho⟩ := O.ob
  walk_at "rd"
  refine r_itd (fun c => ?_) (fun c => ?_)
  · walk_at "rd"
    refine r_f ho T.cl_Order T.n_Order_lines (lk_Order_lines _ _ _) ?_
    walk_at "rd"
    refine ⟨_, _, rfl, .inl (SqL.of O.ll), ?_⟩
    walk_at "rd"
    rw [List.length_map, O.len]
    refine r_itn (fun c2 => k1 fun z => c2 z.2) (fun c2 => ?_)
    walk_at "rd"
    refine r_f ho T.cl_Order T.n_Order_lines (lk_Order_lines _ _ _) ?_
    walk_at "rd"
    obtain ⟨i, rfl⟩ : ∃ i : Nat, n = (i : Int) := ⟨n.toNat, by omega⟩
    have hi : i < p.las.length := by rw [O.len]; omega
    refine r_ixL (SqL.of O.ll) (atI_get (j := i) rfl (by rw [List.getElem?_map, List.getElem?_eq_getElem hi]; rfl)) ?_
    exact k2 i _ rfl (List.getElem?_eq_getElem hi)
  · walk_at "rd"
    exact k1 fun z => c z.1
def spOrderTake (K : PySem.W.Frag) : Sp := fun vs H Q _ => ∃ (p : OL) (o : Od) (n : Int), vs = [.ref p.o, .int n] ∧ OdAt K H p o ∧
  ∀ H', OdAt K H' p { o with money := o.money + n } → But (· = p.o) H H' → Q .non H'
theorem len_OrderTake {K : PySem.W.Frag} {vs : List V} {H : Hp} {Q : VK} {E : XK} (h : spOrderTake K vs H Q E) : vs.length = 2 := by
  obtain ⟨_, _, _, rfl, _⟩ := h; rfl
theorem ln_ne {K : PySem.W.Frag} {H : Hp} {a b C dx : Addr} {l : Ln} {x y : Addr} {m : Int} (h : LnAt K H a l) (q : H b = some (.ins C dx (odF x m y))) : a ≠ b := by
  obtain ⟨d, e⟩ := h
  refine ne_of e q fun z => ?_
  injection z with _ _ z
  have z2 := congrArg List.length z
  revert z2
  show 8 = 3 → False
  decide
theorem ok_OrderTake {P : Program} {w : World} {K : PySem.W.Frag} {mg : Str → Option Value} {base : Heap} (T : Tx w K mg) : FnOk P w K mg base CX0 1 (He.fAd K dOrderTake.at_) (fdO K dOrderTake.at_) P_OrderTake (spOrderTake K) := by
  refine T.f_OrderTake.ok sc_OrderTake (fun vs H Q E h => len_OrderTake h) (fun cdv A outer s H vs Q E hr h => ⟨_, PSs.nox ((pss_one (ps_fld (pv 0) (pe_op op_add (pe_fld (pv 0) rfl) (pv 1)) rfl))), ?_⟩)
  obtain ⟨p, o, n, rfl, O, k⟩ := h
  obtain ⟨dx, ho⟩ := O.ob
  walk_at "rd"
  refine r_f ho T.cl_Order T.n_Order_money (lk_Order_money _ _ _) ?_
  walk_at "rd"
  refine r_sf ho T.cl_Order T.n_Order_money (pt_Order_money _ _ _ _) (by show 3 ≤ 20; decide) ?_
  have b : But (· = p.o) H (upd H p.o (.ins (He.ga K "Order") dx (odF p.ll (o.money + n) p.lm))) := But.ins ho rfl
  obtain ⟨ts, et, pt⟩ := O.lm
  refine k _ ⟨⟨dx, upd_same⟩, ?_, O.len, fun i a l e1 e2 => ?_, O.nd, O.dif, ts, ?_, b.mks pt⟩ b
  · exact b.keep _ _ O.ll (ne_of O.ll ho (by intro q; cases q))
  · exact b.lnAt (O.ln i a l e1 e2) (ln_ne (O.ln i a l e1 e2) ho)
  · exact b.keep _ _ et (ne_of et ho (by intro q; cases q))
def spOrderMark (K : PySem.W.Frag) : Sp := fun vs H Q _ => ∃ (p : OL) (o : Od) (w : Str) (n : Int), vs = [.ref p.o, .str w, .int n] ∧ OdAt K H p o ∧ o.ok ∧ o.marks.length < 100000 ∧
  ∀ H', OdAt K H' p { o with marks := o.marks ++ [(w, o.owing - n)] } → But (· = p.lm) H H' → Q (.int (o.owing - n)) H'
theorem len_OrderMark {K : PySem.W.Frag} {vs : List V} {H : Hp} {Q : VK} {E : XK} (h : spOrderMark K vs H Q E) : vs.length = 3 := by
  obtain ⟨_, _, _, _, rfl, _⟩ := h; rfl
theorem ok_OrderMark {P : Program} {w : World} {K : PySem.W.Frag} {mg : Str → Option Value} {base : Heap} (T : Tx w K mg) : FnOk P w K mg base CX0 5 (He.fAd K dOrderMark.at_) (fdO K dOrderMark.at_) P_OrderMark (spOrderMark K) := by
  refine T.f_OrderMark.ok sc_OrderMark (fun vs H Q E h => len_OrderMark h) (fun cdv A outer s H vs Q E hr h => ⟨_, PSs.nox ((pss_cons (ps_set (i := 3) sc_OrderMark.nd rfl (Or.inl rfl) (pe_op op_sub (pe_meth0 (pv 0) T.cl_Order T.m_Order_owing (ok_OrderOwing T) (hr.mono (by decide)) T.b_OrderOwing .nil pass0) (pv 2)))
      (pss_cons (ps_expr (pe_bm PySem.F.plainAttrs_list PySem.F.slot_list_append PySem.F.type_list_append mt_append (pe_fld (pv 0) rfl) (pa_cons (pe_tup (pa_cons (pv 1) (pa_cons (pv 3) pa_nil))) pa_nil)))
      (pss_one (ps_ret (pv 3)))))), ?_⟩)
  obtain ⟨p, o, w', n, rfl, O, ok, hz, k⟩ := h
  obtain ⟨dx, ho⟩ := O.ob
  walk_at "rd"
  refine r_m ho (no_Order_owing _ _ _) ?_
  walk_at "rd"
  refine ⟨p, o, rfl, O, ok, fun H1 s => ?_⟩
  walk_at "rd"
  refine r_f (s _ _ ho) T.cl_Order T.n_Order_marks (lk_Order_marks _ _ _) ?_
  obtain ⟨ts, et, pt⟩ := O.lm
  refine r_tyL (SqL.of (s _ _ et)) ?_
  walk_at "rd"
  refine r_mk (by simp) fun b hb => ?_
  walk_at "rd"
  have ne1 : p.lm ≠ b := ne_of_none (s _ _ et) hb
  have e1 : upd H1 b (.tup [V.str w', V.int (o.owing - n)]) p.lm = some (.lst ts) := by
    rw [upd_ne ne1]; exact s _ _ et
  refine r_app e1 (by rw [pt.length]; exact sz5l hz) ?_
  walk_at "rd"
  have s2 : Same H (upd H1 b (.tup [V.str w', V.int (o.owing - n)])) := s.trans (same_upd hb)
  have bt : But (· = p.lm) H (upd (upd H1 b (.tup [V.str w', V.int (o.owing - n)])) p.lm (.lst (ts ++ [.ref b]))) := (But.of s2).trans (But.lst e1 rfl)
  refine k _ ⟨⟨dx, ?_⟩, ?_, O.len, fun i a l h1 h2 => ?_, O.nd, O.dif, _, upd_same, ?_⟩ bt
  · exact bt.keep _ _ ho (ne_of ho et (by intro q; cases q))
  · exact bt.keep _ _ O.ll O.dif
  · obtain ⟨dl, hl⟩ := O.ln i a l h1 h2
    exact bt.lnAt ⟨dl, hl⟩ (ne_of hl et (by intro q; cases q))
  · refine Paired.snoc (bt.mks pt) ⟨b, rfl, ?_⟩
    rw [upd_ne (Ne.symm ne1)]
    exact upd_same

/-! ### an order's line is turned -/
theorem OdAt.line {K : PySem.W.Frag} {H H' : Hp} {p : OL} {o : Od} {i : Nat} {a : Addr} {l l' : Ln} (O : OdAt K H p o) (ea : p.las[i]? = some a) (el : o.lines[i]? = some l) (h : LnAt K H' a l') (b : But (· = a) H H') :
    OdAt K H' p { o with lines := o.lines.set i l' } := by
  obtain ⟨dx, ho⟩ := O.ob
  obtain ⟨da, ha⟩ := O.ln i a l ea el
  obtain ⟨ts, et, pt⟩ := O.lm
  refine ⟨⟨dx, b.keep _ _ ho (Ne.symm (ln_ne ⟨da, ha⟩ ho))⟩, b.keep _ _ O.ll (ne_of O.ll ha (by intro q; cases q)), by simp [O.len], fun j c m e1 e2 => ?_, O.nd, O.dif, ts, b.keep _ _ et (ne_of et ha (by intro q; cases q)), b.mks pt⟩
  by_cases hj : i = j
  · subst hj
    have hl : i < o.lines.length := (List.getElem?_eq_some_iff.mp el).1
    rw [ea] at e1
    cases e1
    rw [List.getElem?_set_self hl] at e2
    cases e2
    exact h
  · rw [List.getElem?_set_ne hj] at e2
    refine b.lnAt (O.ln j c m e1 e2) fun z => hj ?_
    subst z
    exact nd_ix O.nd ea e1
def Ln.turn (w : Str) (l : Ln) (n : Int) : Option Ln := if w = "deliver" then l.deliver n else if w = "credit" then l.reduce n else l.bring (decide (w = "swap")) n
def spOrderTurnLine (K : PySem.W.Frag) : Sp := fun vs H Q E => ∃ (p : OL) (o : Od) (w : Str) (i : Nat) (l : Ln) (n : Int), vs = [.ref p.o, .str w, .int (i : Int), .int n] ∧ OdAt K H p o ∧ o.ok ∧ o.lines[i]? = some l ∧
  (l.turn w n = none → E (.ref (He.ga K "TooMuch")) none H) ∧ ∀ l', l.turn w n = some l' → ∀ H', OdAt K H' p { o with lines := o.lines.set i l' } → But (· ∈ p.las) H H' → Q .non H'
theorem len_OrderTurnLine {K : PySem.W.Frag} {vs : List V} {H : Hp} {Q : VK} {E : XK} (h : spOrderTurnLine K vs H Q E) : vs.length = 4 := by
  obtain ⟨_, _, _, _, _, _, rfl, _⟩ := h; rfl
theorem ok_OrderTurnLine {P : Program} {w : World} {K : PySem.W.Frag} {mg : Str → Option Value} {base : Heap} (T : Tx w K mg) : FnOk P w K mg base (L2.CX P w) 5 (He.fAd K dOrderTurnLine.at_) (fdO K dOrderTurnLine.at_) P_OrderTurnLine (spOrderTurnLine K) := by
  refine T.f_OrderTurnLine.ok sc_OrderTurnLine (fun vs H Q E h => len_OrderTurnLine h) (fun cdv A outer s H vs Q E hr h => ⟨_, ((pss_cons (ps_set (i := 4) sc_OrderTurnLine.nd rfl (Or.inl rfl) (pe_meth (pv 0) T.cl_Order T.m_Order_line_of (ok_OrderLineOf T) (hr.mono (by decide)) T.b_OrderLineOf .nil (passes_call (takes_of rfl rfl rfl rfl) (fun _ _ _ _ h => h)) (pa_cons (pv 2) pa_nil)))
      (pss_one (ps_if (pt_cmpR op_eq (pv 1) pe_str (nomark _)) (pss_one (ps_expr (pe_meth (pv 4) T.cl_Line T.m_Line_deliver (ok_LineDeliver T) (hr.mono (by decide)) T.b_LineDeliver .nil (passes_call (takes_of rfl rfl rfl rfl) (fun _ _ _ _ h => h)) (pa_cons (pv 3) pa_nil)))) (pss_one (ps_if (pt_cmpR op_eq (pv 1) pe_str (nomark _)) (pss_one (ps_expr (pe_meth (pv 4) T.cl_Line T.m_Line_reduce (ok_LineReduce T) (hr.mono (by decide)) T.b_LineReduce .nil (passes_call (takes_of rfl rfl rfl rfl) (fun _ _ _ _ h => h)) (pa_cons (pv 3) pa_nil)))) (pss_one (ps_expr (pe_meth (pv 4) T.cl_Line T.m_Line_bring (ok_LineBring T) (hr.mono (by decide)) T.b_LineBring .nil (passes_call (takes_of rfl rfl rfl rfl) (fun _ _ _ _ h => h)) (pa_cons (pv 3) (pa_cons (pe_cmpR op_eq (pv 1) pe_str (nomark _)) pa_nil))))))))))), ?_⟩)
  obtain ⟨p, o, w', i, l, n, rfl, O, ok, el, k1, k2⟩ := h
  obtain ⟨dx, ho⟩ := O.ob
  walk_at "rd"
  refine r_m ho (no_Order_line_of _ _ _) ?_
  walk_at "rd"
  have hi : i < o.lines.length := (List.getElem?_eq_some_iff.mp el).1
  refine ⟨p, o, _, rfl, O, fun c => absurd ⟨by omega, by omega⟩ c, fun j a ej ea => ?_⟩
  have ej2 : i = j := by omega
  subst ej2
  have okl := ok.ln l (List.mem_of_getElem? el)
  obtain ⟨da, ha⟩ := O.ln i a l ea el
  walk_at "rd"
  unfold Ln.turn at k1 k2
  have mem : a ∈ p.las := List.mem_of_getElem? ea
  refine r_itd (fun c => ?_) (fun c => ?_)
  · rw [if_pos c] at k1 k2
    walk_at "rd"
    refine r_m ha (no_Line_deliver l) ?_
    walk_at "rd"
    refine ⟨a, l, n, rfl, ⟨da, ha⟩, okl, k1, fun l' e' H' h' b => ?_⟩
    exact k2 l' e' H' (O.line ea el h' b) (b.mono fun x hx => by rw [hx]; exact mem)
  · rw [if_neg c] at k1 k2
    walk_at "rd"
    refine r_itd (fun c2 => ?_) (fun c2 => ?_)
    · rw [if_pos c2] at k1 k2
      walk_at "rd"
      refine r_m ha (no_Line_reduce l) ?_
      walk_at "rd"
      refine ⟨a, l, n, rfl, ⟨da, ha⟩, okl, k1, fun l' e' H' h' b => ?_⟩
      exact k2 l' e' H' (O.line ea el h' b) (b.mono fun x hx => by rw [hx]; exact mem)
    · rw [if_neg c2] at k1 k2
      walk_at "rd"
      refine r_m ha (no_Line_bring l) ?_
      walk_at "rd"
      refine ⟨_, _, _, rfl, a, l, n, rfl, ⟨da, ha⟩, okl, k1, fun l' e' H' h' b => ?_⟩
      exact k2 l' e' H' (O.line ea el h' b) (b.mono fun x hx => by rw [hx]; exact mem)
/-! ### a new order -/
abbrev LtsAt (H : Hp) : List V → List Lt → Prop := Paired (LtAt H)
theorem Paired.get {α β : Type} {F : α → β → Prop} : ∀ {l₁ : List α} {l₂ : List β} {i : Nat} {a : α} {b : β}, Paired F l₁ l₂ → l₁[i]? = some a → l₂[i]? = some b → F a b
  | _, _, _, _, _, .nil, h, _ => by simp at h
  | _, _, 0, _, _, .cons r _, h, q => by
    cases h
    cases q
    exact r
  | _, _, i + 1, _, _, .cons _ t, h, q => Paired.get (i := i) t h q
theorem But.lt {S : Addr → Prop} {H H' : Hp} (b : But S H H') {v : V} {t : Lt} (h : LtAt H v t) : LtAt H' v t := by
  obtain ⟨a, e, q⟩ := h
  exact ⟨a, e, b.tup _ _ q⟩
theorem But.lts {S : Addr → Prop} {H H' : Hp} (b : But S H H') {vs : List V} {ts : List Lt} (h : LtsAt H vs ts) : LtsAt H' vs ts := Paired.mapP h fun _ _ q => b.lt q
theorem nodup_snoc {as : List Addr} {a : Addr} (h : as.Nodup) (n : ¬ a ∈ as) : (as ++ [a]).Nodup := by
  rw [List.nodup_append]
  refine ⟨h, by simp, fun x hx y hy => ?_⟩
  have e : y = a := by simpa using hy
  subst e
  exact fun z => n (by rw [← z]; exact hx)
def spOrderInit (K : PySem.W.Frag) : Sp := fun vs H Q _ => ∃ (a dx l : Addr) (xs : List V) (ts : List Lt), vs = [.ref a, .ref l] ∧ H a = some (.ins (He.ga K "Order") dx []) ∧ SqL K H l xs ∧ LtsAt H xs ts ∧ xs.length ≤ 100000 ∧
  ∀ (p : OL) (H' : Hp), p.o = a → OdAt K H' p ⟨ts.map Lt.ln, 0, []⟩ → (∀ b, p.foot b → b = a ∨ H b = none) → But (· = a) H H' → Q .non H'
theorem len_OrderInit {K : PySem.W.Frag} {vs : List V} {H : Hp} {Q : VK} {E : XK} (h : spOrderInit K vs H Q E) : vs.length = 2 := by
  obtain ⟨_, _, _, _, _, rfl, _⟩ := h; rfl
theorem ok_OrderInit {P : Program} {w : World} {K : PySem.W.Frag} {mg : Str → Option Value} {base : Heap} (T : Tx w K mg) : FnOk P w K mg base CX0 3 (He.fAd K dOrderInit.at_) (fdO K dOrderInit.at_) P_OrderInit (spOrderInit K) := by
  refine T.f_OrderInit.ok sc_OrderInit (fun vs H Q E h => len_OrderInit h) (fun cdv A outer s H vs Q E hr h => ⟨_, PSs.nox ((pss_cons (ps_fld (pv 0) (pe_lc (own := [("told", 2)]) (g := gName 2) (tt := tYes) rfl sc_OrderInit.nd (pi_list (pv 1)) (blkOk_by (N := N_OrderInit) (sc := defScope sOrderInit) (by decide +kernel)) (fun _ _ _ _ _ => pg_name (i := 2) sc_OrderInit.nd rfl (Or.inl rfl)) (fun _ _ _ _ _ => pts_nil) (fun _ _ _ _ _ => (pe_make T.mk_Line (ok_LineInit T) (hr.mono (by decide)) rfl T.g_Line T.b_LineInit .nil pass0 (pa_cons (pv 2) pa_nil)))) rfl)
      (pss_cons (ps_fld (pv 0) pe_int rfl)
      (pss_one (ps_fld (pv 0) (pe_lst pa_nil) rfl))))), ?_⟩)
  obtain ⟨a, dx, l, xs, ts, rfl, ha, hl, pt, hz, k⟩ := h
  walk_at "rd"
  refine ⟨l, rfl, ⟨xs, hl⟩, fun D hD => ?_⟩
  refine lc_list (K := K) (a := l) (xs := xs) (fun i H' => ∃ as : List Addr, as.length = i ∧ H' D = some (.lst (as.map V.ref)) ∧ as.Nodup ∧ Same H H' ∧ (∀ b, b ∈ as → H b = none ∧ b ≠ D) ∧
    ∀ (j : Nat) b t, as[j]? = some b → ts[j]? = some t → LnAt K H' b t.ln) ⟨[], rfl, upd_same, List.nodup_nil, same_upd hD, fun b hb => (by cases hb), fun j b t h => by simp at h⟩ (fun i H' _ ⟨_, _, _, _, s, _⟩ => s.seq hl) ?_ ?_
  · rintro i x H' hi ⟨as, hlen, hd, nd, s, fr, hln⟩
    have hi2 : i < ts.length := by rw [← pt.length]; exact (List.getElem?_eq_some_iff.mp hi).1
    have ht : LtAt H' x ts[i] := (But.of (S := fun _ => False) s).lt (Paired.get pt hi (List.getElem?_eq_getElem hi2))
    refine ⟨wipe1, r_yes (r_itT ?_)⟩
    walk_at "rd"
    intro y dy ny ndy ne
    have s1 : Same H' (upd (upd H' dy (.own y)) y (.ins (He.ga K "Line") dy [])) := fun b o e => by
      rw [upd_ne (ne_of_none e ny), upd_ne (ne_of_none e ndy)]
      exact e
    refine ⟨y, dy, x, ts[i], rfl, upd_same, (But.of (S := fun _ => False) s1).lt ht, fun H2 h2 b2 => ⟨rfl, ?_⟩⟩
    have s2 : Same H' H2 := fun b o e => b2.keep _ _ (s1 _ _ e) (ne_of_none e ny)
    have nyD : y ≠ D := Ne.symm (ne_of_none hd ny)
    have nya : ¬ y ∈ as := fun hm => by
      obtain ⟨j, hj⟩ := List.getElem?_of_mem hm
      have hj2 : j < as.length := (List.getElem?_eq_some_iff.mp hj).1
      have hjt : j < ts.length := by omega
      obtain ⟨_, q⟩ := hln j y _ hj (List.getElem?_eq_getElem hjt)
      rw [q] at ny
      cases ny
    refine ⟨_, s2 _ _ hd, ?_, as ++ [y], by simp [hlen], ?_, nodup_snoc nd nya, ?_, ?_, ?_⟩
    · refine sz5l ?_
      rw [List.length_map, hlen]
      have := (List.getElem?_eq_some_iff.mp hi).1
      omega
    · rw [upd_same, List.map_append]; rfl
    · exact fun b o e => by
        rw [upd_ne (ne_of_none e hD)]
        exact s2 _ _ (s _ _ e)
    · intro b hb
      rcases List.mem_append.mp hb with h | h
      · exact fr b h
      · have e : b = y := by simpa using h
        subst e
        exact ⟨Same.free s ny, nyD⟩
    · intro j b t e1 e2
      by_cases hj : j < as.length
      · rw [List.getElem?_append_left hj] at e1
        obtain ⟨d, q⟩ := hln j b t e1 e2
        exact ⟨d, by rw [upd_ne (fr b (List.mem_of_getElem? e1)).2]; exact s2 _ _ q⟩
      · have hj2 : j = as.length := by
          have := (List.getElem?_eq_some_iff.mp e1).1
          simp at this
          omega
        subst hj2
        rw [List.getElem?_append_right (Nat.le_refl _), Nat.sub_self] at e1
        cases e1
        rw [hlen, List.getElem?_eq_getElem hi2] at e2
        cases e2
        obtain ⟨d, q⟩ := h2
        exact ⟨d, by rw [upd_ne nyD]; exact q⟩
  · rintro H2 ⟨as, hlen, hd, nd, s, fr, hln⟩
    have Da : a ≠ D := ne_of_none ha hD
    walk_at "rd"
    refine r_sf (s _ _ ha) T.cl_Order T.n_Order_lines (by walk_at "pf") (by simp) ?_
    walk_at "rd"
    refine r_sf upd_same T.cl_Order T.n_Order_money (by walk_at "pf") (by simp) ?_
    rw [upd_upd]
    walk_at "rd"
    refine r_mk (by simp) fun M hM => ?_
    have hM2 : H2 M = none := by
      by_cases z : M = a
      · subst z
        rw [upd_same] at hM
        cases hM
      · rw [upd_ne z] at hM
        exact hM
    have aM : a ≠ M := ne_of_none (s _ _ ha) hM2
    walk_at "rd"
    refine r_sf (by rw [upd_ne aM]; exact upd_same) T.cl_Order T.n_Order_marks (by walk_at "pf") (by simp) ?_
    have DM : D ≠ M := ne_of_none hd hM2
    have b1 : But (· = a) H (upd (upd (upd H2 a (.ins (He.ga K "Order") dx [("lines", .ref D), ("money", .int 0)])) M (.lst [])) a (.ins (He.ga K "Order") dx [("lines", .ref D), ("money", .int 0), ("marks", .ref M)])) := by
      have c1 : But (· = a) H (upd H2 a (.ins (He.ga K "Order") dx [("lines", .ref D), ("money", .int 0)])) := (But.of s).trans (But.ins (s _ _ ha) rfl)
      have c2 : But (· = a) H (upd (upd H2 a (.ins (He.ga K "Order") dx [("lines", .ref D), ("money", .int 0)])) M (.lst [])) := c1.trans (But.of (same_upd hM))
      exact c2.trans (But.ins (C := He.ga K "Order") (dx := dx) (fs := [("lines", .ref D), ("money", .int 0)]) (by rw [upd_ne aM]; exact upd_same) rfl)
    refine k ⟨a, D, M, as⟩ _ rfl ⟨⟨dx, upd_same⟩, ?_, by simp [hlen, pt.length], fun i c m e1 e2 => ?_, nd, DM, [], ?_, .nil⟩ ?_ b1
    · show upd _ _ _ D = _
      rw [upd_ne (Ne.symm Da), upd_ne DM, upd_ne (Ne.symm Da)]
      exact hd
    · have e2' : (ts.map Lt.ln)[i]? = some m := e2
      rw [List.getElem?_map] at e2'
      cases et : ts[i]? with
      | none => rw [et] at e2'; cases e2'
      | some t =>
        rw [et] at e2'
        cases e2'
        obtain ⟨d, q⟩ := hln i c t e1 et
        have ca : c ≠ a := Ne.symm (ne_of_none ha (fr c (List.mem_of_getElem? e1)).1)
        have cM : c ≠ M := ne_of_none q hM2
        exact ⟨d, by rw [upd_ne ca, upd_ne cM, upd_ne ca]; exact q⟩
    · show upd _ _ _ M = _
      rw [upd_ne (Ne.symm aM)]
      exact upd_same
    · intro b hb
      rcases hb with h | h | h | h
      · exact .inl h
      · rw [h]; exact .inr hD
      · rw [h]; exact .inr (Same.free s hM2)
      · exact .inr (fr b h).1

/-! ### a book -/
inductive Dd where
  | ord (ls : List Lt)
  | ln (w : Str) (o l n : Int)
  | mo (w : Str) (o n : Int)
  | mv (o p n : Int)
structure Bk where
  each : List Od
  trail : List Dd
inductive Role where
  | no | book | each | trail | deed | ord (j : Nat)
structure Lay where
  each : Addr
  trail : Addr
  ords : List OL
  own : Addr → Role
def Dd.good : Dd → Prop
  | .ord _ => True
  | .ln w _ _ _ => w = "deliver" ∨ w = "back" ∨ w = "swap" ∨ w = "credit"
  | .mo w _ _ => w = "pay" ∨ w = "refund"
  | .mv _ _ _ => True
/-- a deed as it lies: F holds of the list of an order's lines -/
def DdAt (F : Addr → Prop) (H : Hp) (v : V) : Dd → Prop
  | .ord ls => ∃ t l xs, v = .ref t ∧ H t = some (.tup [.str "order", .ref l]) ∧ H l = some (.lst xs) ∧ F l ∧ LtsAt H xs ls
  | .ln w o l n => ∃ t, v = .ref t ∧ H t = some (.tup [.str w, .int o, .int l, .int n])
  | .mo w o n => ∃ t, v = .ref t ∧ H t = some (.tup [.str w, .int o, .int n])
  | .mv o p n => ∃ t, v = .ref t ∧ H t = some (.tup [.str "move", .int o, .int p, .int n])
theorem DdAt.imp {F F' : Addr → Prop} {H : Hp} {v : V} {d : Dd} (h : DdAt F H v d) (m : ∀ a, F a → (∃ o, H a = some o) → F' a) : DdAt F' H v d := by
  cases d with
  | ord ls => obtain ⟨t, l, xs, e, h1, h2, f, q⟩ := h; exact ⟨t, l, xs, e, h1, h2, m _ f ⟨_, h2⟩, q⟩
  | _ => exact h
theorem DdAt.keep {F S : Addr → Prop} {H H' : Hp} {v : V} {d : Dd} (h : DdAt F H v d) (b : But S H H') (n : ∀ a, F a → ¬ S a) : DdAt F H' v d := by
  cases d with
  | ord ls => obtain ⟨t, l, xs, e, h1, h2, f, q⟩ := h; exact ⟨t, l, xs, e, b.tup _ _ h1, b.keep _ _ h2 (n _ f), f, b.lts q⟩
  | ln w o l n => obtain ⟨t, e, h1⟩ := h; exact ⟨t, e, b.tup _ _ h1⟩
  | mo w o n => obtain ⟨t, e, h1⟩ := h; exact ⟨t, e, b.tup _ _ h1⟩
  | mv o p n => obtain ⟨t, e, h1⟩ := h; exact ⟨t, e, b.tup _ _ h1⟩
structure BookAt (K : PySem.W.Frag) (H : Hp) (b : Addr) (B : Bk) (L : Lay) : Prop where
  ob : ∃ dx, H b = some (.ins (He.ga K "Book") dx (bkF L.each L.trail))
  rb : L.own b = .book
  ev : H L.each = some (.lst (L.ords.map fun p => V.ref p.o))
  re : L.own L.each = .each
  tr : ∃ ts, H L.trail = some (.lst ts) ∧ Paired (DdAt (fun a => L.own a = .deed) H) ts B.trail
  rt : L.own L.trail = .trail
  len : L.ords.length = B.each.length
  od : ∀ (j : Nat) p o, L.ords[j]? = some p → B.each[j]? = some o → OdAt K H p o
  ro : ∀ (j : Nat) p, L.ords[j]? = some p → ∀ a, p.foot a → L.own a = .ord j
  dom : ∀ a, L.own a ≠ .no → ∃ o, H a = some o
structure Bk.ok (B : Bk) : Prop where
  od : ∀ o, o ∈ B.each → o.ok
  few : B.each.length ≤ 40
  mks : ∀ o, o ∈ B.each → o.marks.length ≤ B.trail.length
  good : ∀ d, d ∈ B.trail → d.good
def Lay.foot (L : Lay) (a : Addr) : Prop := L.own a ≠ .no
theorem BookAt.fresh {K : PySem.W.Frag} {H : Hp} {b : Addr} {B : Bk} {L : Lay} (h : BookAt K H b B L) {a : Addr} (e : H a = none) : L.own a = .no := by
  by_cases z : L.own a = .no
  · exact z
  · obtain ⟨o, q⟩ := h.dom a z
    rw [e] at q
    cases q
theorem BookAt.keep {K : PySem.W.Frag} {S : Addr → Prop} {H H' : Hp} {b : Addr} {B : Bk} {L : Lay} (h : BookAt K H b B L) (bt : But S H H') (n : ∀ a, L.own a ≠ .no → ¬ S a) : BookAt K H' b B L where
  ob := by
    obtain ⟨dx, e⟩ := h.ob
    exact ⟨dx, bt.keep _ _ e (n _ (by rw [h.rb]; intro q; cases q))⟩
  rb := h.rb
  ev := bt.keep _ _ h.ev (n _ (by rw [h.re]; intro q; cases q))
  re := h.re
  tr := by
    obtain ⟨ts, e, q⟩ := h.tr
    exact ⟨ts, bt.keep _ _ e (n _ (by rw [h.rt]; intro q; cases q)), Paired.mapP q fun _ _ z => z.keep bt fun a f => n a (by rw [f]; intro q; cases q)⟩
  rt := h.rt
  len := h.len
  od := fun j p o e1 e2 => (h.od j p o e1 e2).keep bt fun a f => n a (by rw [h.ro j p e1 a f]; intro q; cases q)
  ro := h.ro
  dom := fun a z => by
    obtain ⟨o, e⟩ := h.dom a z
    exact ⟨o, bt.keep _ _ e (n a z)⟩
theorem BookAt.same {K : PySem.W.Frag} {H H' : Hp} {b : Addr} {B : Bk} {L : Lay} (h : BookAt K H b B L) (s : Same H H') : BookAt K H' b B L := h.keep (But.of (S := fun _ => False) s) fun _ _ => id
/-- one order is changed -/
theorem BookAt.one {K : PySem.W.Frag} {H H' : Hp} {b : Addr} {B : Bk} {L : Lay} {j : Nat} {p : OL} {o' : Od} (h : BookAt K H b B L) (hp : L.ords[j]? = some p) (O : OdAt K H' p o') (bt : But p.foot H H')
    (dm : ∀ a, p.foot a → ∃ o, H' a = some o) : BookAt K H' b { B with each := B.each.set j o' } L := by
  have n : ∀ a, L.own a ≠ .ord j → ¬ p.foot a := fun a z f => z (h.ro j p hp a f)
  refine ⟨?_, h.rb, bt.keep _ _ h.ev (n _ (by rw [h.re]; intro q; cases q)), h.re, ?_, h.rt, by simp [h.len], fun i q o e1 e2 => ?_, h.ro, fun a z => ?_⟩
  · obtain ⟨dx, e⟩ := h.ob
    exact ⟨dx, bt.keep _ _ e (n _ (by rw [h.rb]; intro q; cases q))⟩
  · obtain ⟨ts, e, q⟩ := h.tr
    exact ⟨ts, bt.keep _ _ e (n _ (by rw [h.rt]; intro q; cases q)), Paired.mapP q fun _ _ z => z.keep bt fun a f => n a (by rw [f]; intro q; cases q)⟩
  · by_cases hj : j = i
    · subst hj
      rw [hp] at e1
      cases e1
      have hl : j < B.each.length := by rw [← h.len]; exact (List.getElem?_eq_some_iff.mp hp).1
      have e2' : (B.each.set j o')[j]? = some o := e2
      rw [List.getElem?_set_self hl] at e2'
      cases e2'
      exact O
    · have e2' : (B.each.set j o')[i]? = some o := e2
      rw [List.getElem?_set_ne hj] at e2'
      refine (h.od i q o e1 e2').keep bt fun a f => n a ?_
      rw [h.ro i q e1 a f]
      intro z
      cases z
      exact hj rfl
  · by_cases f : p.foot a
    · exact dm a f
    · obtain ⟨o, e⟩ := h.dom a z
      exact ⟨o, bt.keep _ _ e f⟩
theorem OdAt.dom {K : PySem.W.Frag} {H : Hp} {p : OL} {o : Od} (O : OdAt K H p o) : ∀ a, p.foot a → ∃ u, H a = some u := by
  intro a f
  rcases f with f | f | f | f
  · obtain ⟨dx, e⟩ := O.ob
    exact ⟨_, by rw [f]; exact e⟩
  · exact ⟨_, by rw [f]; exact O.ll⟩
  · obtain ⟨ts, e, _⟩ := O.lm
    exact ⟨_, by rw [f]; exact e⟩
  · obtain ⟨i, hi⟩ := List.getElem?_of_mem f
    have hl : i < o.lines.length := by rw [← O.len]; exact (List.getElem?_eq_some_iff.mp hi).1
    obtain ⟨dx, e⟩ := O.ln i a _ hi (List.getElem?_eq_getElem hl)
    exact ⟨_, e⟩
/-- how the heap may be behind a book's method -/
structure Mod (L L' : Lay) (H H' : Hp) : Prop where
  but : But L.foot H H'
  grow : ∀ a, L'.own a ≠ .no → L.own a ≠ .no ∨ H a = none
theorem Mod.same {L : Lay} {H H' : Hp} (s : Same H H') : Mod L L H H' := ⟨But.of s, fun _ z => .inl z⟩
theorem Mod.trans {L L1 L2 : Lay} {H H1 H2 : Hp} (a : Mod L L1 H H1) (b : Mod L1 L2 H1 H2) (back : ∀ x, H1 x = none → H x = none) : Mod L L2 H H2 where
  but := a.but.mut b.but fun x z => (a.grow x z).elim .inl .inr
  grow := fun x z => (b.grow x z).elim (fun q => a.grow x q) fun q => .inr (back x q)
/-! ### the small methods -/
def spBookOrderOf (K : PySem.W.Frag) : Sp := fun vs H Q E => ∃ (b : Addr) (B : Bk) (L : Lay) (n : Int), vs = [.ref b, .int n] ∧ BookAt K H b B L ∧
  (¬ (0 ≤ n ∧ n < B.each.length) → E (.ref (He.ga K "NoOrder")) none H) ∧ ∀ (j : Nat) p o, n = (j : Int) → L.ords[j]? = some p → B.each[j]? = some o → Q (.ref p.o) H
theorem len_BookOrderOf {K : PySem.W.Frag} {vs : List V} {H : Hp} {Q : VK} {E : XK} (h : spBookOrderOf K vs H Q E) : vs.length = 2 := by
  obtain ⟨_, _, _, _, rfl, _⟩ := h; rfl
theorem ok_BookOrderOf {P : Program} {w : World} {K : PySem.W.Frag} {mg : Str → Option Value} {base : Heap} (T : Tx w K mg) : FnOk P w K mg base (L2.CX P w) 1 (He.fAd K dBookOrderOf.at_) (fdO K dBookOrderOf.at_) P_BookOrderOf (spBookOrderOf K) := by
  refine T.f_BookOrderOf.ok sc_BookOrderOf (fun vs H Q E h => len_BookOrderOf h) (fun cdv A outer s H vs Q E hr h => ⟨_, ((pss_cons (ps_if (pt_not (pt_chain op_le op_lt pe_int (pv 1) (pe_callB call_len_seq (by rfl) T.b_len (by decide +kernel) (pa_cons (pe_fld (pv 0) rfl) pa_nil)))) (pss_one (ps_raise rfl (takes_of rfl rfl rfl rfl) (pmk_own PySem.F.excBase_ValueError T.x_NoOrder.1 T.g_NoOrder T.x_NoOrder.2.1 (raises_own T.x_NoOrder.2.2.1 T.x_NoOrder.2.2.2) rfl))) pss_nil)
      (pss_one (ps_ret (pe_ix ix_list (pe_fld (pv 0) rfl) (pv 1) (fun _ _ => rfl)))))), ?_⟩)
  obtain ⟨b, B, L, n, rfl, h, k1, k2⟩ := h
  obtain ⟨dx, hb⟩ := h.ob
  walk_at "rd"
  refine r_itd (fun c => ?_) (fun c => ?_)
  · walk_at "rd"
    refine r_f hb T.cl_Book T.n_Book_each (lk_Book_each _ _) ?_
    walk_at "rd"
    refine ⟨_, _, rfl, .inl (SqL.of h.ev), ?_⟩
    walk_at "rd"
    rw [List.length_map, h.len]
    refine r_itn (fun c2 => k1 fun z => c2 z.2) (fun c2 => ?_)
    walk_at "rd"
    refine r_f hb T.cl_Book T.n_Book_each (lk_Book_each _ _) ?_
    walk_at "rd"
    obtain ⟨j, rfl⟩ : ∃ i : Nat, n = (i : Int) := ⟨n.toNat, by omega⟩
    have hj2 : j < B.each.length := by omega
    have hj : j < L.ords.length := by rw [h.len]; exact hj2
    refine r_ixL (SqL.of h.ev) (atI_get (j := j) rfl (by rw [List.getElem?_map, List.getElem?_eq_getElem hj]; rfl)) ?_
    exact k2 j _ _ rfl (List.getElem?_eq_getElem hj) (List.getElem?_eq_getElem hj2)
  · walk_at "rd"
    exact k1 fun z => c z.1
def spBookNeedNumber (K : PySem.W.Frag) : Sp := fun vs H Q E => ∃ (v : V) (n : Int), vs = [v, .int n] ∧ (n < 1 → E (.ref (He.ga K "NoNumber")) none H) ∧ (¬ n < 1 → Q .non H)
theorem len_BookNeedNumber {K : PySem.W.Frag} {vs : List V} {H : Hp} {Q : VK} {E : XK} (h : spBookNeedNumber K vs H Q E) : vs.length = 2 := by
  obtain ⟨_, _, rfl, _⟩ := h; rfl
theorem ok_BookNeedNumber {P : Program} {w : World} {K : PySem.W.Frag} {mg : Str → Option Value} {base : Heap} (T : Tx w K mg) : FnOk P w K mg base (L2.CX P w) 1 (He.fAd K dBookNeedNumber.at_) (fdO K dBookNeedNumber.at_) P_BookNeedNumber (spBookNeedNumber K) := by
  refine T.f_BookNeedNumber.ok sc_BookNeedNumber (fun vs H Q E h => len_BookNeedNumber h) (fun cdv A outer s H vs Q E hr h => ⟨_, ((pss_one (ps_if (pt_cmpR op_lt (pv 1) pe_int (nomark _)) (pss_one (ps_raise rfl (takes_of rfl rfl rfl rfl) (pmk_own PySem.F.excBase_ValueError T.x_NoNumber.1 T.g_NoNumber T.x_NoNumber.2.1 (raises_own T.x_NoNumber.2.2.1 T.x_NoNumber.2.2.2) rfl))) pss_nil))), ?_⟩)
  obtain ⟨v, n, rfl, k1, k2⟩ := h
  walk_at "rd"
  refine r_itd (fun c => k1 c) (fun c => ?_)
  walk_at "rd"
  exact k2 c
def spOwn (_ : PySem.W.Frag) : Sp := fun vs H Q _ => ∃ (v : V) (d : Dd), vs = [v] ∧ DdAt (fun _ => True) H v d ∧ d.good ∧ (∀ ls, d = .ord ls → ls.length ≤ 100000) ∧ ∀ v' H', Same H H' → DdAt (fun a => H a = none) H' v' d → Q v' H'
theorem len_Own {K : PySem.W.Frag} {vs : List V} {H : Hp} {Q : VK} {E : XK} (h : spOwn K vs H Q E) : vs.length = 1 := by
  obtain ⟨_, _, rfl, _⟩ := h; rfl
theorem good_ord {d : Dd} (g : d.good) : (∀ w o l n, d = .ln w o l n → ¬ w = "order") ∧ ∀ w o n, d = .mo w o n → ¬ w = "order" := by
  refine ⟨fun w o l n e => ?_, fun w o n e => ?_⟩
  · subst e
    rcases g with rfl | rfl | rfl | rfl <;> decide +kernel
  · subst e
    rcases g with rfl | rfl <;> decide +kernel
theorem ok_Own {P : Program} {w : World} {K : PySem.W.Frag} {mg : Str → Option Value} {base : Heap} (T : Tx w K mg) : FnOk P w K mg base CX0 1 (He.fAd K dOwn.at_) (fdO K dOwn.at_) P_Own (spOwn K) := by
  refine T.f_Own.ok sc_Own (fun vs H Q E h => len_Own h) (fun cdv A outer s H vs Q E hr h => ⟨_, PSs.nox ((pss_cons (ps_if (pt_cmpR op_eq (pe_ix ix_tup (pv 0) pe_int (fun _ _ => rfl)) pe_str (nomark _)) (pss_one (ps_ret (pe_tup (pa_cons pe_str (pa_cons (pe_lc (own := [("line", 1)]) (g := gName 1) (tt := tYes) rfl sc_Own.nd (pi_list (pe_ix ix_tup (pv 0) pe_int (fun _ _ => rfl))) (blkOk_by (N := N_Own) (sc := defScope sOwn) (by decide +kernel)) (fun _ _ _ _ _ => pg_name (i := 1) sc_Own.nd rfl (Or.inl rfl)) (fun _ _ _ _ _ => pts_nil) (fun _ _ _ _ _ => (pv 1))) pa_nil))))) pss_nil)
      (pss_one (ps_ret (pv 0))))), ?_⟩)
  obtain ⟨v, d, rfl, hd, g, few, k⟩ := h
  cases d with
  | ord ls =>
    obtain ⟨t, l, xs, rfl, ht, hl, _, pt⟩ := hd
    walk_at "rd"
    refine r_ixT (SqT.of ht) (atI_get (j := 0) rfl rfl) ?_
    walk_at "rd"
    refine r_ity rfl ?_
    walk_at "rd"
    refine r_ixT (SqT.of ht) (atI_get (j := 1) rfl rfl) ?_
    refine lcp_list (ys := xs) (SqL.of hl) rfl (by rw [pt.length]; exact few _ rfl) (fun i x y H' R ex ey s q => ?_) (fun D H' hD s e => ?_)
    · rw [ex] at ey
      cases ey
      walk_at "rd"
      exact q _ (Same.refl _)
    · walk_at "rd"
      refine r_mk (by simp) fun t2 ht2 => ?_
      refine k _ _ (s.trans (same_upd ht2)) ⟨t2, D, xs, rfl, upd_same, by rw [upd_ne (ne_of_none e ht2)]; exact e, hD, ?_⟩
      exact (But.of (S := fun _ => False) (s.trans (same_upd ht2))).lts pt
  | ln w o l n =>
    obtain ⟨t, rfl, ht⟩ := hd
    walk_at "rd"
    refine r_ixT (SqT.of ht) (atI_get (j := 0) rfl rfl) ?_
    walk_at "rd"
    refine r_itz ((good_ord g).1 _ _ _ _ rfl) ?_
    walk_at "rd"
    exact k _ _ (Same.refl _) ⟨t, rfl, ht⟩
  | mo w o n =>
    obtain ⟨t, rfl, ht⟩ := hd
    walk_at "rd"
    refine r_ixT (SqT.of ht) (atI_get (j := 0) rfl rfl) ?_
    walk_at "rd"
    refine r_itz ((good_ord g).2 _ _ _ rfl) ?_
    walk_at "rd"
    exact k _ _ (Same.refl _) ⟨t, rfl, ht⟩
  | mv o p n =>
    obtain ⟨t, rfl, ht⟩ := hd
    walk_at "rd"
    refine r_ixT (SqT.of ht) (atI_get (j := 0) rfl rfl) ?_
    walk_at "rd"
    refine r_itz (by decide +kernel) ?_
    walk_at "rd"
    exact k _ _ (Same.refl _) ⟨t, rfl, ht⟩

/-! ### what a deed does -/
def errV (K : PySem.W.Frag) (e : Er) : Value := .ref (He.ga K e.name)
def firstErr (ls : List Lt) : Option Er := ls.findSome? ltCheck
def ordErr (n : Nat) (ls : List Lt) : Option Er := if ¬ (1 ≤ ls.length ∧ ls.length ≤ 20) then some .noLines else match firstErr ls with
  | some e => some e
  | none => if n = 40 then some .fullBook else none
def at_ {α : Type} (xs : List α) (n : Int) : Option (Nat × α) := if 0 ≤ n then (xs[n.toNat]?).map fun x => (n.toNat, x) else none
theorem at_some {α : Type} {xs : List α} {j : Nat} {x : α} (h : xs[j]? = some x) : at_ xs (j : Int) = some (j, x) := by
  unfold at_
  rw [if_pos (by omega)]
  simp [h]
theorem at_0 {α : Type} {x : α} {xs : List α} : at_ (x :: xs) 0 = some (0, x) := by
  simp [at_]
theorem at_none {α : Type} {xs : List α} {n : Int} (h : ¬ (0 ≤ n ∧ n < xs.length)) : at_ xs n = none := by
  unfold at_
  by_cases c : 0 ≤ n
  · rw [if_pos c, List.getElem?_eq_none (by omega)]; rfl
  · rw [if_neg c]
theorem at_of {α : Type} {xs : List α} {n : Int} {j : Nat} {x : α} (h : at_ xs n = some (j, x)) : n = (j : Int) ∧ xs[j]? = some x := by
  unfold at_ at h
  by_cases c : 0 ≤ n
  · rw [if_pos c] at h
    cases e : xs[n.toNat]? with
    | none => rw [e] at h; cases h
    | some y =>
      rw [e] at h
      cases h
      exact ⟨by omega, e⟩
  · rw [if_neg c] at h
    cases h
theorem at_or {α : Type} (xs : List α) (n : Int) : (at_ xs n = none ∧ ¬ (0 ≤ n ∧ n < xs.length)) ∨ ∃ (j : Nat) (x : α), n = (j : Int) ∧ xs[j]? = some x ∧ at_ xs n = some (j, x) := by
  by_cases c : 0 ≤ n ∧ n < xs.length
  · obtain ⟨j, rfl⟩ : ∃ i : Nat, n = (i : Int) := ⟨n.toNat, by omega⟩
    have hj : j < xs.length := by omega
    exact .inr ⟨j, xs[j], rfl, List.getElem?_eq_getElem hj, at_some (List.getElem?_eq_getElem hj)⟩
  · exact .inl ⟨at_none c, c⟩
def Od.pay (o : Od) (n : Int) : Od := { o with money := o.money + n }
def Od.mark (o : Od) (w : Str) (c : Int) : Od := { o with marks := o.marks ++ [(w, c)] }
abbrev Res := Except Er (List Od × List (Int × Int))
def stepLn (es : List Od) (w : Str) (o l n : Int) : Res := match at_ es o with
  | none => .error .noOrder
  | some (j, od) => match at_ od.lines l with
    | none => .error .noLine
    | some (i, x) => if n < 1 then .error .noNumber else match x.turn w n with
      | none => .error .tooMuch
      | some x' => .ok (es.set j (Od.mark { od with lines := od.lines.set i x' } w (Od.owing { od with lines := od.lines.set i x' } - od.owing)), [(o, Od.owing { od with lines := od.lines.set i x' } - od.owing)])
def stepMo (es : List Od) (w : Str) (o n : Int) : Res := match at_ es o with
  | none => .error .noOrder
  | some (j, od) => if n < 1 then .error .noNumber else if w = "pay" then .ok (es.set j (Od.mark (od.pay n) w ((od.pay n).owing - od.owing)), [(o, (od.pay n).owing - od.owing)])
    else if n > -od.owing then .error .tooMuch else .ok (es.set j (Od.mark (od.pay (-n)) w ((od.pay (-n)).owing - od.owing)), [(o, (od.pay (-n)).owing - od.owing)])
def stepMv (es : List Od) (o p n : Int) : Res := match at_ es o with
  | none => .error .noOrder
  | some (i, a) => match at_ es p with
    | none => .error .noOrder
    | some (j, b) => if o = p then .error .sameOrder else if n < 1 then .error .noNumber else if n > -a.owing then .error .tooMuch
      else .ok ((es.set i (Od.mark (a.pay (-n)) "move" ((a.pay (-n)).owing - a.owing))).set j (Od.mark (b.pay n) "move" ((b.pay n).owing - b.owing)), [(o, (a.pay (-n)).owing - a.owing), (p, (b.pay n).owing - b.owing)])
def stepOrd (es : List Od) (ls : List Lt) : Res := match ordErr es.length ls with
  | some e => .error e
  | none => .ok (es ++ [⟨ls.map Lt.ln, 0, []⟩], [])
def step (es : List Od) : Dd → Res
  | .ord ls => stepOrd es ls
  | .ln w o l n => stepLn es w o l n
  | .mo w o n => stepMo es w o n
  | .mv o p n => stepMv es o p n
/-- what a deed changed, as it is told -/
def PrAt (H : Hp) (v : V) (c : Int × Int) : Prop := ∃ t, v = .ref t ∧ H t = some (.tup [.int c.1, .int c.2])
def ChAt (H : Hp) (r : Addr) (cs : List (Int × Int)) : Prop := ∃ xs, H r = some (.lst xs) ∧ Paired (PrAt H) xs cs
theorem But.prs {S : Addr → Prop} {H H' : Hp} (b : But S H H') {xs : List V} {cs : List (Int × Int)} (h : Paired (PrAt H) xs cs) : Paired (PrAt H') xs cs := Paired.mapP h fun _ _ ⟨t, e, q⟩ => ⟨t, e, b.tup _ _ q⟩
/-! ### a new order -/
noncomputable def Lay.add (L : Lay) (p : OL) : Lay := ⟨L.each, L.trail, L.ords ++ [p], fun a => @ite _ (p.foot a) (Classical.propDecidable _) (.ord L.ords.length) (L.own a)⟩
theorem Lay.add_in {L : Lay} {p : OL} {a : Addr} (h : p.foot a) : (L.add p).own a = .ord L.ords.length := by
  exact @if_pos _ (Classical.propDecidable _) h _ _ _
theorem Lay.add_out {L : Lay} {p : OL} {a : Addr} (h : ¬ p.foot a) : (L.add p).own a = L.own a := by
  exact @if_neg _ (Classical.propDecidable _) h _ _ _
theorem BookAt.add {K : PySem.W.Frag} {H H2 : Hp} {b : Addr} {B : Bk} {L : Lay} {p : OL} {o : Od} (h : BookAt K H b B L) (hx : ∀ a, p.foot a → H a = none) (O : OdAt K H2 p o) (s : Same H H2) :
    BookAt K (upd H2 L.each (.lst ((L.ords ++ [p]).map fun p => V.ref p.o))) b { B with each := B.each ++ [o] } (L.add p) ∧ Mod L (L.add p) H (upd H2 L.each (.lst ((L.ords ++ [p]).map fun p => V.ref p.o))) := by
  have ev2 := s _ _ h.ev
  have bt : But (· = L.each) H (upd H2 L.each (.lst ((L.ords ++ [p]).map fun p => V.ref p.o))) := (But.of s).trans (But.lst ev2 rfl)
  have bt2 : But (· = L.each) H2 (upd H2 L.each (.lst ((L.ords ++ [p]).map fun p => V.ref p.o))) := But.lst ev2 rfl
  have old : ∀ a, L.own a ≠ .no → ¬ p.foot a := fun a z f => by
    obtain ⟨u, q⟩ := h.dom a z
    rw [hx a f] at q
    cases q
  have fe : ∀ a, p.foot a → ¬ a = L.each := fun a f z => by
    have q := h.ev
    rw [← z, hx a f] at q
    cases q
  have own : ∀ a, L.own a ≠ .no → (L.add p).own a = L.own a := fun a z => Lay.add_out (old a z)
  have z1 : ∀ {r : Role} {a : Addr}, L.own a = r → r ≠ .no → (L.add p).own a = r := fun {r a} e n => by
    rw [own a (by rw [e]; exact n), e]
  refine ⟨⟨?_, z1 h.rb (by intro q; cases q), upd_same, z1 h.re (by intro q; cases q), ?_, z1 h.rt (by intro q; cases q), by simp [Lay.add, h.len], fun j q u e1 e2 => ?_, fun j q e1 a f => ?_, fun a z => ?_⟩, ⟨?_, ?_⟩⟩
  · obtain ⟨dx, e⟩ := h.ob
    exact ⟨dx, bt.keep _ _ e (ne_of e h.ev (by intro q; cases q))⟩
  · obtain ⟨ts, e, q⟩ := h.tr
    refine ⟨ts, bt.keep _ _ e fun z => ?_, Paired.mapP q fun _ _ z => (z.keep bt fun a f y => ?_).imp fun a f _ => z1 f (by intro q; cases q)⟩
    · have q1 := h.rt
      have z' : L.trail = L.each := z
      rw [z', h.re] at q1
      cases q1
    · have f' : L.own a = .deed := f
      have y' : a = L.each := y
      rw [y', h.re] at f'
      cases f'
  · by_cases hj : j < L.ords.length
    · have e1' : (L.ords ++ [p])[j]? = some q := e1
      rw [List.getElem?_append_left hj] at e1'
      have e2' : (B.each ++ [o])[j]? = some u := e2
      rw [List.getElem?_append_left (by rw [← h.len]; exact hj)] at e2'
      refine (h.od j q u e1' e2').keep bt fun a f z => ?_
      have q1 := h.ro j q e1' a f
      have z' : a = L.each := z
      rw [z', h.re] at q1
      cases q1
    · have e1' : (L.ords ++ [p])[j]? = some q := e1
      have hj2 : j = L.ords.length := by
        have := (List.getElem?_eq_some_iff.mp e1').1
        simp at this
        omega
      subst hj2
      rw [List.getElem?_append_right (Nat.le_refl _), Nat.sub_self] at e1'
      cases e1'
      have e2' : (B.each ++ [o])[L.ords.length]? = some u := e2
      rw [h.len, List.getElem?_append_right (Nat.le_refl _), Nat.sub_self] at e2'
      cases e2'
      exact O.keep bt2 fun a f z => fe a f z
  · by_cases hj : j < L.ords.length
    · have e1' : (L.ords ++ [p])[j]? = some q := e1
      rw [List.getElem?_append_left hj] at e1'
      exact z1 (h.ro j q e1' a f) (by intro q; cases q)
    · have e1' : (L.ords ++ [p])[j]? = some q := e1
      have hj2 : j = L.ords.length := by
        have := (List.getElem?_eq_some_iff.mp e1').1
        simp at this
        omega
      subst hj2
      rw [List.getElem?_append_right (Nat.le_refl _), Nat.sub_self] at e1'
      cases e1'
      exact Lay.add_in f
  · by_cases f : p.foot a
    · obtain ⟨u, q⟩ := O.dom a f
      exact ⟨u, bt2.keep _ _ q (fe a f)⟩
    · rw [Lay.add_out f] at z
      by_cases y : a = L.each
      · exact ⟨_, by rw [y]; exact upd_same⟩
      · obtain ⟨u, q⟩ := h.dom a z
        exact ⟨u, bt.keep _ _ q y⟩
  · refine bt.mono fun a y => ?_
    have y' : a = L.each := y
    show L.own a ≠ .no
    rw [y', h.re]
    intro q
    cases q
  · intro a z
    by_cases f : p.foot a
    · exact .inr (hx a f)
    · rw [Lay.add_out f] at z
      exact .inl z
theorem firstErr_at {ls : List Lt} {i : Nat} {t : Lt} {e : Er} (h : ∀ (j : Nat) u, j < i → ls[j]? = some u → ltCheck u = none) (ht : ls[i]? = some t) (he : ltCheck t = some e) : firstErr ls = some e := by
  induction ls generalizing i with
  | nil => simp at ht
  | cons a l ih =>
    cases i with
    | zero =>
      cases ht
      unfold firstErr
      rw [List.findSome?_cons, he]
    | succ n =>
      have ha : ltCheck a = none := h 0 a (Nat.succ_pos _) rfl
      have q := ih (i := n) (fun j u hj hu => h (j + 1) u (by omega) (by simpa using hu)) (by simpa using ht)
      unfold firstErr at q ⊢
      rw [List.findSome?_cons, ha]
      exact q
theorem firstErr_none {ls : List Lt} (h : ∀ (j : Nat) u, j < ls.length → ls[j]? = some u → ltCheck u = none) : firstErr ls = none := by
  unfold firstErr
  rw [List.findSome?_eq_none_iff]
  intro x hx
  obtain ⟨j, hj⟩ := List.getElem?_of_mem hx
  exact h j x (List.getElem?_eq_some_iff.mp hj).1 hj
def spBookBegin (K : PySem.W.Frag) : Sp := fun vs H Q E => ∃ (b : Addr) (B : Bk) (L : Lay) (l : Addr) (xs : List V) (ls : List Lt), vs = [.ref b, .ref l] ∧ BookAt K H b B L ∧ B.each.length ≤ 40 ∧ H l = some (.lst xs) ∧ LtsAt H xs ls ∧ xs.length ≤ 100000 ∧
  (∀ t, t ∈ ls → t.item.length ≤ 100000) ∧ (∀ e, ordErr B.each.length ls = some e → E (errV K e) none H) ∧
  (ordErr B.each.length ls = none → ∀ r L' H', BookAt K H' b { B with each := B.each ++ [⟨ls.map Lt.ln, 0, []⟩] } L' → Mod L L' H H' → (∀ a, H' a = none → H a = none) → H r = none → L'.own r = .no → H' r = some (.lst []) → Q (.ref r) H')
theorem len_BookBegin {K : PySem.W.Frag} {vs : List V} {H : Hp} {Q : VK} {E : XK} (h : spBookBegin K vs H Q E) : vs.length = 2 := by
  obtain ⟨_, _, _, _, _, _, rfl, _⟩ := h; rfl
theorem ok_BookBegin {P : Program} {w : World} {K : PySem.W.Frag} {mg : Str → Option Value} {base : Heap} (T : Tx w K mg) : FnOk P w K mg base (L2.CX P w) 5 (He.fAd K dBookBegin.at_) (fdO K dBookBegin.at_) P_BookBegin (spBookBegin K) := by
  refine T.f_BookBegin.ok sc_BookBegin (fun vs H Q E h => len_BookBegin h) (fun cdv A outer s H vs Q E hr h => ⟨_, ((pss_cons (ps_if (pt_not (pt_chain op_le op_le pe_int (pe_callB call_len_seq (by rfl) T.b_len (by decide +kernel) (pa_cons (pv 1) pa_nil)) (pe_gc rfl T.c_MOST_LINES))) (pss_one (ps_raise rfl (takes_of rfl rfl rfl rfl) (pmk_own PySem.F.excBase_ValueError T.x_NoLines.1 T.g_NoLines T.x_NoLines.2.1 (raises_own T.x_NoLines.2.2.1 T.x_NoLines.2.2.2) rfl))) pss_nil)
      (pss_cons (ps_for (passes_of rfl) rfl (pi_list (pv 1)) (pg_name (i := 2) sc_BookBegin.nd rfl (Or.inl rfl)) (pss_one (ps_expr (pe_call (ok_CheckLine T) (hr.mono (by decide)) rfl T.g_CheckLine T.f_CheckLine.kp T.b_CheckLine .nil (passes_call (takes_of rfl rfl rfl rfl) (fun _ _ _ _ h => h)) (pa_cons (pv 2) pa_nil)))))
      (pss_cons (ps_if (pt_cmpR op_eq (pe_callB call_len_seq (by rfl) T.b_len (by decide +kernel) (pa_cons (pe_fld (pv 0) rfl) pa_nil)) (pe_gc rfl T.c_MOST_ORDERS) (nomark _)) (pss_one (ps_raise rfl (takes_of rfl rfl rfl rfl) (pmk_own PySem.F.excBase_ValueError T.x_FullBook.1 T.g_FullBook T.x_FullBook.2.1 (raises_own T.x_FullBook.2.2.1 T.x_FullBook.2.2.2) rfl))) pss_nil)
      (pss_cons (ps_expr (pe_bm PySem.F.plainAttrs_list PySem.F.slot_list_append PySem.F.type_list_append mt_append (pe_fld (pv 0) rfl) (pa_cons (pe_make T.mk_Order (ok_OrderInit T) (hr.mono (by decide)) rfl T.g_Order T.b_OrderInit .nil pass0 (pa_cons (pv 1) pa_nil)) pa_nil)))
      (pss_one (ps_ret (pe_lst pa_nil)))))))), ?_⟩)
  obtain ⟨b, B, L, l, xs, ls, rfl, h, hfew, hl, pt, hz, hit, kE, k⟩ := h
  obtain ⟨dx, hb⟩ := h.ob
  have len := pt.length
  walk_at "rd"
  refine ⟨_, _, rfl, .inl (SqL.of hl), ?_⟩
  walk_at "rd"
  have bad : ¬ (1 ≤ ls.length ∧ ls.length ≤ 20) → E (.ref (He.ga K "NoLines")) none H := fun n => kE .noLines (by unfold ordErr; rw [if_pos n])
  refine r_itd (fun c1 => ?_) (fun c1 => ?_)
  rotate_left
  · walk_at "rd"
    exact bad fun z => by omega
  walk_at "rd"
  refine r_itn (fun c2 => ?_) (fun c2 => ?_)
  · exact bad fun z => by omega
  walk_at "rd"
  have gl : 1 ≤ ls.length ∧ ls.length ≤ 20 := by omega
  refine ⟨l, rfl, ⟨xs, SqL.of hl⟩, for_list (K := K) (a := l) (xs := xs) (fun i σ H' => ∃ v, σ = [some (.ref b), some (.ref l), v] ∧ H' = H ∧ ∀ (j : Nat) u, j < i → ls[j]? = some u → ltCheck u = none)
    ⟨none, rfl, rfl, fun j u hj => absurd hj (Nat.not_lt_zero _)⟩ (fun i σ H' _ ⟨_, _, e, _⟩ => by rw [e]; exact SqL.of hl) ?_ ?_⟩
  · rintro i x σ H' hi ⟨v, rfl, rfl, hp⟩
    have hi2 : i < ls.length := by rw [← len]; exact (List.getElem?_eq_some_iff.mp hi).1
    have et : ls[i]? = some ls[i] := List.getElem?_eq_getElem hi2
    walk_at "rd"
    refine ⟨x, ls[i], rfl, Paired.get pt hi et, hit _ (List.mem_of_getElem? et), ?_⟩
    cases ce : ltCheck ls[i] with
    | none =>
      refine ⟨_, rfl, rfl, fun j u hj hu => ?_⟩
      by_cases hji : j = i
      · subst hji
        rw [et] at hu
        cases hu
        exact ce
      · exact hp j u (by omega) hu
    | some e =>
      refine kE e ?_
      unfold ordErr
      rw [if_neg (fun z => z gl), firstErr_at hp et ce]
  · rintro σ H' ⟨v, rfl, rfl, hp⟩
    have fe : firstErr ls = none := firstErr_none fun j u hj hu => hp j u (by rw [len]; exact hj) hu
    walk_at "rd"
    refine r_f hb T.cl_Book T.n_Book_each (lk_Book_each _ _) ?_
    walk_at "rd"
    refine ⟨_, _, rfl, .inl (SqL.of h.ev), ?_⟩
    walk_at "rd"
    rw [List.length_map, h.len]
    refine r_itd (fun c => ?_) (fun c => ?_)
    · walk_at "rd"
      refine kE .fullBook ?_
      unfold ordErr
      rw [if_neg (fun z => z gl), fe]
      show (if B.each.length = 40 then some Er.fullBook else none) = _
      rw [if_pos (by omega)]
    walk_at "rd"
    refine r_f hb T.cl_Book T.n_Book_each (lk_Book_each _ _) ?_
    refine r_tyL (SqL.of h.ev) ?_
    walk_at "rd"
    intro x dy nx ndy ne
    have s1 : Same H' (upd (upd H' dy (.own x)) x (.ins (He.ga K "Order") dy [])) := fun a u e => by
      rw [upd_ne (ne_of_none e nx), upd_ne (ne_of_none e ndy)]
      exact e
    refine ⟨x, dy, l, xs, ls, rfl, upd_same, s1.seq (SqL.of hl), (But.of (S := fun _ => False) s1).lts pt, hz, fun p H2 hpo O hfr b2 => ⟨rfl, ?_⟩⟩
    have s2 : Same H' H2 := fun a u e => b2.keep _ _ (s1 _ _ e) (ne_of_none e nx)
    walk_at "rd"
    refine r_app (s2 _ _ h.ev) (by rw [List.length_map, h.len]; refine sz5l ?_; omega) ?_
    have hfoot : ∀ a, p.foot a → H' a = none := fun a f => by
      rcases hfr a f with z | z
      · rw [z]; exact nx
      · exact Same.free s1 z
    obtain ⟨BA, MA⟩ := h.add hfoot O s2
    have e3 : (L.ords ++ [p]).map (fun p => V.ref p.o) = L.ords.map (fun p => V.ref p.o) ++ [V.ref x] := by
      rw [List.map_append, ← hpo]; rfl
    rw [e3] at BA MA
    walk_at "rd"
    refine r_mk (by simp) fun r hr => ?_
    have back : ∀ a, upd H2 L.each (.lst (L.ords.map (fun p => V.ref p.o) ++ [V.ref x])) a = none → H' a = none := fun a e => by
      by_cases z : a = L.each
      · rw [z, upd_same] at e; cases e
      · rw [upd_ne z] at e
        exact Same.free s2 e
    refine k ?_ r (L.add p) _ (BA.same (same_upd hr)) ⟨MA.but.trans (But.of (same_upd hr)), MA.grow⟩ (fun a e => back a ?_) (back r hr) (BA.fresh hr) upd_same
    · unfold ordErr
      rw [if_neg (fun z => z gl), fe]
      show (if B.each.length = 40 then some Er.fullBook else none) = none
      rw [if_neg (by omega)]
    · by_cases z : a = r
      · rw [z, upd_same] at e; cases e
      · rw [upd_ne z] at e
        exact e

/-! ### deeds of one order, moves -/
theorem turn_ok {w : Str} {l l' : Ln} {n : Int} (h : l.ok) (e : l.turn w n = some l') : l'.ok := by
  unfold Ln.turn Ln.deliver Ln.reduce Ln.bring Ln.cut at e
  obtain ⟨h1, h2⟩ := h
  repeat' split at e
  all_goals first
    | (cases e; exact ⟨h1, h2⟩)
    | cases e
theorem Od.ok.line {o : Od} {i : Nat} {l l' : Ln} {w : Str} {n : Int} (h : o.ok) (el : o.lines[i]? = some l) (e : l.turn w n = some l') : Od.ok { o with lines := o.lines.set i l' } := by
  refine ⟨fun x hx => ?_, by simpa using h.few⟩
  have hx' : x ∈ o.lines.set i l' := hx
  rcases List.mem_or_eq_of_mem_set hx' with z | z
  · exact h.ln x z
  · rw [z]
    exact turn_ok (h.ln l (List.mem_of_getElem? el)) e
theorem Od.ok.pay {o : Od} {n : Int} (h : o.ok) : (o.pay n).ok := ⟨h.ln, h.few⟩
theorem Od.ok.mark {o : Od} {w : Str} {n : Int} (h : o.ok) : (o.mark w n).ok := ⟨h.ln, h.few⟩
theorem BookAt.footOf {K : PySem.W.Frag} {H : Hp} {b : Addr} {B : Bk} {L : Lay} {j : Nat} {p : OL} (h : BookAt K H b B L) (hp : L.ords[j]? = some p) : ∀ a, p.foot a → L.foot a := fun a f => by
  show L.own a ≠ .no
  rw [h.ro j p hp a f]
  intro q
  cases q
theorem OL.foot_las {p : OL} {a : Addr} (h : a ∈ p.las) : p.foot a := .inr (.inr (.inr h))
theorem OL.foot_lm {p : OL} {a : Addr} (h : a = p.lm) : p.foot a := .inr (.inr (.inl h))
theorem OL.foot_o {p : OL} {a : Addr} (h : a = p.o) : p.foot a := .inl h
/-- what a deed of one order ends in: the pair told in a new list -/
def OneK (K : PySem.W.Frag) (b : Addr) (B : Bk) (L : Lay) (H : Hp) (r : Res) (Q : VK) (E : XK) : Prop :=
  (∀ e, r = .error e → ∀ H', Same H H' → E (errV K e) none H') ∧
  ∀ es cs, r = .ok (es, cs) → ∀ r H', BookAt K H' b { B with each := es } L → But L.foot H H' → (∀ a, H' a = none → H a = none) → H r = none → ChAt H' r cs → Q (.ref r) H'
def spBookOne (K : PySem.W.Frag) : Sp := fun vs H Q E => ∃ (b : Addr) (B : Bk) (L : Lay) (v : V) (d : Dd), vs = [.ref b, v] ∧ BookAt K H b B L ∧ B.ok ∧ B.trail.length < 100000 ∧ DdAt (fun _ => True) H v d ∧
  ((∃ w o l n, d = .ln w o l n) ∨ ∃ w o n, d = .mo w o n) ∧ OneK K b B L H (step B.each d) Q E
theorem len_BookOne {K : PySem.W.Frag} {vs : List V} {H : Hp} {Q : VK} {E : XK} (h : spBookOne K vs H Q E) : vs.length = 2 := by
  obtain ⟨_, _, _, _, _, rfl, _⟩ := h; rfl
theorem same_none {H H' : Hp} (s : Same H H') {a : Addr} (h : H' a = none) : H a = none := Same.free s h
theorem upd_none {H : Hp} {a b : Addr} {o : HO} (h : upd H a o b = none) : b ≠ a ∧ H b = none := by
  by_cases z : b = a
  · rw [z, upd_same] at h; cases h
  · rw [upd_ne z] at h
    exact ⟨z, h⟩
/-- nothing goes -/
def Stay (H H' : Hp) : Prop := ∀ a, H' a = none → H a = none
theorem But.stay {p : OL} {K : PySem.W.Frag} {H H' : Hp} {o : Od} (b : But p.foot H H') (O : OdAt K H' p o) : Stay H H' := fun a e => by
  cases q : H a with
  | none => rfl
  | some u =>
    by_cases f : p.foot a
    · obtain ⟨x, z⟩ := O.dom a f
      rw [z] at e; cases e
    · rw [b.keep _ _ q f] at e; cases e
/-- the end of a deed of one order: mark, the pair, the list -/
theorem one_end {K : PySem.W.Frag} {H H1 H2 : Hp} {b : Addr} {B : Bk} {L : Lay} {j : Nat} {p : OL} {od' : Od} {o c : Int} {Q : VK} {t r : Addr} (h : BookAt K H b B L) (hp : L.ords[j]? = some p) (s : Same H H1)
    (O : OdAt K H2 p od') (bt : But p.foot H1 H2) (ht : H2 t = none) (hr : upd H2 t (.tup [.int o, .int c]) r = none)
    (k : ∀ r H', BookAt K H' b { B with each := B.each.set j od' } L → But L.foot H H' → (∀ a, H' a = none → H a = none) → H r = none → ChAt H' r [(o, c)] → Q (.ref r) H') :
    Q (.ref r) (upd (upd H2 t (.tup [.int o, .int c])) r (.lst [.ref t])) := by
  obtain ⟨rt, r2⟩ := upd_none hr
  have h1 := h.same s
  have h2 := h1.one hp O bt O.dom
  have s3 : Same H2 (upd (upd H2 t (.tup [.int o, .int c])) r (.lst [.ref t])) := (same_upd ht).trans (same_upd hr)
  refine k r _ (h2.same s3) (((But.of s).trans (bt.mono (h1.footOf hp))).trans (But.of s3)) (fun a e => same_none s (bt.stay O a (same_none s3 e))) (same_none s (bt.stay O r r2)) ⟨[.ref t], upd_same, .cons ⟨t, rfl, ?_⟩ .nil⟩
  rw [upd_ne (Ne.symm rt)]
  exact upd_same
theorem ok_BookOne {P : Program} {w : World} {K : PySem.W.Frag} {mg : Str → Option Value} {base : Heap} (T : Tx w K mg) : FnOk P w K mg base (L2.CX P w) 6 (He.fAd K dBookOne.at_) (fdO K dBookOne.at_) P_BookOne (spBookOne K) := by
  refine T.f_BookOne.ok sc_BookOne (fun vs H Q E h => len_BookOne h) (fun cdv A outer s H vs Q E hr h => ⟨_, ((pss_cons (ps_set (i := 2) sc_BookOne.nd rfl (Or.inl rfl) (pe_meth (pv 0) T.cl_Book T.m_Book_order_of (ok_BookOrderOf T) (hr.mono (by decide)) T.b_BookOrderOf .nil (passes_call (takes_of rfl rfl rfl rfl) (fun _ _ _ _ h => h)) (pa_cons (pe_ix ix_tup (pv 1) pe_int (fun _ _ => rfl)) pa_nil)))
      (pss_cons (ps_if (pt_cmpR op_eq (pe_callB call_len_seq (by rfl) T.b_len (by decide +kernel) (pa_cons (pv 1) pa_nil)) pe_int (nomark _)) (pss_one (ps_expr (pe_meth (pv 2) T.cl_Order T.m_Order_line_of (ok_OrderLineOf T) (hr.mono (by decide)) T.b_OrderLineOf .nil (passes_call (takes_of rfl rfl rfl rfl) (fun _ _ _ _ h => h)) (pa_cons (pe_ix ix_tup (pv 1) pe_int (fun _ _ => rfl)) pa_nil)))) pss_nil)
      (pss_cons (ps_set (i := 3) sc_BookOne.nd rfl (Or.inl rfl) (pe_ix ix_tup (pv 1) (pe_op op_sub (pe_callB call_len_seq (by rfl) T.b_len (by decide +kernel) (pa_cons (pv 1) pa_nil)) pe_int) (fun _ _ => rfl)))
      (pss_cons (ps_expr (pe_meth (pv 0) T.cl_Book T.m_Book_need_number (ok_BookNeedNumber T) (hr.mono (by decide)) T.b_BookNeedNumber .nil (passes_call (takes_of rfl rfl rfl rfl) (fun _ _ _ _ h => h)) (pa_cons (pv 3) pa_nil)))
      (pss_cons (ps_set (i := 4) sc_BookOne.nd rfl (Or.inl rfl) (pe_meth0 (pv 2) T.cl_Order T.m_Order_owing (ok_OrderOwing T) (hr.mono (by decide)) T.b_OrderOwing .nil pass0))
      (pss_cons (ps_if (pt_cmpR op_eq (pe_callB call_len_seq (by rfl) T.b_len (by decide +kernel) (pa_cons (pv 1) pa_nil)) pe_int (nomark _)) (pss_one (ps_expr (pe_meth (pv 2) T.cl_Order T.m_Order_turn_line (ok_OrderTurnLine T) (hr.mono (by decide)) T.b_OrderTurnLine .nil (passes_call (takes_of rfl rfl rfl rfl) (fun _ _ _ _ h => h)) (pa_cons (pe_ix ix_tup (pv 1) pe_int (fun _ _ => rfl)) (pa_cons (pe_ix ix_tup (pv 1) pe_int (fun _ _ => rfl)) (pa_cons (pv 3) pa_nil)))))) (pss_one (ps_if (pt_cmpR op_eq (pe_ix ix_tup (pv 1) pe_int (fun _ _ => rfl)) pe_str (nomark _)) (pss_one (ps_expr (pe_meth (pv 2) T.cl_Order T.m_Order_take (ok_OrderTake T) (hr.mono (by decide)) T.b_OrderTake .nil pass0 (pa_cons (pv 3) pa_nil)))) (pss_cons (ps_expr (pe_meth (pv 2) T.cl_Order T.m_Order_need_over (ok_OrderNeedOver T) (hr.mono (by decide)) T.b_OrderNeedOver .nil (passes_call (takes_of rfl rfl rfl rfl) (fun _ _ _ _ h => h)) (pa_cons (pv 3) pa_nil)))
      (pss_one (ps_expr (pe_meth (pv 2) T.cl_Order T.m_Order_take (ok_OrderTake T) (hr.mono (by decide)) T.b_OrderTake .nil pass0 (pa_cons (pe_un un_neg (pv 3)) pa_nil))))))))
      (pss_one (ps_ret (pe_lst (pa_cons (pe_tup (pa_cons (pe_ix ix_tup (pv 1) pe_int (fun _ _ => rfl)) (pa_cons (pe_meth (pv 2) T.cl_Order T.m_Order_mark (ok_OrderMark T) (hr.mono (by decide)) T.b_OrderMark .nil pass0 (pa_cons (pe_ix ix_tup (pv 1) pe_int (fun _ _ => rfl)) (pa_cons (pv 4) pa_nil))) pa_nil))) pa_nil))))))))))), ?_⟩)
  obtain ⟨b, B, L, v, d, rfl, h, ok, hz, hd, hc, kE, k⟩ := h
  obtain ⟨dx, hb⟩ := h.ob
  rcases hc with ⟨w', o, l, n, rfl⟩ | ⟨w', o, n, rfl⟩
  · obtain ⟨t, rfl, ht⟩ := hd
    walk_at "rd"
    refine r_m hb (no_Book_order_of _ _) ?_
    walk_at "rd"
    refine r_ixT (SqT.of ht) (atI_get (j := 1) rfl rfl) ?_
    walk_at "rd"
    change (∀ e, stepLn B.each w' o l n = .error e → _) at kE
    change (∀ es cs, stepLn B.each w' o l n = .ok (es, cs) → _) at k
    unfold stepLn at kE k
    refine ⟨b, B, L, o, rfl, h, fun c => kE .noOrder (by rw [at_none c]) _ (Same.refl _), fun j p od ej ep eo => ?_⟩
    subst ej
    rw [at_some eo] at kE k
    dsimp only at kE k
    have O := h.od j p od ep eo
    obtain ⟨do_, ho⟩ := O.ob
    have oko := ok.od od (List.mem_of_getElem? eo)
    walk_at "rd"
    refine ⟨_, _, rfl, .inr (SqT.of ht), ?_⟩
    walk_at "rd"
    refine r_ity rfl ?_
    walk_at "rd"
    refine r_m ho (no_Order_line_of _ _ _) ?_
    walk_at "rd"
    refine r_ixT (SqT.of ht) (atI_get (j := 2) rfl rfl) ?_
    walk_at "rd"
    refine ⟨p, od, l, rfl, O, fun c => kE .noLine (by rw [at_none c]) _ (Same.refl _), fun i a ei ea => ?_⟩
    subst ei
    have hi : i < od.lines.length := by rw [← O.len]; exact (List.getElem?_eq_some_iff.mp ea).1
    have el : od.lines[i]? = some od.lines[i] := List.getElem?_eq_getElem hi
    rw [at_some el] at kE k
    dsimp only at kE k
    walk_at "rd"
    refine ⟨_, _, rfl, .inr (SqT.of ht), ?_⟩
    walk_at "rd"
    refine r_ixT (SqT.of ht) (atI_get (j := 3) rfl rfl) ?_
    walk_at "rd"
    refine r_m hb (no_Book_need_number _ _) ?_
    walk_at "rd"
    refine ⟨_, n, rfl, fun c => kE .noNumber (by rw [if_pos c]) _ (Same.refl _), fun c => ?_⟩
    rw [if_neg c] at kE k
    walk_at "rd"
    refine r_m ho (no_Order_owing _ _ _) ?_
    walk_at "rd"
    refine ⟨p, od, rfl, O, oko, fun H1 s1 => ?_⟩
    walk_at "rd"
    refine ⟨_, _, rfl, .inr (SqT.of (s1 _ _ ht)), ?_⟩
    walk_at "rd"
    refine r_ity rfl ?_
    walk_at "rd"
    have O1 := O.same s1
    refine r_m (s1 _ _ ho) (no_Order_turn_line _ _ _) ?_
    walk_at "rd"
    refine r_ixT (SqT.of (s1 _ _ ht)) (atI_get (j := 0) rfl rfl) ?_
    walk_at "rd"
    refine r_ixT (SqT.of (s1 _ _ ht)) (atI_get (j := 2) rfl rfl) ?_
    walk_at "rd"
    refine ⟨p, od, w', i, od.lines[i], n, rfl, O1, oko, el, fun e => kE .tooMuch (by rw [e]) _ s1, fun l' e H2 O2 b2 => ?_⟩
    rw [e] at k
    dsimp only at k
    obtain ⟨do2, ho2⟩ := O2.ob
    walk_at "rd"
    have ht2 : H2 t = some (.tup [.str w', .int (j : Int), .int (i : Int), .int n]) := b2.tup _ _ (s1 _ _ ht)
    refine r_ixT (SqT.of ht2) (atI_get (j := 1) rfl rfl) ?_
    walk_at "rd"
    refine r_m ho2 (no_Order_mark _ _ _) ?_
    walk_at "rd"
    refine r_ixT (SqT.of ht2) (atI_get (j := 0) rfl rfl) ?_
    walk_at "rd"
    have mk := ok.mks od (List.mem_of_getElem? eo)
    refine ⟨p, _, w', _, rfl, O2, oko.line el e, Nat.lt_of_le_of_lt mk hz, fun H3 O3 b3 => ?_⟩
    walk_at "rd"
    refine r_mk (by simp) fun t4 ht4 => ?_
    walk_at "rd"
    refine r_mk (by simp) fun r5 hr5 => ?_
    exact one_end h ep s1 O3 ((b2.mono fun a z => OL.foot_las z).trans (b3.mono fun a z => OL.foot_lm z)) ht4 hr5 (k _ _ rfl)
  · obtain ⟨t, rfl, ht⟩ := hd
    walk_at "rd"
    refine r_m hb (no_Book_order_of _ _) ?_
    walk_at "rd"
    refine r_ixT (SqT.of ht) (atI_get (j := 1) rfl rfl) ?_
    walk_at "rd"
    change (∀ e, stepMo B.each w' o n = .error e → _) at kE
    change (∀ es cs, stepMo B.each w' o n = .ok (es, cs) → _) at k
    unfold stepMo at kE k
    refine ⟨b, B, L, o, rfl, h, fun c => kE .noOrder (by rw [at_none c]) _ (Same.refl _), fun j p od ej ep eo => ?_⟩
    subst ej
    rw [at_some eo] at kE k
    dsimp only at kE k
    have O := h.od j p od ep eo
    obtain ⟨do_, ho⟩ := O.ob
    have oko := ok.od od (List.mem_of_getElem? eo)
    have mk := ok.mks od (List.mem_of_getElem? eo)
    walk_at "rd"
    refine ⟨_, _, rfl, .inr (SqT.of ht), ?_⟩
    walk_at "rd"
    refine r_itz (show ¬ ((3 : Nat) : Int) = 4 by decide) ?_
    walk_at "rd"
    refine ⟨_, _, rfl, .inr (SqT.of ht), ?_⟩
    walk_at "rd"
    refine r_ixT (SqT.of ht) (atI_get (j := 2) rfl rfl) ?_
    walk_at "rd"
    refine r_m hb (no_Book_need_number _ _) ?_
    walk_at "rd"
    refine ⟨_, n, rfl, fun c => kE .noNumber (by rw [if_pos c]) _ (Same.refl _), fun c => ?_⟩
    rw [if_neg c] at kE k
    walk_at "rd"
    refine r_m ho (no_Order_owing _ _ _) ?_
    walk_at "rd"
    refine ⟨p, od, rfl, O, oko, fun H1 s1 => ?_⟩
    walk_at "rd"
    refine ⟨_, _, rfl, .inr (SqT.of (s1 _ _ ht)), ?_⟩
    walk_at "rd"
    refine r_itz (show ¬ ((3 : Nat) : Int) = 4 by decide) ?_
    have O1 := O.same s1
    walk_at "rd"
    refine r_ixT (SqT.of (s1 _ _ ht)) (atI_get (j := 0) rfl rfl) ?_
    walk_at "rd"
    refine r_itd (fun cw => ?_) (fun cw => ?_)
    · rw [if_pos cw] at k
      walk_at "rd"
      refine r_m (s1 _ _ ho) (no_Order_take _ _ _) ?_
      walk_at "rd"
      refine ⟨p, od, n, rfl, O1, fun H2 O2 b2 => ?_⟩
      obtain ⟨do2, ho2⟩ := O2.ob
      walk_at "rd"
      have ht2 : H2 t = some (.tup [.str w', .int (j : Int), .int n]) := b2.tup _ _ (s1 _ _ ht)
      refine r_ixT (SqT.of ht2) (atI_get (j := 1) rfl rfl) ?_
      walk_at "rd"
      refine r_m ho2 (no_Order_mark _ _ _) ?_
      walk_at "rd"
      refine r_ixT (SqT.of ht2) (atI_get (j := 0) rfl rfl) ?_
      walk_at "rd"
      refine ⟨p, _, w', _, rfl, O2, oko.pay, Nat.lt_of_le_of_lt mk hz, fun H3 O3 b3 => ?_⟩
      walk_at "rd"
      refine r_mk (by simp) fun t4 ht4 => ?_
      walk_at "rd"
      refine r_mk (by simp) fun r5 hr5 => ?_
      exact one_end h ep s1 O3 ((b2.mono fun a z => OL.foot_o z).trans (b3.mono fun a z => OL.foot_lm z)) ht4 hr5 (k _ _ rfl)
    · rw [if_neg cw] at kE k
      walk_at "rd"
      refine r_m (s1 _ _ ho) (no_Order_need_over _ _ _) ?_
      walk_at "rd"
      refine ⟨p, od, n, rfl, O1, oko, fun c2 H2 s2 => kE .tooMuch (by rw [if_pos c2]) _ (s1.trans s2), fun c2 H2 s2 => ?_⟩
      rw [if_neg c2] at k
      walk_at "rd"
      refine r_m (s2 _ _ (s1 _ _ ho)) (no_Order_take _ _ _) ?_
      walk_at "rd"
      refine ⟨p, od, -n, rfl, O1.same s2, fun H3 O3 b3 => ?_⟩
      obtain ⟨do3, ho3⟩ := O3.ob
      walk_at "rd"
      have ht3 : H3 t = some (.tup [.str w', .int (j : Int), .int n]) := b3.tup _ _ (s2 _ _ (s1 _ _ ht))
      refine r_ixT (SqT.of ht3) (atI_get (j := 1) rfl rfl) ?_
      walk_at "rd"
      refine r_m ho3 (no_Order_mark _ _ _) ?_
      walk_at "rd"
      refine r_ixT (SqT.of ht3) (atI_get (j := 0) rfl rfl) ?_
      walk_at "rd"
      refine ⟨p, _, w', _, rfl, O3, oko.pay, Nat.lt_of_le_of_lt mk hz, fun H4 O4 b4 => ?_⟩
      walk_at "rd"
      refine r_mk (by simp) fun t4 ht4 => ?_
      walk_at "rd"
      refine r_mk (by simp) fun r5 hr5 => ?_
      exact one_end h ep (s1.trans s2) O4 ((b3.mono fun a z => OL.foot_o z).trans (b4.mono fun a z => OL.foot_lm z)) ht4 hr5 (k _ _ rfl)

/-! ### a move -/
theorem Stay.of {H H' : Hp} (s : Same H H') : Stay H H' := fun _ e => Same.free s e
theorem Stay.trans {H H1 H2 : Hp} (a : Stay H H1) (b : Stay H1 H2) : Stay H H2 := fun x e => a x (b x e)
def spBookShift (K : PySem.W.Frag) : Sp := fun vs H Q E => ∃ (b : Addr) (B : Bk) (L : Lay) (v : V) (o p n : Int), vs = [.ref b, v] ∧ BookAt K H b B L ∧ B.ok ∧ B.trail.length < 100000 ∧ DdAt (fun _ => True) H v (.mv o p n) ∧
  OneK K b B L H (stepMv B.each o p n) Q E
theorem len_BookShift {K : PySem.W.Frag} {vs : List V} {H : Hp} {Q : VK} {E : XK} (h : spBookShift K vs H Q E) : vs.length = 2 := by
  obtain ⟨_, _, _, _, _, _, _, rfl, _⟩ := h; rfl
theorem ok_BookShift {P : Program} {w : World} {K : PySem.W.Frag} {mg : Str → Option Value} {base : Heap} (T : Tx w K mg) : FnOk P w K mg base (L2.CX P w) 6 (He.fAd K dBookShift.at_) (fdO K dBookShift.at_) P_BookShift (spBookShift K) := by
  refine T.f_BookShift.ok sc_BookShift (fun vs H Q E h => len_BookShift h) (fun cdv A outer s H vs Q E hr h => ⟨_, ((pss_cons (ps_set (i := 2) sc_BookShift.nd rfl (Or.inl rfl) (pe_meth (pv 0) T.cl_Book T.m_Book_order_of (ok_BookOrderOf T) (hr.mono (by decide)) T.b_BookOrderOf .nil (passes_call (takes_of rfl rfl rfl rfl) (fun _ _ _ _ h => h)) (pa_cons (pe_ix ix_tup (pv 1) pe_int (fun _ _ => rfl)) pa_nil)))
      (pss_cons (ps_set (i := 3) sc_BookShift.nd rfl (Or.inl rfl) (pe_meth (pv 0) T.cl_Book T.m_Book_order_of (ok_BookOrderOf T) (hr.mono (by decide)) T.b_BookOrderOf .nil (passes_call (takes_of rfl rfl rfl rfl) (fun _ _ _ _ h => h)) (pa_cons (pe_ix ix_tup (pv 1) pe_int (fun _ _ => rfl)) pa_nil)))
      (pss_cons (ps_if (pt_cmpR op_eq (pe_ix ix_tup (pv 1) pe_int (fun _ _ => rfl)) (pe_ix ix_tup (pv 1) pe_int (fun _ _ => rfl)) (nomark _)) (pss_one (ps_raise rfl (takes_of rfl rfl rfl rfl) (pmk_own PySem.F.excBase_ValueError T.x_SameOrder.1 T.g_SameOrder T.x_SameOrder.2.1 (raises_own T.x_SameOrder.2.2.1 T.x_SameOrder.2.2.2) rfl))) pss_nil)
      (pss_cons (ps_expr (pe_meth (pv 0) T.cl_Book T.m_Book_need_number (ok_BookNeedNumber T) (hr.mono (by decide)) T.b_BookNeedNumber .nil (passes_call (takes_of rfl rfl rfl rfl) (fun _ _ _ _ h => h)) (pa_cons (pe_ix ix_tup (pv 1) pe_int (fun _ _ => rfl)) pa_nil)))
      (pss_cons (ps_expr (pe_meth (pv 2) T.cl_Order T.m_Order_need_over (ok_OrderNeedOver T) (hr.mono (by decide)) T.b_OrderNeedOver .nil (passes_call (takes_of rfl rfl rfl rfl) (fun _ _ _ _ h => h)) (pa_cons (pe_ix ix_tup (pv 1) pe_int (fun _ _ => rfl)) pa_nil)))
      (pss_cons (ps_set (i := 4) sc_BookShift.nd rfl (Or.inl rfl) (pe_lst (pa_cons (pe_meth0 (pv 2) T.cl_Order T.m_Order_owing (ok_OrderOwing T) (hr.mono (by decide)) T.b_OrderOwing .nil pass0) (pa_cons (pe_meth0 (pv 3) T.cl_Order T.m_Order_owing (ok_OrderOwing T) (hr.mono (by decide)) T.b_OrderOwing .nil pass0) pa_nil))))
      (pss_cons (ps_expr (pe_meth (pv 2) T.cl_Order T.m_Order_take (ok_OrderTake T) (hr.mono (by decide)) T.b_OrderTake .nil pass0 (pa_cons (pe_un un_neg (pe_ix ix_tup (pv 1) pe_int (fun _ _ => rfl))) pa_nil)))
      (pss_cons (ps_expr (pe_meth (pv 3) T.cl_Order T.m_Order_take (ok_OrderTake T) (hr.mono (by decide)) T.b_OrderTake .nil pass0 (pa_cons (pe_ix ix_tup (pv 1) pe_int (fun _ _ => rfl)) pa_nil)))
      (pss_one (ps_ret (pe_lst (pa_cons (pe_tup (pa_cons (pe_ix ix_tup (pv 1) pe_int (fun _ _ => rfl)) (pa_cons (pe_meth (pv 2) T.cl_Order T.m_Order_mark (ok_OrderMark T) (hr.mono (by decide)) T.b_OrderMark .nil pass0 (pa_cons pe_str (pa_cons (pe_ix ix_list (pv 4) pe_int (fun _ _ => rfl)) pa_nil))) pa_nil))) (pa_cons (pe_tup (pa_cons (pe_ix ix_tup (pv 1) pe_int (fun _ _ => rfl)) (pa_cons (pe_meth (pv 3) T.cl_Order T.m_Order_mark (ok_OrderMark T) (hr.mono (by decide)) T.b_OrderMark .nil pass0 (pa_cons pe_str (pa_cons (pe_ix ix_list (pv 4) pe_int (fun _ _ => rfl)) pa_nil))) pa_nil))) pa_nil)))))))))))))), ?_⟩)
  obtain ⟨b, B, L, v, o, p, n, rfl, h, ok, hz, ⟨t, rfl, ht⟩, kE, k⟩ := h
  obtain ⟨dx, hb⟩ := h.ob
  unfold stepMv at kE k
  walk_at "rd"
  refine r_m hb (no_Book_order_of _ _) ?_
  walk_at "rd"
  refine r_ixT (SqT.of ht) (atI_get (j := 1) rfl rfl) ?_
  walk_at "rd"
  refine ⟨b, B, L, o, rfl, h, fun c => kE .noOrder (by rw [at_none c]) _ (Same.refl _), fun i p1 od1 ei ep1 eo1 => ?_⟩
  subst ei
  rw [at_some eo1] at kE k
  dsimp only at kE k
  walk_at "rd"
  refine r_m hb (no_Book_order_of _ _) ?_
  walk_at "rd"
  refine r_ixT (SqT.of ht) (atI_get (j := 2) rfl rfl) ?_
  walk_at "rd"
  refine ⟨b, B, L, p, rfl, h, fun c => kE .noOrder (by rw [at_none c]) _ (Same.refl _), fun j p2 od2 ej ep2 eo2 => ?_⟩
  subst ej
  rw [at_some eo2] at kE k
  dsimp only at kE k
  walk_at "rd"
  refine r_ixT (SqT.of ht) (atI_get (j := 1) rfl rfl) ?_
  walk_at "rd"
  refine r_ixT (SqT.of ht) (atI_get (j := 2) rfl rfl) ?_
  walk_at "rd"
  refine r_itd (fun c => kE .sameOrder (by rw [if_pos c]) _ (Same.refl _)) (fun c => ?_)
  rw [if_neg c] at kE k
  have hij : i ≠ j := fun z => c (by rw [z])
  have O1 := h.od i p1 od1 ep1 eo1
  have O2 := h.od j p2 od2 ep2 eo2
  obtain ⟨d1, ho1⟩ := O1.ob
  obtain ⟨d2, ho2⟩ := O2.ob
  have ok1 := ok.od od1 (List.mem_of_getElem? eo1)
  have ok2 := ok.od od2 (List.mem_of_getElem? eo2)
  have mk1 := Nat.lt_of_le_of_lt (ok.mks od1 (List.mem_of_getElem? eo1)) hz
  have mk2 := Nat.lt_of_le_of_lt (ok.mks od2 (List.mem_of_getElem? eo2)) hz
  walk_at "rd"
  refine r_m hb (no_Book_need_number _ _) ?_
  walk_at "rd"
  refine r_ixT (SqT.of ht) (atI_get (j := 3) rfl rfl) ?_
  walk_at "rd"
  refine ⟨_, n, rfl, fun c => kE .noNumber (by rw [if_pos c]) _ (Same.refl _), fun c => ?_⟩
  rw [if_neg c] at kE k
  walk_at "rd"
  refine r_m ho1 (no_Order_need_over _ _ _) ?_
  walk_at "rd"
  refine r_ixT (SqT.of ht) (atI_get (j := 3) rfl rfl) ?_
  walk_at "rd"
  refine ⟨p1, od1, n, rfl, O1, ok1, fun c2 H2 s2 => kE .tooMuch (by rw [if_pos c2]) _ s2, fun c2 H1 s1 => ?_⟩
  rw [if_neg c2] at k
  walk_at "rd"
  refine r_m (s1 _ _ ho1) (no_Order_owing _ _ _) ?_
  walk_at "rd"
  refine ⟨p1, od1, rfl, O1.same s1, ok1, fun H2 s2 => ?_⟩
  walk_at "rd"
  have s12 := s1.trans s2
  refine r_m (s12 _ _ ho2) (no_Order_owing _ _ _) ?_
  walk_at "rd"
  refine ⟨p2, od2, rfl, O2.same s12, ok2, fun H3 s3 => ?_⟩
  walk_at "rd"
  have s13 := s12.trans s3
  refine r_mk (by simp) fun a ha => ?_
  have s14 : Same H (upd H3 a (.lst [.int od1.owing, .int od2.owing])) := s13.trans (same_upd ha)
  have h4 := h.same s14
  have la4 : upd H3 a (.lst [.int od1.owing, .int od2.owing]) a = some (.lst [.int od1.owing, .int od2.owing]) := upd_same
  have aH : H a = none := Same.free s13 ha
  have af : ∀ {q : OL} {m : Nat}, L.ords[m]? = some q → ¬ q.foot a := fun {q m} e f => by
    have z := h.ro m q e a f
    rw [h.fresh aH] at z
    cases z
  revert h4 la4 s14
  generalize upd H3 a (.lst [.int od1.owing, .int od2.owing]) = H4
  intro s14 h4 la4
  walk_at "rd"
  refine r_m (s14 _ _ ho1) (no_Order_take _ _ _) ?_
  walk_at "rd"
  refine r_ixT (SqT.of (s14 _ _ ht)) (atI_get (j := 3) rfl rfl) ?_
  walk_at "rd"
  refine ⟨p1, od1, -n, rfl, h4.od i p1 od1 ep1 eo1, fun H5 O5 b5 => ?_⟩
  have b5' : But p1.foot H4 H5 := b5.mono fun x z => OL.foot_o z
  have h5 := h4.one ep1 O5 b5' O5.dom
  have t5 := b5.tup _ _ (s14 _ _ ht)
  have la5 := b5'.keep _ _ la4 (af ep1)
  have O52 := h5.od j p2 od2 ep2 (by
    show (B.each.set i _)[j]? = _
    rw [List.getElem?_set_ne hij]; exact eo2)
  obtain ⟨d52, ho52⟩ := O52.ob
  walk_at "rd"
  refine r_m ho52 (no_Order_take _ _ _) ?_
  walk_at "rd"
  refine r_ixT (SqT.of t5) (atI_get (j := 3) rfl rfl) ?_
  walk_at "rd"
  refine ⟨p2, od2, n, rfl, O52, fun H6 O6 b6 => ?_⟩
  have b6' : But p2.foot H5 H6 := b6.mono fun x z => OL.foot_o z
  have h6 := h5.one ep2 O6 b6' O6.dom
  have t6 := b6.tup _ _ t5
  have la6 := b6'.keep _ _ la5 (af ep2)
  have li : i < B.each.length := (List.getElem?_eq_some_iff.mp eo1).1
  have lj : j < B.each.length := (List.getElem?_eq_some_iff.mp eo2).1
  have O61 := h6.od i p1 { od1 with money := od1.money + -n } ep1 (by
    show ((B.each.set i _).set j _)[i]? = _
    rw [List.getElem?_set_ne (Ne.symm hij), List.getElem?_set_self li])
  obtain ⟨d61, ho61⟩ := O61.ob
  walk_at "rd"
  refine r_ixT (SqT.of t6) (atI_get (j := 1) rfl rfl) ?_
  walk_at "rd"
  refine r_m ho61 (no_Order_mark _ _ _) ?_
  walk_at "rd"
  refine r_ixL (SqL.of la6) (atI_get (j := 0) rfl rfl) ?_
  walk_at "rd"
  refine ⟨p1, _, "move", _, rfl, O61, ok1.pay, mk1, fun H7 O7 b7 => ?_⟩
  have b7' : But p1.foot H6 H7 := b7.mono fun x z => OL.foot_lm z
  have h7 := h6.one ep1 O7 b7' O7.dom
  have t7 := b7.tup _ _ t6
  have la7 := b7'.keep _ _ la6 (af ep1)
  walk_at "rd"
  refine r_mk (by simp) fun t1 ht1 => ?_
  have s8 := same_upd (o := .tup [.int (i : Int), .int (Od.owing { od1 with money := od1.money + -n } - od1.owing)]) ht1
  have e1 : upd H7 t1 (.tup [.int (i : Int), .int (Od.owing { od1 with money := od1.money + -n } - od1.owing)]) t1 = some (.tup [.int (i : Int), .int (Od.owing { od1 with money := od1.money + -n } - od1.owing)]) := upd_same
  have h8 := h7.same s8
  revert e1 h8 s8
  generalize upd H7 t1 (.tup [.int (i : Int), .int (Od.owing { od1 with money := od1.money + -n } - od1.owing)]) = H8
  intro s8 e1 h8
  walk_at "rd"
  refine r_ixT (SqT.of (s8 _ _ t7)) (atI_get (j := 2) rfl rfl) ?_
  walk_at "rd"
  have O82 := h8.od j p2 { od2 with money := od2.money + n } ep2 (by
    show (((B.each.set i _).set j _).set i _)[j]? = _
    rw [List.getElem?_set_ne hij, List.getElem?_set_self (by simpa using lj)])
  obtain ⟨d82, ho82⟩ := O82.ob
  refine r_m ho82 (no_Order_mark _ _ _) ?_
  walk_at "rd"
  refine r_ixL (SqL.of (s8 _ _ la7)) (atI_get (j := 1) rfl rfl) ?_
  walk_at "rd"
  refine ⟨p2, _, "move", _, rfl, O82, ok2.pay, mk2, fun H9 O9 b9 => ?_⟩
  have b9' : But p2.foot H8 H9 := b9.mono fun x z => OL.foot_lm z
  have h9 := h8.one ep2 O9 b9' O9.dom
  have e9 := b9.tup _ _ e1
  walk_at "rd"
  refine r_mk (by simp) fun t2 ht2 => ?_
  walk_at "rd"
  refine r_mk (by simp) fun r hr => ?_
  obtain ⟨rt, hr9⟩ := upd_none hr
  have s10 := (same_upd (o := .tup [.int (j : Int), .int (Od.owing { od2 with money := od2.money + n } - od2.owing)]) ht2).trans (same_upd (o := .lst [.ref t1, .ref t2]) hr)
  have f1 := h.footOf ep1
  have f2 := h.footOf ep2
  have bt : But L.foot H H9 := (((((But.of s14).trans (b5'.mono f1)).trans (b6'.mono f2)).trans (b7'.mono f1)).trans (But.of s8)).trans (b9'.mono f2)
  have st : Stay H H9 := ((((Stay.of s14).trans (b5'.stay O5)).trans (b6'.stay O6)).trans (b7'.stay O7)).trans ((Stay.of s8).trans (b9'.stay O9))
  refine k _ _ rfl r _ ?_ (bt.trans (But.of s10)) (st.trans (Stay.of s10)) (st _ hr9) ⟨_, upd_same, .cons ⟨t1, rfl, s10 _ _ e9⟩ (.cons ⟨t2, rfl, ?_⟩ .nil)⟩
  · have h10 := h9.same s10
    have e : ((((B.each.set i { od1 with money := od1.money + -n }).set j { od2 with money := od2.money + n }).set i { { od1 with money := od1.money + -n } with marks := od1.marks ++ [(("move" : Str), Od.owing { od1 with money := od1.money + -n } - od1.owing)] }).set j
        { { od2 with money := od2.money + n } with marks := od2.marks ++ [(("move" : Str), Od.owing { od2 with money := od2.money + n } - od2.owing)] }) =
        (B.each.set i (Od.mark (od1.pay (-n)) "move" ((od1.pay (-n)).owing - od1.owing))).set j (Od.mark (od2.pay n) "move" ((od2.pay n).owing - od2.owing)) := by
      rw [List.set_comm _ _ hij, List.set_set, List.set_comm _ _ (Ne.symm hij), List.set_set]
      rfl
    rw [← e]
    exact h10
  · rw [upd_ne (Ne.symm rt)]
    exact upd_same

/-! ### the words of deeds -/
theorem key_at {es : List DictEntry} {w : World} {ks : List Str} (h : es.map He.keyOf = He.keysIn w.params ks) : ∀ e, e ∈ es → ∃ k t, k ∈ ks ∧ e.key = .str k t := by
  intro e he
  have hm : He.keyOf e ∈ He.keysIn w.params ks := by
    rw [← h]
    exact List.mem_map_of_mem he
  unfold He.keysIn at hm
  obtain ⟨k, hk, e1⟩ := List.mem_map.mp hm
  unfold He.keyOf at e1
  split at e1
  · rename_i x t q
    have e2 := congrArg Prod.fst (Option.some.inj e1)
    have e3 : k = x := e2
    subst e3
    exact ⟨k, t, hk, q⟩
  · cases e1
theorem lookup_mem {ks : List (Str × Int)} {z : Str} {n : Int} (h : ks.lookup z = some n) : (z, n) ∈ ks := by
  induction ks with
  | nil => cases h
  | cons a r ih =>
    obtain ⟨k, m⟩ := a
    rw [List.lookup_cons] at h
    by_cases c : z = k
    · subst c
      rw [beq_self_eq_true] at h
      cases h
      exact List.mem_cons_self
    · have q : (z == k) = false := by simpa using c
      rw [q] at h
      exact List.mem_cons_of_mem _ (ih h)
theorem lookup_no {ks : List (Str × Int)} {z : Str} (h : ks.lookup z = none) : ¬ z ∈ ks.map (·.1) := by
  induction ks with
  | nil => simp
  | cons a r ih =>
    obtain ⟨k, m⟩ := a
    rw [List.lookup_cons] at h
    by_cases c : z = k
    · subst c
      rw [beq_self_eq_true] at h
      cases h
    · have q : (z == k) = false := by simpa using c
      rw [q] at h
      intro hm
      rcases List.mem_cons.mp hm with e | e
      · exact c e
      · exact ih h e
theorem Tx.pt {w : World} {K : PySem.W.Frag} {mg : Str → Option Value} (T : Tx w K mg) (z : Str) :
    (∃ n, parts.lookup z = some n ∧ ∃ u, PySem.W.nsIn K (He.ga K "PARTS") z = some (some u) ∧ RelV (.int n) u) ∨ (parts.lookup z = none ∧ PySem.W.nsIn K (He.ga K "PARTS") z = some none) := by
  cases e : parts.lookup z with
  | some n =>
    refine .inl ⟨n, rfl, ?_⟩
    have hm : (z, He.Dv.int n) ∈ parts.map fun p => (p.1, He.Dv.int p.2) := List.mem_map.mpr ⟨(z, n), lookup_mem e, rfl⟩
    exact He.valsB_ok T.kv hm
  | none =>
    refine .inr ⟨rfl, ?_⟩
    obtain ⟨es, m, lk, lit, ky, low⟩ := T.kd
    have hk := key_at ky
    have no := lookup_no e
    unfold PySem.W.nsIn
    rw [lk]
    have f : es.toList.find? (fun e => e.key.isStr z) = none := by
      rw [List.find?_eq_none]
      intro d hd
      obtain ⟨k, t, hm, q⟩ := hk d hd
      rw [q]
      show ¬ (k == z) = true
      intro y
      have y2 : k = z := by simpa using y
      rw [← y2] at no
      exact no hm
    have g : es.toList.any (fun e => e.refKey) = false := by
      rw [List.any_eq_false]
      intro d hd
      obtain ⟨k, t, hm, q⟩ := hk d hd
      simp [DictEntry.refKey, q]
    dsimp only
    rw [f]
    dsimp only
    rw [g]
    rfl
section
variable {X : Cx} {d : Addr} {ks : List Str}
theorem op_notIn_pt (D : ∃ es n, X.K.lookup d = some ⟨.type "dict", none, .dict es n, #[]⟩ ∧ PySem.W.KeysLit X.w.params es.toList ∧ es.toList.map He.keyOf = He.keysIn X.w.params ks ∧ (d == sysModules) = false) :
    OpR X (compareOp .NotIn) (fun x y H Q => ∃ (z : Str) (r : Option Value), x = .str z ∧ y = .ref d ∧ PySem.W.nsIn X.K d z = some r ∧ Q (.bl (!r.isSome)) H) := by
  obtain ⟨es, n, h1, h2, _, h4⟩ := D
  exact op_notIn_kd ⟨h1, h2, h4⟩
end
/-- not a deed -/
def Bad (xs : List V) : Prop := xs = [] ∨ ∃ w r, xs = .str w :: r ∧ parts.lookup w ≠ some (xs.length : Int)
theorem dd_parts {d : Dd} (g : d.good) {F : Addr → Prop} {H : Hp} {v : V} (h : DdAt F H v d) : ∃ t w r, v = .ref t ∧ H t = some (.tup (.str w :: r)) ∧ parts.lookup w = some (((V.str w :: r).length : Nat) : Int) := by
  cases d with
  | ord ls =>
    obtain ⟨t, l, xs, e, ht, _⟩ := h
    exact ⟨t, _, _, e, ht, by show parts.lookup ("order" : Str) = some 2; decide +kernel⟩
  | ln w o l n =>
    obtain ⟨t, e, ht⟩ := h
    refine ⟨t, _, _, e, ht, ?_⟩
    show parts.lookup w = some 4
    rcases g with rfl | rfl | rfl | rfl <;> decide +kernel
  | mo w o n =>
    obtain ⟨t, e, ht⟩ := h
    refine ⟨t, _, _, e, ht, ?_⟩
    show parts.lookup w = some 3
    rcases g with rfl | rfl <;> decide +kernel
  | mv o p n =>
    obtain ⟨t, e, ht⟩ := h
    exact ⟨t, _, _, e, ht, by show parts.lookup ("move" : Str) = some 4; decide +kernel⟩
/-! ### the trail -/
noncomputable def Lay.log (L : Lay) (P : Addr → Prop) : Lay := ⟨L.each, L.trail, L.ords, fun a => @ite _ (P a) (Classical.propDecidable _) .deed (L.own a)⟩
theorem Lay.log_in {L : Lay} {P : Addr → Prop} {a : Addr} (h : P a) : (L.log P).own a = .deed := @if_pos _ (Classical.propDecidable _) h _ _ _
theorem Lay.log_out {L : Lay} {P : Addr → Prop} {a : Addr} (h : ¬ P a) : (L.log P).own a = L.own a := @if_neg _ (Classical.propDecidable _) h _ _ _
/-- the list that a deed holds -/
theorem DdAt.list {F : Addr → Prop} {H : Hp} {v : V} {d : Dd} (h : DdAt F H v d) : ∃ P : Addr → Prop, DdAt P H v d ∧ ∀ a, P a → F a ∧ ∃ xs, H a = some (.lst xs) := by
  cases d with
  | ord ls => obtain ⟨t, l, xs, e, h1, h2, f, q⟩ := h; exact ⟨(· = l), ⟨t, l, xs, e, h1, h2, rfl, q⟩, fun a z => by have z' : a = l := z; rw [z']; exact ⟨f, xs, h2⟩⟩
  | ln w o l n => exact ⟨fun _ => False, h, fun _ z => z.elim⟩
  | mo w o n => exact ⟨fun _ => False, h, fun _ z => z.elim⟩
  | mv o p n => exact ⟨fun _ => False, h, fun _ z => z.elim⟩
theorem BookAt.log {K : PySem.W.Frag} {H H2 : Hp} {b : Addr} {B : Bk} {L : Lay} {v : V} {d : Dd} {ts : List V} (h : BookAt K H b B L) (s : Same H H2) (hd : DdAt (fun a => H a = none) H2 v d) (ht : H2 L.trail = some (.lst ts)) :
    ∃ L', BookAt K (upd H2 L.trail (.lst (ts ++ [v]))) b { B with trail := B.trail ++ [d] } L' ∧ Mod L L' H (upd H2 L.trail (.lst (ts ++ [v]))) ∧ ∀ a, H a ≠ none → L'.own a = L.own a := by
  obtain ⟨P, hP, hF⟩ := hd.list
  have own : ∀ a, H a ≠ none → (L.log P).own a = L.own a := fun a z => Lay.log_out fun p => z (hF a p).1
  have own2 : ∀ a, L.own a ≠ .no → (L.log P).own a = L.own a := fun a z => own a fun q => z (h.fresh q)
  have z1 : ∀ {r : Role} {a : Addr}, L.own a = r → r ≠ .no → (L.log P).own a = r := fun {r a} e n => by
    rw [own2 a (by rw [e]; exact n), e]
  have bt : But (· = L.trail) H (upd H2 L.trail (.lst (ts ++ [v]))) := (But.of s).trans (But.lst ht rfl)
  have bt2 : But (· = L.trail) H2 (upd H2 L.trail (.lst (ts ++ [v]))) := But.lst ht rfl
  have nt : ∀ a, L.own a ≠ .trail → ¬ a = L.trail := fun a z y => z (by rw [y]; exact h.rt)
  obtain ⟨ts0, e0, q0⟩ := h.tr
  have ets : ts0 = ts := by
    have z := s _ _ e0
    rw [ht] at z
    cases z
    rfl
  subst ets
  refine ⟨L.log P, ⟨?_, z1 h.rb (by intro q; cases q), bt.keep _ _ h.ev (nt L.each (by rw [h.re]; intro q; cases q)), z1 h.re (by intro q; cases q), ⟨_, upd_same, ?_⟩, z1 h.rt (by intro q; cases q), h.len, fun j p o e1 e2 => ?_, fun j p e1 a f => z1 (h.ro j p e1 a f) (by intro q; cases q), fun a z => ?_⟩,
    ⟨bt.mono fun a y => ?_, fun a z => ?_⟩, own⟩
  · obtain ⟨dx, e⟩ := h.ob
    exact ⟨dx, bt.keep _ _ e (nt _ (by rw [h.rb]; intro q; cases q))⟩
  · refine Paired.snoc (Paired.mapP q0 fun _ _ z => (z.keep bt fun a f => nt a (by rw [f]; intro q; cases q)).imp fun a f _ => z1 f (by intro q; cases q)) ?_
    refine (hP.keep bt2 fun a p y => ?_).imp fun a p _ => Lay.log_in p
    have y' : a = L.trail := y
    have q := (hF a p).1
    rw [y', e0] at q
    cases q
  · exact (h.od j p o e1 e2).keep bt fun a f => nt a (by rw [h.ro j p e1 a f]; intro q; cases q)
  · by_cases p : P a
    · obtain ⟨_, xs, e⟩ := hF a p
      by_cases y : a = L.trail
      · exact ⟨_, by rw [y]; exact upd_same⟩
      · exact ⟨_, bt2.keep _ _ e y⟩
    · rw [Lay.log_out p] at z
      by_cases y : a = L.trail
      · exact ⟨_, by rw [y]; exact upd_same⟩
      · obtain ⟨o, e⟩ := h.dom a z
        exact ⟨o, bt.keep _ _ e y⟩
  · have y' : a = L.trail := y
    show L.own a ≠ .no
    rw [y', h.rt]
    intro q
    cases q
  · by_cases p : P a
    · exact .inr (hF a p).1
    · rw [Lay.log_out p] at z
      exact .inl z
/-! ### do -/
theorem set_mem {α : Type} {l : List α} {i : Nat} {a x : α} (h : x ∈ l.set i a) : x ∈ l ∨ x = a := List.mem_or_eq_of_mem_set h
theorem firstErr_ok {ls : List Lt} (h : firstErr ls = none) : ∀ t, t ∈ ls → numOk t := by
  unfold firstErr at h
  rw [List.findSome?_eq_none_iff] at h
  intro t ht
  have q := h t ht
  unfold ltCheck at q
  split at q
  · split at q
    · assumption
    · cases q
  · cases q
theorem step_ok {B : Bk} {d : Dd} {es : List Od} {cs : List (Int × Int)} (ok : B.ok) (g : d.good) (e : step B.each d = .ok (es, cs)) : Bk.ok ⟨es, B.trail ++ [d]⟩ := by
  have good : ∀ x, x ∈ B.trail ++ [d] → x.good := fun x hx => by
    rcases List.mem_append.mp hx with h | h
    · exact ok.good x h
    · have z : x = d := by simpa using h
      rw [z]; exact g
  have len : (B.trail ++ [d]).length = B.trail.length + 1 := by simp
  have up : ∀ o, o ∈ B.each → o.marks.length ≤ (B.trail ++ [d]).length := fun o h => by
    have := ok.mks o h
    omega
  have mk : ∀ {o : Od} {w : Str} {c : Int}, o.marks.length ≤ B.trail.length → (o.mark w c).marks.length ≤ (B.trail ++ [d]).length := fun {o w c} h => by
    show (o.marks ++ [(w, c)]).length ≤ _
    rw [len]
    simp
    exact h
  cases d with
  | ord ls =>
    have e' : stepOrd B.each ls = .ok (es, cs) := e
    unfold stepOrd at e'
    cases q : ordErr B.each.length ls with
    | some x => rw [q] at e'; cases e'
    | none =>
      rw [q] at e'
      cases e'
      unfold ordErr at q
      split at q
      · cases q
      rename_i hl
      have hl2 : 1 ≤ ls.length ∧ ls.length ≤ 20 := Decidable.byContradiction hl
      cases f : firstErr ls with
      | some x => rw [f] at q; cases q
      | none =>
        rw [f] at q
        have q2 : (if B.each.length = 40 then some Er.fullBook else none) = none := q
        have n40 : ¬ B.each.length = 40 := fun z => by rw [if_pos z] at q2; cases q2
        have fw := ok.few
        refine ⟨fun o ho => ?_, by show (B.each ++ [_]).length ≤ 40; simp; omega, fun o ho => ?_, good⟩
        · rcases List.mem_append.mp ho with h | h
          · exact ok.od o h
          · have z : o = ⟨ls.map Lt.ln, 0, []⟩ := by simpa using h
            subst z
            refine ⟨fun l hl => ?_, by simpa using hl2.2⟩
            obtain ⟨t, ht, rfl⟩ := List.mem_map.mp hl
            have n := firstErr_ok f t ht
            exact n.2
        · rcases List.mem_append.mp ho with h | h
          · exact up o h
          · have z : o = ⟨ls.map Lt.ln, 0, []⟩ := by simpa using h
            subst z
            exact Nat.zero_le _
  | ln w o l n =>
    have e' : stepLn B.each w o l n = .ok (es, cs) := e
    unfold stepLn at e'
    rcases at_or B.each o with ⟨q, _⟩ | ⟨j, od, rfl, eo, q⟩
    · rw [q] at e'; cases e'
    · rw [q] at e'
      dsimp only at e'
      rcases at_or od.lines l with ⟨q, _⟩ | ⟨i, x, rfl, el, q⟩
      · rw [q] at e'; cases e'
      · rw [q] at e'
        dsimp only at e'
        split at e'
        · cases e'
        cases et : x.turn w n with
        | none => rw [et] at e'; cases e'
        | some x' =>
          rw [et] at e'
          cases e'
          have mo := List.mem_of_getElem? eo
          refine ⟨fun u hu => ?_, by show (B.each.set _ _).length ≤ 40; simpa using ok.few, fun u hu => ?_, good⟩
          · rcases set_mem hu with h | h
            · exact ok.od u h
            · rw [h]; exact ((ok.od od mo).line el et).mark
          · rcases set_mem hu with h | h
            · exact up u h
            · rw [h]; exact mk (ok.mks od mo)
  | mo w o n =>
    have e' : stepMo B.each w o n = .ok (es, cs) := e
    unfold stepMo at e'
    rcases at_or B.each o with ⟨q, _⟩ | ⟨j, od, rfl, eo, q⟩
    · rw [q] at e'; cases e'
    · rw [q] at e'
      dsimp only at e'
      have mo := List.mem_of_getElem? eo
      have fin : ∀ m c, Bk.ok ⟨B.each.set j (Od.mark (od.pay m) w c), B.trail ++ [.mo w j n]⟩ := fun m c => by
        refine ⟨fun u hu => ?_, by show (B.each.set _ _).length ≤ 40; simpa using ok.few, fun u hu => ?_, good⟩
        · rcases set_mem hu with h | h
          · exact ok.od u h
          · rw [h]; exact (ok.od od mo).pay.mark
        · rcases set_mem hu with h | h
          · exact up u h
          · rw [h]; exact mk (o := od.pay m) (ok.mks od mo)
      split at e'
      · cases e'
      split at e'
      · cases e'; exact fin _ _
      split at e'
      · cases e'
      · cases e'; exact fin _ _
  | mv o p n =>
    have e' : stepMv B.each o p n = .ok (es, cs) := e
    unfold stepMv at e'
    rcases at_or B.each o with ⟨q, _⟩ | ⟨i, a, rfl, ea, q⟩
    · rw [q] at e'; cases e'
    · rw [q] at e'
      dsimp only at e'
      rcases at_or B.each p with ⟨q, _⟩ | ⟨j, b, rfl, eb, q⟩
      · rw [q] at e'; cases e'
      · rw [q] at e'
        dsimp only at e'
        have ma := List.mem_of_getElem? ea
        have mb := List.mem_of_getElem? eb
        split at e'
        · cases e'
        split at e'
        · cases e'
        split at e'
        · cases e'
        cases e'
        refine ⟨fun u hu => ?_, by show ((B.each.set _ _).set _ _).length ≤ 40; simpa using ok.few, fun u hu => ?_, good⟩
        · rcases set_mem hu with h | h
          · rcases set_mem h with h | h
            · exact ok.od u h
            · rw [h]; exact (ok.od a ma).pay.mark
          · rw [h]; exact (ok.od b mb).pay.mark
        · rcases set_mem hu with h | h
          · rcases set_mem h with h | h
            · exact up u h
            · rw [h]; exact mk (o := a.pay _) (ok.mks a ma)
          · rw [h]; exact mk (o := b.pay _) (ok.mks b mb)
/-- what a deed ends in -/
def DoK (K : PySem.W.Frag) (b : Addr) (B : Bk) (L : Lay) (H : Hp) (d : Dd) (Q : VK) (E : XK) : Prop :=
  (∀ e, step B.each d = .error e → ∀ H', Same H H' → E (errV K e) none H') ∧
  ∀ es cs, step B.each d = .ok (es, cs) → ∀ r L' H', BookAt K H' b ⟨es, B.trail ++ [d]⟩ L' → Mod L L' H H' → Stay H H' → H r = none → L'.own r = .no → ChAt H' r cs → Q (.ref r) H'
def Dd.few : Dd → Prop
  | .ord ls => ls.length ≤ 100000 ∧ ∀ t, t ∈ ls → t.item.length ≤ 100000
  | _ => True
def spBookDo (K : PySem.W.Frag) : Sp := fun vs H Q E => ∃ (b : Addr) (B : Bk) (L : Lay) (v : V), vs = [.ref b, v] ∧ BookAt K H b B L ∧ B.ok ∧ B.trail.length < 100000 ∧
  ((∃ d : Dd, DdAt (fun a => L.own a = .no) H v d ∧ d.good ∧ d.few ∧ DoK K b B L H d Q E) ∨ (∃ t xs, v = .ref t ∧ H t = some (.tup xs) ∧ Bad xs ∧ E (errV K .noDeed) none H))
theorem len_BookDo {K : PySem.W.Frag} {vs : List V} {H : Hp} {Q : VK} {E : XK} (h : spBookDo K vs H Q E) : vs.length = 2 := by
  obtain ⟨_, _, _, _, rfl, _⟩ := h; rfl
theorem ok_BookDo {P : Program} {w : World} {K : PySem.W.Frag} {mg : Str → Option Value} {base : Heap} (T : Tx w K mg) : FnOk P w K mg base (L2.CX P w) 7 (He.fAd K dBookDo.at_) (fdO K dBookDo.at_) P_BookDo (spBookDo K) := by
  refine T.f_BookDo.ok sc_BookDo (fun vs H Q E h => len_BookDo h) (fun cdv A outer s H vs Q E hr h => ⟨_, ((pss_cons (ps_if (PW.pt (pw_or (pt_cmpR op_eq (pe_callB call_len_seq (by rfl) T.b_len (by decide +kernel) (pa_cons (pv 1) pa_nil)) pe_int (nomark _)) (pw_or (pt_cmpR (op_notIn_pt T.kd) (pe_ix ix_tup (pv 1) pe_int (fun _ _ => rfl)) (pe_glob rfl T.c_PARTS (v := .ref (He.ga K "PARTS")) rfl) (by rfl)) (pw_or1 (pt_cmpR op_ne (pe_callB call_len_seq (by rfl) T.b_len (by decide +kernel) (pa_cons (pv 1) pa_nil)) (pe_ix ix_kdict (pe_glob rfl T.c_PARTS (v := .ref (He.ga K "PARTS")) rfl) (pe_ix ix_tup (pv 1) pe_int (fun _ _ => rfl)) (fun _ _ => rfl)) (nomark _)))))) (pss_one (ps_raise rfl (takes_of rfl rfl rfl rfl) (pmk_own PySem.F.excBase_ValueError T.x_NoDeed.1 T.g_NoDeed T.x_NoDeed.2.1 (raises_own T.x_NoDeed.2.2.1 T.x_NoDeed.2.2.2) rfl))) pss_nil)
      (pss_cons (ps_if (pt_cmpR op_eq (pe_ix ix_tup (pv 1) pe_int (fun _ _ => rfl)) pe_str (nomark _)) (pss_one (ps_set (i := 2) sc_BookDo.nd rfl (Or.inl rfl) (pe_meth (pv 0) T.cl_Book T.m_Book_begin (ok_BookBegin T) (hr.mono (by decide)) T.b_BookBegin .nil (passes_call (takes_of rfl rfl rfl rfl) (fun _ _ _ _ h => h)) (pa_cons (pe_ix ix_tup (pv 1) pe_int (fun _ _ => rfl)) pa_nil)))) (pss_one (ps_if (pt_cmpR op_eq (pe_ix ix_tup (pv 1) pe_int (fun _ _ => rfl)) pe_str (nomark _)) (pss_one (ps_set (i := 2) sc_BookDo.nd rfl (Or.inl rfl) (pe_meth (pv 0) T.cl_Book T.m_Book_shift (ok_BookShift T) (hr.mono (by decide)) T.b_BookShift .nil (passes_call (takes_of rfl rfl rfl rfl) (fun _ _ _ _ h => h)) (pa_cons (pv 1) pa_nil)))) (pss_one (ps_set (i := 2) sc_BookDo.nd rfl (Or.inl rfl) (pe_meth (pv 0) T.cl_Book T.m_Book_one (ok_BookOne T) (hr.mono (by decide)) T.b_BookOne .nil (passes_call (takes_of rfl rfl rfl rfl) (fun _ _ _ _ h => h)) (pa_cons (pv 1) pa_nil)))))))
      (pss_cons (ps_expr (pe_bm PySem.F.plainAttrs_list PySem.F.slot_list_append PySem.F.type_list_append mt_append (pe_fld (pv 0) rfl) (pa_cons (pe_call (ok_Own T) (hr.mono (by decide)) rfl T.g_Own T.f_Own.kp T.b_Own .nil pass0 (pa_cons (pv 1) pa_nil)) pa_nil)))
      (pss_one (ps_ret (pv 2))))))), ?_⟩)
  obtain ⟨b, B, L, v, rfl, h, ok, hz, hd⟩ := h
  obtain ⟨dx, hb⟩ := h.ob
  rcases hd with ⟨d, hd, g, few, kE, k⟩ | ⟨t, xs, rfl, ht, bad, kE⟩
  rotate_left
  · walk_at "rd"
    refine ⟨_, _, rfl, .inr (SqT.of ht), ?_⟩
    walk_at "rd"
    rcases bad with rfl | ⟨w', r, rfl, np⟩
    · refine r_ity rfl ?_
      walk_at "rd"
      exact kE
    · refine r_itz (by simp; omega) ?_
      walk_at "rd"
      refine r_ixT (SqT.of ht) (atI_get (j := 0) rfl rfl) ?_
      walk_at "rd"
      rcases T.pt w' with ⟨n, e1, u, e2, ru⟩ | ⟨e1, e2⟩
      · refine ⟨w', _, rfl, rfl, e2, ?_⟩
        walk_at "rd"
        refine r_itnT ?_
        walk_at "rd"
        refine ⟨_, _, rfl, .inr (SqT.of ht), ?_⟩
        walk_at "rd"
        refine r_ixT (SqT.of ht) (atI_get (j := 0) rfl rfl) ?_
        obtain ⟨es, m, lk, lit, ky, low⟩ := T.kd
        refine ⟨_, w', .int n, rfl, rfl, ⟨es, m, u, lk, lit, e2, ru⟩, ?_⟩
        walk_at "rd"
        refine r_itn (fun c => ?_) (fun c => absurd (by rw [e1, c]) np)
        exact kE
      · refine ⟨w', _, rfl, rfl, e2, ?_⟩
        walk_at "rd"
        exact kE
  obtain ⟨t, w', r, rfl, ht, hp⟩ := dd_parts g hd
  walk_at "rd"
  refine ⟨_, _, rfl, .inr (SqT.of ht), ?_⟩
  walk_at "rd"
  refine r_itz (by simp; omega) ?_
  walk_at "rd"
  refine r_ixT (SqT.of ht) (atI_get (j := 0) rfl rfl) ?_
  walk_at "rd"
  rcases T.pt w' with ⟨n, e1, u, e2, ru⟩ | ⟨e1, e2⟩
  rotate_left
  · rw [hp] at e1; cases e1
  have en : n = (((V.str w' :: r).length : Nat) : Int) := by
    rw [hp] at e1
    exact (Option.some.inj e1).symm
  refine ⟨w', _, rfl, rfl, e2, ?_⟩
  walk_at "rd"
  refine r_itnT ?_
  walk_at "rd"
  refine ⟨_, _, rfl, .inr (SqT.of ht), ?_⟩
  walk_at "rd"
  refine r_ixT (SqT.of ht) (atI_get (j := 0) rfl rfl) ?_
  obtain ⟨es0, m0, lk, lit, ky, low⟩ := T.kd
  refine ⟨_, w', .int n, rfl, rfl, ⟨es0, m0, u, lk, lit, e2, ru⟩, ?_⟩
  walk_at "rd"
  refine r_itn (fun c => absurd en.symm c) (fun c => ?_)
  walk_at "rd"
  refine r_ixT (SqT.of ht) (atI_get (j := 0) rfl rfl) ?_
  walk_at "rd"
  have fin : ∀ (L1 : Lay) (H1 : Hp) (es : List Od) (cs : List (Int × Int)) (x : Addr), step B.each d = .ok (es, cs) → BookAt K H1 b ⟨es, B.trail⟩ L1 → Mod L L1 H H1 → Stay H H1 → H x = none → L1.own x = .no → ChAt H1 x cs → DdAt (fun _ => True) H1 (.ref t) d →
      tSeq (tDrop (tBM K "list" rAppend (tFld K (tVar 0) "trail") (tCons (tCall (spOwn K) [] E0 (tCons (tVar 1) tNil)) tNil))) (tRet (tVar 2)) { nx := fun _ H' => Q .non H', rt := Q } [some (.ref b), some (.ref t), some (.ref x)] H1 := by
    intro L1 H1 es cs x e1 h1 m1 st hx ox ch hd1
    obtain ⟨d1, hb1⟩ := h1.ob
    obtain ⟨ts, et, pt⟩ := h1.tr
    walk_at "rd"
    refine r_f hb1 T.cl_Book T.n_Book_trail (lk_Book_trail _ _) ?_
    refine r_tyL (SqL.of et) ?_
    walk_at "rd"
    refine ⟨.ref t, d, rfl, hd1, g, fun ls q => by subst q; exact few.1, fun v3 H2 s2 hd2 => ?_⟩
    walk_at "rd"
    refine r_app (s2 _ _ et) (by rw [pt.length]; exact sz5l hz) ?_
    walk_at "rd"
    obtain ⟨L', h', m', own⟩ := h1.log s2 hd2 (s2 _ _ et)
    obtain ⟨ys, ey, py⟩ := ch
    have x1 : H1 x ≠ none := by rw [ey]; intro q; cases q
    have xt : x ≠ L1.trail := fun z => by
      rw [z, h1.rt] at ox
      cases ox
    have st2 : Stay H1 (upd H2 L1.trail (.lst (ts ++ [v3]))) := fun a e => Same.free s2 (upd_none e).2
    refine k es cs e1 x L' _ h' (m1.trans m' st) (st.trans st2) hx ?_ ⟨ys, ?_, m'.but.prs py⟩
    · rw [own x x1]; exact ox
    · rw [upd_ne xt]
      exact s2 _ _ ey
  cases d with
  | ord ls =>
    obtain ⟨t2, l, xs, et, ht2, hl, nl, pt⟩ := hd
    cases et
    rw [ht] at ht2
    cases ht2
    refine r_ity rfl ?_
    walk_at "rd"
    refine r_m hb (no_Book_begin _ _) ?_
    walk_at "rd"
    refine r_ixT (SqT.of ht) (atI_get (j := 1) rfl rfl) ?_
    walk_at "rd"
    refine ⟨b, B, L, l, xs, ls, rfl, h, ok.few, hl, pt, by rw [pt.length]; exact few.1, few.2, fun e q => kE e ?_ _ (Same.refl _), fun q r L' H' h' m' st hr ro er => ?_⟩
    · show stepOrd B.each ls = _
      unfold stepOrd
      rw [q]
    · exact fin L' H' _ _ r (by show stepOrd B.each ls = _; unfold stepOrd; rw [q]) h' m' st hr ro ⟨_, er, .nil⟩ ⟨t, l, xs, rfl, m'.but.tup _ _ ht, m'.but.keep _ _ hl (fun z => z nl), trivial, m'.but.lts pt⟩
  | ln w2 o l n =>
    obtain ⟨t2, et, ht2⟩ := hd
    cases et
    rw [ht] at ht2
    cases ht2
    refine r_itz ((good_ord g).1 _ _ _ _ rfl) ?_
    walk_at "rd"
    refine r_ixT (SqT.of ht) (atI_get (j := 0) rfl rfl) ?_
    walk_at "rd"
    refine r_itz (by rcases g with rfl | rfl | rfl | rfl <;> decide +kernel) ?_
    walk_at "rd"
    refine r_m hb (no_Book_one _ _) ?_
    walk_at "rd"
    refine ⟨b, B, L, .ref t, .ln w' o l n, rfl, h, ok, hz, ⟨t, rfl, ht⟩, .inl ⟨_, _, _, _, rfl⟩, kE, fun es cs e r H' h' bt st hr ch => ?_⟩
    exact fin L H' es cs r e h' ⟨bt, fun a z => .inl z⟩ st hr (h.fresh hr) ch ⟨t, rfl, bt.tup _ _ ht⟩
  | mo w2 o n =>
    obtain ⟨t2, et, ht2⟩ := hd
    cases et
    rw [ht] at ht2
    cases ht2
    refine r_itz ((good_ord g).2 _ _ _ rfl) ?_
    walk_at "rd"
    refine r_ixT (SqT.of ht) (atI_get (j := 0) rfl rfl) ?_
    walk_at "rd"
    refine r_itz (by rcases g with rfl | rfl <;> decide +kernel) ?_
    walk_at "rd"
    refine r_m hb (no_Book_one _ _) ?_
    walk_at "rd"
    refine ⟨b, B, L, .ref t, .mo w' o n, rfl, h, ok, hz, ⟨t, rfl, ht⟩, .inr ⟨_, _, _, rfl⟩, kE, fun es cs e r H' h' bt st hr ch => ?_⟩
    exact fin L H' es cs r e h' ⟨bt, fun a z => .inl z⟩ st hr (h.fresh hr) ch ⟨t, rfl, bt.tup _ _ ht⟩
  | mv o p n =>
    obtain ⟨t2, et, ht2⟩ := hd
    cases et
    rw [ht] at ht2
    cases ht2
    refine r_itz (by decide +kernel) ?_
    walk_at "rd"
    refine r_ixT (SqT.of ht) (atI_get (j := 0) rfl rfl) ?_
    walk_at "rd"
    refine r_ity rfl ?_
    walk_at "rd"
    refine r_m hb (no_Book_shift _ _) ?_
    walk_at "rd"
    refine ⟨b, B, L, .ref t, o, p, n, rfl, h, ok, hz, ⟨t, rfl, ht⟩, kE, fun es cs e r H' h' bt st hr ch => ?_⟩
    exact fin L H' es cs r e h' ⟨bt, fun a z => .inl z⟩ st hr (h.fresh hr) ch ⟨t, rfl, bt.tup _ _ ht⟩

/-! ### a new book, what is told -/
def L0 (b e t : Addr) : Lay := ⟨e, t, [], fun a => if a = b then .book else if a = e then .each else if a = t then .trail else .no⟩
def spBookInit (K : PySem.W.Frag) : Sp := fun vs H Q _ => ∃ b dx, vs = [.ref b] ∧ H b = some (.ins (He.ga K "Book") dx []) ∧ ∀ L H', BookAt K H' b ⟨[], []⟩ L → But (· = b) H H' → (∀ a, L.own a ≠ .no → a = b ∨ H a = none) → Stay H H' → Q .non H'
theorem len_BookInit {K : PySem.W.Frag} {vs : List V} {H : Hp} {Q : VK} {E : XK} (h : spBookInit K vs H Q E) : vs.length = 1 := by
  obtain ⟨_, _, rfl, _⟩ := h; rfl
theorem ok_BookInit {P : Program} {w : World} {K : PySem.W.Frag} {mg : Str → Option Value} {base : Heap} (T : Tx w K mg) : FnOk P w K mg base CX0 1 (He.fAd K dBookInit.at_) (fdO K dBookInit.at_) P_BookInit (spBookInit K) := by
  refine T.f_BookInit.ok sc_BookInit (fun vs H Q E h => len_BookInit h) (fun cdv A outer s H vs Q E hr h => ⟨_, PSs.nox ((pss_cons (ps_fld (pv 0) (pe_lst pa_nil) rfl)
      (pss_one (ps_fld (pv 0) (pe_lst pa_nil) rfl)))), ?_⟩)
  obtain ⟨b, dx, rfl, hb, k⟩ := h
  walk_at "rd"
  refine r_mk (by simp) fun e he => ?_
  have be : b ≠ e := ne_of_none hb he
  walk_at "rd"
  refine r_sf (by rw [upd_ne be]; exact hb) T.cl_Book T.n_Book_each (by walk_at "pf") (by simp) ?_
  walk_at "rd"
  refine r_mk (by simp) fun t ht => ?_
  obtain ⟨tb, ht1⟩ := upd_none ht
  obtain ⟨te, ht2⟩ := upd_none ht1
  walk_at "rd"
  refine r_sf (by rw [upd_ne (Ne.symm tb)]; exact upd_same) T.cl_Book T.n_Book_trail (by walk_at "pf") (by simp) ?_
  have c1 : But (· = b) H (upd H e (.lst [])) := But.of (same_upd he)
  have c2 : But (· = b) H (upd (upd H e (.lst [])) b (.ins (He.ga K "Book") dx [("each", .ref e)])) := c1.trans (But.ins (C := He.ga K "Book") (dx := dx) (fs := []) (by rw [upd_ne be]; exact hb) rfl)
  have c3 := c2.trans (But.of (S := (· = b)) (same_upd (o := .lst []) ht))
  have c4 := c3.trans (But.ins (S := (· = b)) (o := .ins (He.ga K "Book") dx [("each", .ref e), ("trail", .ref t)]) (C := He.ga K "Book") (dx := dx) (fs := [("each", .ref e)]) (by rw [upd_ne (Ne.symm tb)]; exact upd_same) rfl)
  have ob : (L0 b e t).own b = .book := by simp [L0]
  have oe : (L0 b e t).own e = .each := by simp [L0, Ne.symm be]
  have ot : (L0 b e t).own t = .trail := by simp [L0, tb, te]
  have on : ∀ a, (L0 b e t).own a ≠ .no → a = b ∨ a = e ∨ a = t := fun a z => by
    by_cases h1 : a = b
    · exact .inl h1
    by_cases h2 : a = e
    · exact .inr (.inl h2)
    by_cases h3 : a = t
    · exact .inr (.inr h3)
    exact absurd (by simp [L0, h1, h2, h3]) z
  have ve : upd (upd (upd (upd H e (.lst [])) b (.ins (He.ga K "Book") dx [("each", .ref e)])) t (.lst [])) b (.ins (He.ga K "Book") dx [("each", .ref e), ("trail", .ref t)]) e = some (.lst []) := by
    rw [upd_ne (Ne.symm be), upd_ne (Ne.symm te), upd_ne (Ne.symm be)]; exact upd_same
  have vt : upd (upd (upd (upd H e (.lst [])) b (.ins (He.ga K "Book") dx [("each", .ref e)])) t (.lst [])) b (.ins (He.ga K "Book") dx [("each", .ref e), ("trail", .ref t)]) t = some (.lst []) := by
    rw [upd_ne tb]; exact upd_same
  refine k (L0 b e t) _ ⟨⟨dx, upd_same⟩, ob, ve, oe, ⟨[], vt, .nil⟩, ot, rfl, fun j p o e1 => by simp [L0] at e1, fun j p e1 => by simp [L0] at e1, fun a z => ?_⟩ c4 (fun a z => ?_) (fun a z => ?_)
  · rcases on a z with h | h | h
    · exact ⟨_, by rw [h]; exact upd_same⟩
    · exact ⟨_, by rw [h]; exact ve⟩
    · exact ⟨_, by rw [h]; exact vt⟩
  · rcases on a z with h | h | h
    · exact .inl h
    · exact .inr (by rw [h]; exact he)
    · exact .inr (by rw [h]; exact ht2)
  · obtain ⟨_, z1⟩ := upd_none z
    obtain ⟨_, z2⟩ := upd_none z1
    obtain ⟨_, z3⟩ := upd_none z2
    exact (upd_none z3).2
theorem ok0 : Bk.ok ⟨[], []⟩ := ⟨by simp, by simp, by simp, by simp⟩
/-- a new book holds nothing of what stood -/
theorem made_own {L : Lay} {H : Hp} {b dx : Addr} {u v : HO} (own : ∀ a, L.own a ≠ .no → a = b ∨ upd (upd H dx u) b v a = none) (nb : H b = none) : ∀ a, L.own a ≠ .no → H a = none := fun a z => by
  rcases own a z with e | e
  · rw [e]; exact nb
  · exact (upd_none (upd_none e).2).2
theorem made_no {L : Lay} {H : Hp} (own : ∀ a, L.own a ≠ .no → H a = none) {a : Addr} {u : HO} (e : H a = some u) : L.own a = .no := by
  by_cases z : L.own a = .no
  · exact z
  · rw [own a z] at e; cases e
theorem made_same {H : Hp} {b dx : Addr} {u v : HO} (nb : H b = none) (nd : H dx = none) : Same H (upd (upd H dx u) b v) := fun x w e => by
  rw [upd_ne (ne_of_none e nb), upd_ne (ne_of_none e nd)]
  exact e
theorem But.made {H H1 H2 : Hp} {b : Addr} (s : Same H H1) (bt : But (· = b) H1 H2) (nb : H b = none) : Same H H2 := fun x w e => bt.keep _ _ (s _ _ e) (ne_of_none e nb)
/-- what the law holds stays as it is -/
theorem Mod.no {L L' : Lay} {H H' : Hp} (m : Mod L L' H H') {a : Addr} {u : HO} (e : H a = some u) (n : L.own a = .no) : H' a = some u ∧ L'.own a = .no := by
  refine ⟨m.but.keep _ _ e fun z => z n, ?_⟩
  by_cases z : L'.own a = .no
  · exact z
  · rcases m.grow a z with q | q
    · exact absurd n q
    · rw [e] at q; cases q
def spBookOrders (K : PySem.W.Frag) : Sp := fun vs H Q _ => ∃ (b : Addr) (B : Bk) (L : Lay), vs = [.ref b] ∧ BookAt K H b B L ∧ Q (.int B.each.length) H
theorem len_BookOrders {K : PySem.W.Frag} {vs : List V} {H : Hp} {Q : VK} {E : XK} (h : spBookOrders K vs H Q E) : vs.length = 1 := by
  obtain ⟨_, _, _, rfl, _⟩ := h; rfl
def TdAt (H : Hp) (v : V) (l : Ln) : Prop := ∃ t, v = .ref t ∧ H t = some (.tup (lnTold l))
/-- what is told of an order -/
def AskK (K : PySem.W.Frag) (B : Bk) (n : Int) (H : Hp) (E : XK) (P : Od → Prop) : Prop := (¬ (0 ≤ n ∧ n < B.each.length) → E (errV K .noOrder) none H) ∧ ∀ (j : Nat) o, n = (j : Int) → B.each[j]? = some o → P o
def spAsk (K : PySem.W.Frag) (P : Od → Hp → VK → Prop) : Sp := fun vs H Q E => ∃ (b : Addr) (B : Bk) (L : Lay) (n : Int), vs = [.ref b, .int n] ∧ BookAt K H b B L ∧ B.ok ∧ AskK K B n H E fun o => P o H Q
theorem len_ask {K : PySem.W.Frag} {P : Od → Hp → VK → Prop} {vs : List V} {H : Hp} {Q : VK} {E : XK} (h : spAsk K P vs H Q E) : vs.length = 2 := by
  obtain ⟨_, _, _, _, rfl, _⟩ := h; rfl
abbrev spBookTold (K : PySem.W.Frag) := spAsk K fun o H Q => ∀ r H' xs, Same H H' → H r = none → H' r = some (.lst xs) → Paired (TdAt H') xs o.lines → Q (.ref r) H'
abbrev spBookPaid (K : PySem.W.Frag) := spAsk K fun o H Q => Q (.int o.money) H
abbrev spBookOwed (K : PySem.W.Frag) := spAsk K fun o H Q => ∀ H', Same H H' → Q (.int o.owing) H'
abbrev spBookRows (K : PySem.W.Frag) := spAsk K fun o H Q => ∀ r H' xs, Same H H' → H r = none → H' r = some (.lst xs) → Paired (MkAt H') xs o.marks → Q (.ref r) H'
abbrev len_BookTold {K : PySem.W.Frag} {vs : List V} {H : Hp} {Q : VK} {E : XK} (h : spBookTold K vs H Q E) := len_ask h
abbrev len_BookPaid {K : PySem.W.Frag} {vs : List V} {H : Hp} {Q : VK} {E : XK} (h : spBookPaid K vs H Q E) := len_ask h
abbrev len_BookOwed {K : PySem.W.Frag} {vs : List V} {H : Hp} {Q : VK} {E : XK} (h : spBookOwed K vs H Q E) := len_ask h
abbrev len_BookRows {K : PySem.W.Frag} {vs : List V} {H : Hp} {Q : VK} {E : XK} (h : spBookRows K vs H Q E) := len_ask h
theorem ok_BookOrders {P : Program} {w : World} {K : PySem.W.Frag} {mg : Str → Option Value} {base : Heap} (T : Tx w K mg) : FnOk P w K mg base CX0 1 (He.fAd K dBookOrders.at_) (fdO K dBookOrders.at_) P_BookOrders (spBookOrders K) := by
  refine T.f_BookOrders.ok sc_BookOrders (fun vs H Q E h => len_BookOrders h) (fun cdv A outer s H vs Q E hr h => ⟨_, PSs.nox ((pss_one (ps_ret (pe_callB call_len_seq (by rfl) T.b_len (by decide +kernel) (pa_cons (pe_fld (pv 0) rfl) pa_nil))))), ?_⟩)
  obtain ⟨b, B, L, rfl, h, k⟩ := h
  obtain ⟨dx, hb⟩ := h.ob
  walk_at "rd"
  refine r_f hb T.cl_Book T.n_Book_each (lk_Book_each _ _) ?_
  walk_at "rd"
  refine ⟨_, _, rfl, .inl (SqL.of h.ev), ?_⟩
  rw [List.length_map, h.len]
  exact k
theorem ok_BookTold {P : Program} {w : World} {K : PySem.W.Frag} {mg : Str → Option Value} {base : Heap} (T : Tx w K mg) : FnOk P w K mg base (L2.CX P w) 2 (He.fAd K dBookTold.at_) (fdO K dBookTold.at_) P_BookTold (spBookTold K) := by
  refine T.f_BookTold.ok sc_BookTold (fun vs H Q E h => len_BookTold h) (fun cdv A outer s H vs Q E hr h => ⟨_, ((pss_one (ps_ret (pe_lc (own := [("line", 2)]) (g := gName 2) (tt := tYes) rfl sc_BookTold.nd (pi_list (pe_fld (pe_meth (pv 0) T.cl_Book T.m_Book_order_of (ok_BookOrderOf T) (hr.mono (by decide)) T.b_BookOrderOf .nil (passes_call (takes_of rfl rfl rfl rfl) (fun _ _ _ _ h => h)) (pa_cons (pv 1) pa_nil)) rfl)) (blkOk_by (N := N_BookTold) (sc := defScope sBookTold) (by decide +kernel)) (fun _ _ _ _ _ => pg_name (i := 2) sc_BookTold.nd rfl (Or.inl rfl)) (fun _ _ _ _ _ => pts_nil) (fun _ _ _ _ _ => (pe_meth0 (pv 2) T.cl_Line T.m_Line_numbers (ok_LineNumbers T) (hr.mono (by decide)) T.b_LineNumbers .nil pass0)))))), ?_⟩)
  obtain ⟨b, B, L, n, rfl, h, ok, k1, k2⟩ := h
  obtain ⟨dx, hb⟩ := h.ob
  walk_at "rd"
  refine r_m hb (no_Book_order_of _ _) ?_
  walk_at "rd"
  refine ⟨b, B, L, n, rfl, h, k1, fun j p o ej ep eo => ?_⟩
  have O := h.od j p o ep eo
  have oko := ok.od o (List.mem_of_getElem? eo)
  obtain ⟨dy, ho⟩ := O.ob
  refine r_f ho T.cl_Order T.n_Order_lines (lk_Order_lines _ _ _) ?_
  refine lcp_rel (R := TdAt) (zs := o.lines) (SqL.of O.ll) (by simp [O.len]) (by have := oko.few; simp [O.len]; omega) (fun H H' v z ⟨t, e, q⟩ st => ⟨t, e, st _ _ q⟩) ?_ ?_
  · intro i x l H' W ex el s q
    obtain ⟨a, ea, rfl⟩ := ref_at ex
    obtain ⟨dl, hl⟩ := O.ln i a l ea el
    walk_at "rd"
    refine r_m (s _ _ hl) (no_Line_numbers l) ?_
    walk_at "rd"
    exact ⟨a, l, rfl, ⟨dl, s _ _ hl⟩, fun t ht => q _ _ (same_upd ht) ⟨t, rfl, upd_same⟩⟩
  · intro D H' acc hD s e pr
    exact k2 j o ej eo D H' acc s hD e pr
theorem ok_BookPaid {P : Program} {w : World} {K : PySem.W.Frag} {mg : Str → Option Value} {base : Heap} (T : Tx w K mg) : FnOk P w K mg base (L2.CX P w) 2 (He.fAd K dBookPaid.at_) (fdO K dBookPaid.at_) P_BookPaid (spBookPaid K) := by
  refine T.f_BookPaid.ok sc_BookPaid (fun vs H Q E h => len_BookPaid h) (fun cdv A outer s H vs Q E hr h => ⟨_, ((pss_one (ps_ret (pe_fld (pe_meth (pv 0) T.cl_Book T.m_Book_order_of (ok_BookOrderOf T) (hr.mono (by decide)) T.b_BookOrderOf .nil (passes_call (takes_of rfl rfl rfl rfl) (fun _ _ _ _ h => h)) (pa_cons (pv 1) pa_nil)) rfl)))), ?_⟩)
  obtain ⟨b, B, L, n, rfl, h, ok, k1, k2⟩ := h
  obtain ⟨dx, hb⟩ := h.ob
  walk_at "rd"
  refine r_m hb (no_Book_order_of _ _) ?_
  walk_at "rd"
  refine ⟨b, B, L, n, rfl, h, k1, fun j p o ej ep eo => ?_⟩
  obtain ⟨dy, ho⟩ := (h.od j p o ep eo).ob
  exact r_f ho T.cl_Order T.n_Order_money (lk_Order_money _ _ _) (k2 j o ej eo)
theorem ok_BookOwed {P : Program} {w : World} {K : PySem.W.Frag} {mg : Str → Option Value} {base : Heap} (T : Tx w K mg) : FnOk P w K mg base (L2.CX P w) 5 (He.fAd K dBookOwed.at_) (fdO K dBookOwed.at_) P_BookOwed (spBookOwed K) := by
  refine T.f_BookOwed.ok sc_BookOwed (fun vs H Q E h => len_BookOwed h) (fun cdv A outer s H vs Q E hr h => ⟨_, ((pss_one (ps_ret (pe_meth0 (pe_meth (pv 0) T.cl_Book T.m_Book_order_of (ok_BookOrderOf T) (hr.mono (by decide)) T.b_BookOrderOf .nil (passes_call (takes_of rfl rfl rfl rfl) (fun _ _ _ _ h => h)) (pa_cons (pv 1) pa_nil)) T.cl_Order T.m_Order_owing (ok_OrderOwing T) (hr.mono (by decide)) T.b_OrderOwing .nil pass0)))), ?_⟩)
  obtain ⟨b, B, L, n, rfl, h, ok, k1, k2⟩ := h
  obtain ⟨dx, hb⟩ := h.ob
  walk_at "rd"
  refine r_m hb (no_Book_order_of _ _) ?_
  walk_at "rd"
  refine ⟨b, B, L, n, rfl, h, k1, fun j p o ej ep eo => ?_⟩
  have O := h.od j p o ep eo
  obtain ⟨dy, ho⟩ := O.ob
  refine r_m ho (no_Order_owing _ _ _) ?_
  walk_at "rd"
  exact ⟨p, o, rfl, O, ok.od o (List.mem_of_getElem? eo), k2 j o ej eo⟩
/-- what stood at H stands, and the book holds nothing of it -/
structure New (L : Lay) (H H' : Hp) : Prop where
  same : Same H H'
  own : ∀ a, L.own a ≠ .no → H a = none
theorem New.ext {L : Lay} {H H1 H2 : Hp} (n : New L H H1) (s : Same H1 H2) : New L H H2 := ⟨n.same.trans s, n.own⟩
theorem New.no {L : Lay} {H H1 : Hp} (n : New L H H1) {a : Addr} {u : HO} (e : H a = some u) : L.own a = .no := made_no n.own e
theorem New.mod {L L' : Lay} {H H1 H2 : Hp} (n : New L H H1) (m : Mod L L' H1 H2) : New L' H H2 where
  same := fun a o e => (m.no (n.same _ _ e) (n.no e)).1
  own := fun a z => by
    rcases m.grow a z with q | q
    · exact n.own a q
    · exact Same.free n.same q

/-! ### the law's helpers -/
def Script (K : PySem.W.Frag) (H : Hp) (a : Addr) : Prop := ∃ ns : List Int, SqL K H a (ns.map V.int) ∧ ns.length ≤ 63
theorem SqL.keep {K : PySem.W.Frag} {H H' : Hp} {a : Addr} {xs : List V} (h : SqL K H a xs) (k : ∀ o, H a = some o → H' a = some o) : SqL K H' a xs := by
  rcases h with (h | ⟨o, h⟩) | h
  · exact .inl (.inl (k _ h))
  · exact .inl (.inr ⟨o, k _ h⟩)
  · exact .inr h
theorem Script.keep {K : PySem.W.Frag} {H H' : Hp} {a : Addr} (S : Script K H a) (k : ∀ o, H a = some o → H' a = some o) : Script K H' a := by
  obtain ⟨ns, h, l⟩ := S
  exact ⟨ns, SqL.keep h k, l⟩
theorem Script.same {K : PySem.W.Frag} {H H' : Hp} {a : Addr} (S : Script K H a) (s : Same H H') : Script K H' a := S.keep fun o e => s _ _ e
theorem Script.mod {K : PySem.W.Frag} {H H' : Hp} {a : Addr} {L L' : Lay} (S : Script K H a) (m : Mod L L' H H') (n : ∀ o, H a = some o → L.own a = .no) : Script K H' a := S.keep fun o e => (m.no e (n o e)).1
theorem int_at {ns : List Int} {i : Nat} (h : i < ns.length) : (ns.map V.int)[i]? = some (V.int ns[i]) := by
  rw [List.getElem?_map, List.getElem?_eq_getElem h]; rfl
def spLCellAt (K : PySem.W.Frag) : Sp := fun vs H Q _ => ∃ (a : Addr) (k : Int), vs = [.ref a, .int k] ∧ Script K H a ∧ 0 ≤ k ∧ ∀ n : Int, Q (.int n) H
theorem len_LCellAt {K : PySem.W.Frag} {vs : List V} {H : Hp} {Q : VK} {E : XK} (h : spLCellAt K vs H Q E) : vs.length = 2 := by
  obtain ⟨_, _, rfl, _⟩ := h; rfl
theorem ok_LCellAt {P : Program} {w : World} {K : PySem.W.Frag} {mg : Str → Option Value} {base : Heap} (T : Tx w K mg) : FnOk P w K mg base CX0 1 (He.fAd K dLCellAt.at_) (fdO K dLCellAt.at_) P_LCellAt (spLCellAt K) := by
  refine T.f_LCellAt.ok sc_LCellAt (fun vs H Q E h => len_LCellAt h) (fun cdv A outer s H vs Q E hr h => ⟨_, PSs.nox ((pss_cons (ps_if (pt_cmpR op_lt (pv 1) (pe_callB call_len_seq (by rfl) T.b_len (by decide +kernel) (pa_cons (pv 0) pa_nil)) (nomark _)) (pss_one (ps_ret (pe_ix ix_list (pv 0) (pv 1) (fun _ _ => rfl)))) pss_nil)
      (pss_one (ps_ret pe_int)))), ?_⟩)
  obtain ⟨a, i, rfl, ⟨ns, hs, _⟩, hi, k⟩ := h
  walk_at "rd"
  refine ⟨a, _, rfl, .inl hs, ?_⟩
  rw [List.length_map]
  walk_at "rd"
  refine r_itd (fun c => ?_) (fun c => ?_)
  · walk_at "rd"
    exact r_ixL hs (atI_get (j := i.toNat) (by omega) (int_at (by omega))) (k _)
  · walk_at "rd"
    exact k 0
def spLWhole (_ : PySem.W.Frag) : Sp := fun vs H Q _ => ∃ i : Int, vs = [.int i] ∧ Q (.bl true) H
theorem len_LWhole {K : PySem.W.Frag} {vs : List V} {H : Hp} {Q : VK} {E : XK} (h : spLWhole K vs H Q E) : vs.length = 1 := by
  obtain ⟨_, rfl, _⟩ := h; rfl
theorem ok_LWhole {P : Program} {w : World} {K : PySem.W.Frag} {mg : Str → Option Value} {base : Heap} (T : Tx w K mg) : FnOk P w K mg base CX0 1 (He.fAd K dLWhole.at_) (fdO K dLWhole.at_) P_LWhole (spLWhole K) := by
  refine T.f_LWhole.ok sc_LWhole (fun vs H Q E h => len_LWhole h) (fun cdv A outer s H vs Q E hr h => ⟨_, PSs.nox ((pss_one (ps_ret (pe_and (pe_callB call_isi (by rfl) T.b_isinstance (by decide +kernel) (pa_cons (pv 0) (pa_cons (pe_bltn (v := .ty "int") (by rfl) T.b_int (by decide +kernel) rfl) pa_nil))) (pe_one (pe_not (pe_callB call_isi (by rfl) T.b_isinstance (by decide +kernel) (pa_cons (pv 0) (pa_cons (pe_bltn (v := .ty "bool") (by rfl) T.b_bool (by decide +kernel) rfl) pa_nil))))))))), ?_⟩)
  obtain ⟨i, rfl, k⟩ := h
  walk_at "rd"
  exact k
theorem emb {i j : Int} (h : 0 < j) : 0 ≤ i % j ∧ i % j < j := ⟨Int.emod_nonneg _ (by omega), Int.emod_lt_of_pos _ h⟩

/-! ### what is tried -/
/-- a deed that is done, or refused by one of these -/
def TriedK (K : PySem.W.Frag) (ers : List Er) (b : Addr) (B : Bk) (L : Lay) (H : Hp) (d : Dd) (Q : VK) : Prop :=
  (∀ e, step B.each d = .error e → e ∈ ers ∧ ∀ H', Same H H' → Q (.str e.name) H') ∧
  ∀ es cs, step B.each d = .ok (es, cs) → ∀ r L' H', BookAt K H' b ⟨es, B.trail ++ [d]⟩ L' → Mod L L' H H' → Stay H H' → H r = none → L'.own r = .no → ChAt H' r cs → Q (.ref r) H'
def spTried (K : PySem.W.Frag) (ers : List Er) : Sp := fun vs H Q _ => ∃ (b : Addr) (B : Bk) (L : Lay) (v : V), vs = [.ref b, v] ∧ BookAt K H b B L ∧ B.ok ∧ B.trail.length < 100000 ∧
  ∃ d : Dd, DdAt (fun a => L.own a = .no) H v d ∧ d.good ∧ d.few ∧ TriedK K ers b B L H d Q
theorem len_tried {K : PySem.W.Frag} {ers : List Er} {vs : List V} {H : Hp} {Q : VK} {E : XK} (h : spTried K ers vs H Q E) : vs.length = 2 := by
  obtain ⟨_, _, _, _, rfl, _⟩ := h; rfl
theorem tried_by {K : PySem.W.Frag} {ers : List Er} {b : Addr} {B : Bk} {L : Lay} {H : Hp} {d : Dd} {Q : VK} (O : V → Hp → Prop) (main : ∀ v H', O v H' → Q v H') (h : TriedK K ers b B L H d O) : TriedK K ers b B L H d Q :=
  ⟨fun e q => ⟨(h.1 e q).1, fun H' s => main _ _ ((h.1 e q).2 H' s)⟩, fun es cs q r L' H' a b c d e f => main _ _ (h.2 es cs q r L' H' a b c d e f)⟩

/-! ### pairs of ints, as rows -/
def prRow (c : Int × Int) : List V := [.int c.1, .int c.2]
theorem pr_rows {H : Hp} : ∀ {xs : List V} {cs : List (Int × Int)}, Paired (PrAt H) xs cs → Paired (TupAt H) xs (cs.map prRow)
  | _, _, .nil => .nil
  | _, _, .cons ⟨t, e, h⟩ r => .cons ⟨t, e, h⟩ (pr_rows r)
theorem prRow_ok {cs : List (Int × Int)} : Rws (cs.map prRow) := fun r hr => by
  obtain ⟨c, _, rfl⟩ := List.mem_map.mp hr
  exact .cons .int (.cons .int .nil)
theorem prRow_inj : ∀ {cs ds : List (Int × Int)}, cs.map prRow = ds.map prRow → cs = ds
  | [], [], _ => rfl
  | [], _ :: _, h => by cases h
  | _ :: _, [], h => by cases h
  | (a, b) :: cs, (c, d) :: ds, h => by
    rw [List.map_cons, List.map_cons] at h
    injection h with h1 h2
    have h3 : [V.int a, V.int b] = [V.int c, V.int d] := h1
    injection h3 with e1 e2
    injection e2 with e2 _
    injection e1 with e1
    injection e2 with e2
    subst e1 e2
    rw [prRow_inj h2]
/-- the i-th of a pair of lists -/
theorem Paired.get_ex {α β : Type} {F : α → β → Prop} : ∀ {l₁ : List α} {l₂ : List β} {i : Nat} {a : α}, Paired F l₁ l₂ → l₁[i]? = some a → ∃ b, l₂[i]? = some b ∧ F a b
  | _, _, _, _, .nil, h => by simp at h
  | _, _, 0, _, .cons r _, h => by
    cases h
    exact ⟨_, rfl, r⟩
  | _, _, i + 1, _, .cons _ t, h => Paired.get_ex (i := i) t h

/-! ### money -/
def spLNumberBy (K : PySem.W.Frag) : Sp := fun vs H Q _ => ∃ c m : Int, vs = [.int c, .int m] ∧ ∀ n : Int, Q (.int n) H
theorem len_LNumberBy {K : PySem.W.Frag} {vs : List V} {H : Hp} {Q : VK} {E : XK} (h : spLNumberBy K vs H Q E) : vs.length = 2 := by
  obtain ⟨_, _, rfl, _⟩ := h; rfl
theorem ok_LNumberBy {P : Program} {w : World} {K : PySem.W.Frag} {mg : Str → Option Value} {base : Heap} (T : Tx w K mg) : FnOk P w K mg base CX0 1 (He.fAd K dLNumberBy.at_) (fdO K dLNumberBy.at_) P_LNumberBy (spLNumberBy K) := by
  refine T.f_LNumberBy.ok sc_LNumberBy (fun vs H Q E h => len_LNumberBy h) (fun cdv A outer s H vs Q E hr h => ⟨_, PSs.nox ((pss_cons (ps_set (i := 2) sc_LNumberBy.nd rfl (Or.inl rfl) (pe_op op_mod (pv 0) pe_int))
      (pss_cons (ps_if (pt_cmpR op_eq (pv 2) pe_int (nomark _)) (pss_one (ps_ret (pe_un un_neg (pe_op op_mod (pe_op op_fdiv (pv 0) pe_int) pe_int)))) pss_nil)
      (pss_cons (ps_if (pt_cmpR op_eq (pv 2) pe_int (nomark _)) (pss_one (ps_ret (pe_op op_add (pv 1) pe_int))) pss_nil)
      (pss_cons (ps_if (pt_cmpR op_eq (pv 2) pe_int (nomark _)) (pss_one (ps_ret (pv 1))) pss_nil)
      (pss_one (ps_ret (pe_op op_add pe_int (pe_op op_mod (pe_op op_fdiv (pv 0) pe_int) (pe_callB (call_max2 rfl) (by rfl) T.b_max (by decide +kernel) (pa_cons pe_int (pa_cons (pv 1) pa_nil)))))))))))), ?_⟩)
  obtain ⟨c, m, rfl, k⟩ := h
  repeat' (first | walk_at "rd1" | walk_at "md" | refine r_itd (fun _ => ?_) (fun _ => ?_) | exact k _ | (refine ⟨_, _, rfl, ?_⟩))
abbrev spLTried (K : PySem.W.Frag) := spTried K [.noNumber, .tooMuch]
abbrev len_LTried {K : PySem.W.Frag} {vs : List V} {H : Hp} {Q : VK} {E : XK} (h : spLTried K vs H Q E) := len_tried h
theorem ok_LTried {P : Program} {w : World} {K : PySem.W.Frag} {mg : Str → Option Value} {base : Heap} (T : Tx w K mg) : FnOk P w K mg base CX0 8 (He.fAd K dLTried.at_) (fdO K dLTried.at_) P_LTried (spLTried K) := by
  refine T.f_LTried.ok sc_LTried (fun vs H Q E h => len_LTried h) (fun cdv A outer s H vs Q E hr h => ⟨_, PSs.nox ((pss_one (ps_try_many rfl rfl takes0 (fun W pn xe tk po => (pss_one (ps_ret (pe_mX (pv 0) T.cl_Book T.m_Book_do (ok_BookDo T) (hr.mono (by decide)) T.b_BookDo (fun σ => passAt tk σ) (pa_cons (pv 1) pa_nil))))) (.cons ⟨rfl, by decide, .inl T.g_NoNumber⟩ (fun a oe cls d pn hz hf => (pss_one (ps_ret pe_str))) (.cons ⟨rfl, by decide, .inl T.g_TooMuch⟩ (fun a oe cls d pn hz hf => (pss_one (ps_ret pe_str))) .nil))))), ?_⟩)
  obtain ⟨b, B, L, v, rfl, h, ok, hz, d, hd, g, few, kE, k⟩ := h
  obtain ⟨dx, hb⟩ := h.ob
  walk_at "rd"
  refine r_m hb (no_Book_do _ _) ?_
  walk_at "rd"
  refine ⟨b, B, L, v, rfl, h, ok, hz, .inl ⟨d, hd, g, few, fun e q H' s => ?_, k⟩⟩
  obtain ⟨m, f⟩ := kE e q
  have f2 := f H' s
  rcases List.mem_cons.mp m with rfl | m
  · refine ⟨true, T.e_NoNumber_NoNumber, fun _ a _ => ?_, fun z => by cases z⟩
    walk_at "rd"
    exact f2
  rcases List.mem_cons.mp m with rfl | m
  · refine ⟨false, T.e_TooMuch_NoNumber, (fun z => by cases z), fun _ => ⟨true, T.e_TooMuch_TooMuch, fun _ a _ => ?_, fun z => by cases z⟩⟩
    walk_at "rd"
    exact f2
  · cases m
def chOf (w : Str) (a n : Int) : List (Int × Int) := if w = "pay" then [(a, -n)] else if w = "refund" then [(a, n)] else [(a, n), (1 - a, -n)]
def spLChanges (K : PySem.W.Frag) : Sp := fun vs H Q _ => ∃ (w : Str) (a n : Int), vs = [.str w, .int a, .int n] ∧ ∀ r H', Same H H' → H r = none → ChAt H' r (chOf w a n) → Q (.ref r) H'
theorem len_LChanges {K : PySem.W.Frag} {vs : List V} {H : Hp} {Q : VK} {E : XK} (h : spLChanges K vs H Q E) : vs.length = 3 := by
  obtain ⟨_, _, _, rfl, _⟩ := h; rfl
theorem ok_LChanges {P : Program} {w : World} {K : PySem.W.Frag} {mg : Str → Option Value} {base : Heap} (T : Tx w K mg) : FnOk P w K mg base CX0 1 (He.fAd K dLChanges.at_) (fdO K dLChanges.at_) P_LChanges (spLChanges K) := by
  refine T.f_LChanges.ok sc_LChanges (fun vs H Q E h => len_LChanges h) (fun cdv A outer s H vs Q E hr h => ⟨_, PSs.nox ((pss_cons (ps_if (pt_cmpR op_eq (pv 0) pe_str (nomark _)) (pss_one (ps_ret (pe_lst (pa_cons (pe_tup (pa_cons (pv 1) (pa_cons (pe_un un_neg (pv 2)) pa_nil))) pa_nil)))) pss_nil)
      (pss_cons (ps_if (pt_cmpR op_eq (pv 0) pe_str (nomark _)) (pss_one (ps_ret (pe_lst (pa_cons (pe_tup (pa_cons (pv 1) (pa_cons (pv 2) pa_nil))) pa_nil)))) pss_nil)
      (pss_one (ps_ret (pe_lst (pa_cons (pe_tup (pa_cons (pv 1) (pa_cons (pv 2) pa_nil))) (pa_cons (pe_tup (pa_cons (pe_op op_sub pe_int (pv 1)) (pa_cons (pe_un un_neg (pv 2)) pa_nil))) pa_nil)))))))), ?_⟩)
  obtain ⟨w', a, n, rfl, k⟩ := h
  unfold chOf at k
  walk_at "rd"
  refine r_itd (fun c => ?_) (fun c => ?_)
  · rw [if_pos c] at k
    walk_at "rd"
    refine r_mk (by simp) fun t ht => ?_
    walk_at "rd"
    refine r_mk (by simp) fun r hr => ?_
    have s := (same_upd (o := .tup [.int a, .int (-n)]) ht).trans (same_upd (o := .lst [.ref t]) hr)
    exact k r _ s (upd_none hr).2 ⟨_, upd_same, .cons ⟨t, rfl, same_upd hr _ _ upd_same⟩ .nil⟩
  · rw [if_neg c] at k
    walk_at "rd"
    refine r_itd (fun c2 => ?_) (fun c2 => ?_)
    · rw [if_pos c2] at k
      walk_at "rd"
      refine r_mk (by simp) fun t ht => ?_
      walk_at "rd"
      refine r_mk (by simp) fun r hr => ?_
      have s := (same_upd (o := .tup [.int a, .int n]) ht).trans (same_upd (o := .lst [.ref t]) hr)
      exact k r _ s (upd_none hr).2 ⟨_, upd_same, .cons ⟨t, rfl, same_upd hr _ _ upd_same⟩ .nil⟩
    · rw [if_neg c2] at k
      walk_at "rd"
      refine r_mk (by simp) fun t ht => ?_
      walk_at "rd"
      refine r_mk (by simp) fun u hu => ?_
      walk_at "rd"
      refine r_mk (by simp) fun r hr => ?_
      have s1 := same_upd (o := .tup [.int a, .int n]) ht
      have s2 := same_upd (o := .tup [.int (1 - a), .int (-n)]) hu
      have s3 := same_upd (o := .lst [.ref t, .ref u]) hr
      exact k r _ ((s1.trans s2).trans s3) (upd_none (upd_none hr).2).2 ⟨_, upd_same, .cons ⟨t, rfl, s3 _ _ (s2 _ _ upd_same)⟩ (.cons ⟨u, rfl, s3 _ _ upd_same⟩ .nil)⟩
def spLPairsAlike (K : PySem.W.Frag) : Sp := fun vs H Q _ => ∃ (r q : Addr) (cs : List (Int × Int)), vs = [.ref r, .ref q] ∧ ChAt H r cs ∧ ChAt H q cs ∧ Q (.bl true) H
theorem len_LPairsAlike {K : PySem.W.Frag} {vs : List V} {H : Hp} {Q : VK} {E : XK} (h : spLPairsAlike K vs H Q E) : vs.length = 2 := by
  obtain ⟨_, _, _, rfl, _⟩ := h; rfl
theorem ok_LPairsAlike {P : Program} {w : World} {K : PySem.W.Frag} {mg : Str → Option Value} {base : Heap} (T : Tx w K mg) : FnOk P w K mg base CX0 2 (He.fAd K dLPairsAlike.at_) (fdO K dLPairsAlike.at_) P_LPairsAlike (spLPairsAlike K) := by
  refine T.f_LPairsAlike.ok sc_LPairsAlike (fun vs H Q E h => len_LPairsAlike h) (fun cdv A outer s H vs Q E hr h => ⟨_, PSs.nox ((pss_cons (ps_if (PW.pt (pw_or (pt_not (pt_val (pe_callB call_isi (by rfl) T.b_isinstance (by decide +kernel) (pa_cons (pv 0) (pa_cons (pe_bltn (v := .ty "list") (by rfl) T.b_list (by decide +kernel) rfl) pa_nil))))) (pw_or1 (pt_cmpR (op_neD hr.units) (pv 0) (pv 1) (nomark _))))) (pss_one (ps_ret pe_bl)) pss_nil)
      (pss_cons (ps_for PassesOwn.never rfl (pi_list (pv 0)) (pg_name (i := 2) sc_LPairsAlike.nd rfl (Or.inl rfl)) (pss_one (ps_if (PW.pt (pw_or (pt_not (pt_val (pe_callB call_isi (by rfl) T.b_isinstance (by decide +kernel) (pa_cons (pv 2) (pa_cons (pe_bltn (v := .ty "tuple") (by rfl) T.b_tuple (by decide +kernel) rfl) pa_nil))))) (pw_or (pt_not (pt_val (pe_call (ok_LWhole T) (hr.mono (by decide)) rfl T.g_LWhole T.f_LWhole.kp T.b_LWhole .nil pass0 (pa_cons (pe_ix ix_tup (pv 2) pe_int (fun _ _ => rfl)) pa_nil)))) (pw_or1 (pt_not (pt_val (pe_call (ok_LWhole T) (hr.mono (by decide)) rfl T.g_LWhole T.f_LWhole.kp T.b_LWhole .nil pass0 (pa_cons (pe_ix ix_tup (pv 2) pe_int (fun _ _ => rfl)) pa_nil)))))))) (pss_one (ps_ret pe_bl)) pss_nil)))
      (pss_one (ps_ret pe_bl))))), ?_⟩)
  obtain ⟨r, q, cs, rfl, ⟨xs, hr, pr⟩, ⟨ys, hq, pq⟩, k⟩ := h
  walk_at "rd"
  refine r_is_lst_list hr ?_
  walk_at "rd"
  refine r_neRR (SqL.of hr) (SqL.of hq) (pr_rows pr) (pr_rows pq) prRow_ok prRow_ok ?_
  walk_at "rd"
  refine r_itn (fun z => absurd rfl z) (fun _ => ?_)
  walk_at "rd"
  refine ⟨r, rfl, ⟨xs, SqL.of hr⟩, for_list (K := K) (a := r) (xs := xs) (fun i σ H' => ∃ v, σ = [some (.ref r), some (.ref q), v] ∧ H' = H) ⟨none, rfl, rfl⟩ (fun i σ H' _ ⟨_, _, e⟩ => by rw [e]; exact SqL.of hr) ?_ ?_⟩
  · rintro i x σ H' hi ⟨v, rfl, rfl⟩
    obtain ⟨c, _, t, rfl, ht⟩ := Paired.get_ex pr hi
    walk_at "rd"
    refine r_is_tup_tuple ht ?_
    walk_at "rd"
    refine r_ixT (SqT.of ht) (atI_get (j := 0) rfl rfl) ?_
    walk_at "rd"
    refine ⟨_, rfl, ?_⟩
    walk_at "rd"
    refine r_ixT (SqT.of ht) (atI_get (j := 1) rfl rfl) ?_
    walk_at "rd"
    refine ⟨_, rfl, ?_⟩
    walk_at "rd"
    exact ⟨_, rfl, rfl⟩
  · rintro σ H' ⟨v, rfl, rfl⟩
    walk_at "rd"
    exact k
/-- what the orders charge and were paid -/
structure Two (B : Bk) (c s : Nat → Int) : Prop where
  len : B.each.length = 2
  at_ : ∀ (j : Nat) o, B.each[j]? = some o → (o.lines.map Ln.charge).sum = c j ∧ o.money = s j
def L2i (c : Nat → Int) : List V := [.int (c 0), .int (c 1)]
theorem l2i_at (c : Nat → Int) {j : Nat} (h : j < 2) : (L2i c)[j]? = some (.int (c j)) := by
  have : j = 0 ∨ j = 1 := by omega
  rcases this with rfl | rfl <;> rfl
def spLStands (K : PySem.W.Frag) : Sp := fun vs H Q _ => ∃ (b : Addr) (B : Bk) (L : Lay) (a e : Addr) (c s : Nat → Int), vs = [.ref b, .ref a, .ref e] ∧ BookAt K H b B L ∧ B.ok ∧ Two B c s ∧ H a = some (.lst (L2i c)) ∧ H e = some (.lst (L2i s)) ∧ ∀ H', Same H H' → Q (.bl true) H'
theorem len_LStands {K : PySem.W.Frag} {vs : List V} {H : Hp} {Q : VK} {E : XK} (h : spLStands K vs H Q E) : vs.length = 3 := by
  obtain ⟨_, _, _, _, _, _, _, rfl, _⟩ := h; rfl
theorem ok_LStands {P : Program} {w : World} {K : PySem.W.Frag} {mg : Str → Option Value} {base : Heap} (T : Tx w K mg) : FnOk P w K mg base CX0 6 (He.fAd K dLStands.at_) (fdO K dLStands.at_) P_LStands (spLStands K) := by
  refine T.f_LStands.ok sc_LStands (fun vs H Q E h => len_LStands h) (fun cdv A outer s H vs Q E hr h => ⟨_, PSs.nox ((pss_cons (ps_for PassesOwn.never rfl (pi_range1 (by rfl) T.b_range (pa_cons pe_int pa_nil)) (pg_name (i := 3) sc_LStands.nd rfl (Or.inl rfl)) (pss_cons (ps_if (PW.pt (pw_or (pt_not (pt_val (pe_call (ok_LWhole T) (hr.mono (by decide)) rfl T.g_LWhole T.f_LWhole.kp T.b_LWhole .nil pass0 (pa_cons (pe_meth (pv 0) T.cl_Book T.m_Book_paid (ok_BookPaid T) (hr.mono (by decide)) T.b_BookPaid .nil passL (pa_cons (pv 3) pa_nil)) pa_nil)))) (pw_or1 (pt_cmpR op_ne (pe_meth (pv 0) T.cl_Book T.m_Book_paid (ok_BookPaid T) (hr.mono (by decide)) T.b_BookPaid .nil passL (pa_cons (pv 3) pa_nil)) (pe_ix ix_list (pv 2) (pv 3) (fun _ _ => rfl)) (nomark _))))) (pss_one (ps_ret pe_bl)) pss_nil)
      (pss_one (ps_if (PW.pt (pw_or (pt_not (pt_val (pe_call (ok_LWhole T) (hr.mono (by decide)) rfl T.g_LWhole T.f_LWhole.kp T.b_LWhole .nil pass0 (pa_cons (pe_meth (pv 0) T.cl_Book T.m_Book_owed (ok_BookOwed T) (hr.mono (by decide)) T.b_BookOwed .nil passL (pa_cons (pv 3) pa_nil)) pa_nil)))) (pw_or1 (pt_cmpR op_ne (pe_meth (pv 0) T.cl_Book T.m_Book_owed (ok_BookOwed T) (hr.mono (by decide)) T.b_BookOwed .nil passL (pa_cons (pv 3) pa_nil)) (pe_op op_sub (pe_ix ix_list (pv 1) (pv 3) (fun _ _ => rfl)) (pe_ix ix_list (pv 2) (pv 3) (fun _ _ => rfl))) (nomark _))))) (pss_one (ps_ret pe_bl)) pss_nil))))
      (pss_one (ps_ret pe_bl)))), ?_⟩)
  obtain ⟨b, B, L, a, e, c, s', rfl, h, ok, tw, ha, he, k⟩ := h
  obtain ⟨dx, hb⟩ := h.ob
  walk_at "rd"
  refine ⟨2, rfl, by decide, by decide, for_range (lo := 0) (n := 2) (fun i σ H' => ∃ v, σ = [some (.ref b), some (.ref a), some (.ref e), v] ∧ Same H H') ⟨none, rfl, Same.refl _⟩ ?_ ?_⟩
  · rintro i σ H1 hi ⟨v, rfl, s1⟩
    rw [Int.zero_add]
    have inr : (0 : Int) ≤ i ∧ (i : Int) < B.each.length := by rw [tw.len]; omega
    walk_at "rd"
    refine r_m (s1 _ _ hb) (no_Book_paid _ _) ?_
    walk_at "rd"
    refine ⟨b, B, L, i, rfl, h.same s1, ok, fun z => absurd inr z, fun j o ej eo => ?_⟩
    obtain rfl : i = j := by omega
    obtain ⟨o1, o2⟩ := tw.at_ i o eo
    walk_at "rd"
    refine ⟨_, rfl, ?_⟩
    walk_at "rd"
    refine r_m (s1 _ _ hb) (no_Book_paid _ _) ?_
    walk_at "rd"
    refine ⟨b, B, L, i, rfl, h.same s1, ok, fun z => absurd inr z, fun j o' ej eo' => ?_⟩
    obtain rfl : i = j := by omega
    rw [eo] at eo'
    cases eo'
    walk_at "rd"
    refine r_ixL (SqL.of (s1 _ _ he)) (atI_get (j := i) rfl (l2i_at s' hi)) ?_
    walk_at "rd"
    refine r_itn (fun z => absurd o2 z) (fun _ => ?_)
    walk_at "rd"
    refine r_m (s1 _ _ hb) (no_Book_owed _ _) ?_
    walk_at "rd"
    refine ⟨b, B, L, i, rfl, h.same s1, ok, fun z => absurd inr z, fun j o' ej eo' H2 s2 => ?_⟩
    obtain rfl : i = j := by omega
    rw [eo] at eo'
    cases eo'
    have s3 := s1.trans s2
    walk_at "rd"
    refine ⟨_, rfl, ?_⟩
    walk_at "rd"
    refine r_m (s3 _ _ hb) (no_Book_owed _ _) ?_
    walk_at "rd"
    refine ⟨b, B, L, i, rfl, h.same s3, ok, fun z => absurd inr z, fun j o' ej eo' H4 s4 => ?_⟩
    obtain rfl : i = j := by omega
    rw [eo] at eo'
    cases eo'
    have s5 := s3.trans s4
    walk_at "rd"
    refine r_ixL (SqL.of (s5 _ _ ha)) (atI_get (j := i) rfl (l2i_at c hi)) ?_
    walk_at "rd"
    refine r_ixL (SqL.of (s5 _ _ he)) (atI_get (j := i) rfl (l2i_at s' hi)) ?_
    walk_at "rd"
    refine r_itn (fun z => absurd (by unfold Od.owing; rw [o1, o2]) z) (fun _ => ?_)
    walk_at "rd"
    exact ⟨_, rfl, s5⟩
  · rintro σ H1 ⟨v, rfl, s1⟩
    walk_at "rd"
    exact k _ s1

/-! ### the two orders -/
abbrev cup : Lt := ⟨"cup", 1000000, 1, 1⟩
theorem cup_ok : ltCheck cup = none := by
  have h1 : isItem ("cup" : Str) = true := by decide +kernel
  have h2 : numOk cup := by decide
  unfold ltCheck
  rw [if_pos h1, if_pos h2]
theorem step_ord1 {es : List Od} {t : Lt} (h : ltCheck t = none) (n : es.length < 40) : step es (.ord [t]) = .ok (es ++ [⟨[t.ln], 0, []⟩], []) := by
  have f : firstErr [t] = none := by
    unfold firstErr
    simp [h]
  simp only [step]
  unfold stepOrd ordErr
  rw [if_neg (by simp), f]
  dsimp only
  rw [if_neg (by omega)]
  rfl
theorem few1 {t : Lt} (h : t.item.length ≤ 100000) : Dd.few (.ord [t]) := ⟨by simp, fun u hu => by
  have e : u = t := by simpa using hu
  rw [e]; exact h⟩
def spLBegun (K : PySem.W.Frag) : Sp := fun vs H Q _ => ∃ (a : Addr) (c : Nat → Int), vs = [.ref a] ∧ H a = some (.lst (L2i c)) ∧ (∀ j, 0 ≤ c j ∧ c j ≤ 1000000) ∧
  ∀ b B L H', BookAt K H' b B L → B.ok → B.trail.length ≤ 4 → Two B c (fun _ => 0) → New L H H' → Q (.ref b) H'
theorem len_LBegun {K : PySem.W.Frag} {vs : List V} {H : Hp} {Q : VK} {E : XK} (h : spLBegun K vs H Q E) : vs.length = 1 := by
  obtain ⟨_, _, rfl, _⟩ := h; rfl
theorem ok_LBegun {P : Program} {w : World} {K : PySem.W.Frag} {mg : Str → Option Value} {base : Heap} (T : Tx w K mg) : FnOk P w K mg base CX0 8 (He.fAd K dLBegun.at_) (fdO K dLBegun.at_) P_LBegun (spLBegun K) := by
  refine T.f_LBegun.ok sc_LBegun (fun vs H Q E h => len_LBegun h) (fun cdv A outer s H vs Q E hr h => ⟨_, PSs.nox ((pss_cons (ps_set (i := 1) sc_LBegun.nd rfl (Or.inl rfl) (pe_make0 T.mk_Book (ok_BookInit T) (hr.mono (by decide)) rfl T.g_Book T.b_BookInit .nil pass0))
      (pss_cons (ps_for PassesOwn.never rfl (pi_range1 (by rfl) T.b_range (pa_cons pe_int pa_nil)) (pg_name (i := 2) sc_LBegun.nd rfl (Or.inl rfl)) (pss_cons (ps_expr (pe_meth (pv 1) T.cl_Book T.m_Book_do (ok_BookDo T) (hr.mono (by decide)) T.b_BookDo .nil passL (pa_cons (pe_tup (pa_cons pe_str (pa_cons (pe_lst (pa_cons (pe_tup (pa_cons pe_str (pa_cons pe_int (pa_cons pe_int (pa_cons pe_int pa_nil))))) pa_nil)) pa_nil))) pa_nil)))
      (pss_one (ps_if (pt_cmpR op_gt (pe_ix ix_list (pv 0) (pv 2) (fun _ _ => rfl)) pe_int (nomark _)) (pss_one (ps_expr (pe_meth (pv 1) T.cl_Book T.m_Book_do (ok_BookDo T) (hr.mono (by decide)) T.b_BookDo .nil passL (pa_cons (pe_tup (pa_cons pe_str (pa_cons (pv 2) (pa_cons pe_int (pa_cons (pe_ix ix_list (pv 0) (pv 2) (fun _ _ => rfl)) pa_nil))))) pa_nil)))) pss_nil))))
      (pss_one (ps_ret (pv 1)))))), ?_⟩)
  obtain ⟨a, c, rfl, ha, hc, k⟩ := h
  walk_at "rd"
  intro b dx nb ndx ne
  refine ⟨b, dx, rfl, upd_same, fun L H2 h bt own _ => ⟨rfl, ?_⟩⟩
  have N : New L H H2 := ⟨bt.made (made_same nb ndx) nb, made_own own nb⟩
  walk_at "rd"
  refine ⟨2, rfl, by decide, by decide, for_range (lo := 0) (n := 2) (fun i σ H' => ∃ v B L, σ = [some (.ref a), some (.ref b), v] ∧ BookAt K H' b B L ∧ B.ok ∧ B.trail.length ≤ 2 * i ∧ B.each.length = i ∧
    (∀ (j : Nat) o, B.each[j]? = some o → (o.lines.map Ln.charge).sum = c j ∧ o.money = 0) ∧ New L H H') ⟨none, _, L, rfl, h, ok0, Nat.le_refl _, rfl, fun j o e => by simp at e, N⟩ ?_ ?_⟩
  · rintro i σ H1 hi ⟨v, B, L, rfl, h, ok, tr, ln, at_, N⟩
    rw [Int.zero_add]
    obtain ⟨d1, hb⟩ := h.ob
    walk_at "rd"
    refine r_m hb (no_Book_do _ _) ?_
    walk_at "rd"
    refine r_mk (by simp) fun t ht => ?_
    walk_at "rd"
    refine r_mk (by simp) fun l hl => ?_
    walk_at "rd"
    refine r_mk (by simp) fun d hd => ?_
    have s1 := same_upd (o := .tup [.str "cup", .int 1000000, .int 1, .int 1]) ht
    have s2 := same_upd (o := .lst [.ref t]) hl
    have s3 := same_upd (o := .tup [.str "order", .ref l]) hd
    have s4 := (s1.trans s2).trans s3
    have so := step_ord1 (es := B.each) cup_ok (by omega)
    walk_at "rd"
    refine ⟨b, B, L, .ref d, rfl, h.same s4, ok, by omega, .inl ⟨.ord [cup], ⟨d, l, [.ref t], rfl, upd_same, s3 _ _ upd_same, h.fresh (upd_none hl).2, .cons ⟨t, rfl, s3 _ _ (s2 _ _ upd_same)⟩ .nil⟩, trivial, few1 (by decide +kernel), ⟨fun e q => (by rw [so] at q; cases q), fun es cs q r L' H3 h3 m3 st3 hr nr ch => ?_⟩⟩⟩
    have ok3 := step_ok ok (d := .ord [cup]) trivial q
    rw [so] at q
    cases q
    have N3 := (N.ext s4).mod m3
    have a3 := N3.same _ _ ha
    have eo : (B.each ++ [⟨[cup.ln], 0, []⟩])[i]? = some ⟨[cup.ln], 0, []⟩ := by
      rw [List.getElem?_append_right (by omega), ln, Nat.sub_self]; rfl
    have old : ∀ (j : Nat) o, j ≠ i → (B.each ++ [⟨[cup.ln], 0, []⟩])[j]? = some o → (o.lines.map Ln.charge).sum = c j ∧ o.money = 0 := fun j o z e => by
      by_cases hj : j < B.each.length
      · rw [List.getElem?_append_left hj] at e
        exact at_ j o e
      · have := (List.getElem?_eq_some_iff.mp e).1
        simp at this
        omega
    walk_at "rd"
    refine r_ixL (SqL.of a3) (atI_get (j := i) rfl (l2i_at c hi)) ?_
    walk_at "rd"
    refine r_itd (fun cp => ?_) (fun cp => ?_)
    · obtain ⟨d3, hb3⟩ := h3.ob
      walk_at "rd"
      refine r_m hb3 (no_Book_do _ _) ?_
      walk_at "rd"
      refine r_ixL (SqL.of a3) (atI_get (j := i) rfl (l2i_at c hi)) ?_
      walk_at "rd"
      refine r_mk (by simp) fun d hd => ?_
      have s5 := same_upd (o := .tup [.str "deliver", .int i, .int 0, .int (c i)]) hd
      walk_at "rd"
      have hci := hc i
      have sd : step (B.each ++ [⟨[cup.ln], 0, []⟩]) (.ln "deliver" i 0 (c i)) = .ok ((B.each ++ [(⟨[cup.ln], 0, []⟩ : Od)]).set i (Od.mark ⟨[{ cup.ln with sent := 0 + c i }], 0, []⟩ "deliver" (c i)), [((i : Int), c i)]) := by
        simp only [step]
        unfold stepLn
        rw [at_some eo]
        dsimp only
        rw [at_0]
        dsimp only
        rw [if_neg (by omega)]
        have et : cup.ln.turn "deliver" (c i) = some { cup.ln with sent := 0 + c i } := by
          unfold Ln.turn Ln.deliver
          rw [if_pos rfl, if_neg]
          · rfl
          · show ¬ c i > 1000000 - 0 + 0
            omega
        rw [et]
        have eo2 : Od.owing ⟨[{ cup.ln with sent := 0 + c i }], 0, []⟩ - Od.owing ⟨[cup.ln], 0, []⟩ = c i := by
          simp [Od.owing, Ln.charge, Ln.worth, Ln.kept, Lt.ln]
        simp only [List.set_cons_zero]
        rw [eo2]
      refine ⟨b, ⟨B.each ++ [⟨[cup.ln], 0, []⟩], B.trail ++ [.ord [cup]]⟩, L', .ref d, rfl, h3.same s5, ok3, (by simp; omega), .inl ⟨.ln "deliver" i 0 (c i), ⟨d, rfl, upd_same⟩, .inl rfl, trivial, ⟨fun e q => (by rw [sd] at q; cases q), fun es cs q r L5 H5 h5 m5 st5 hr5 nr5 ch5 => ?_⟩⟩⟩
      have ok5 := step_ok ok3 (d := .ln "deliver" i 0 (c i)) (.inl rfl) q
      rw [sd] at q
      cases q
      refine ⟨_, _, L5, rfl, h5, ok5, (by simp; omega), (by simp; omega), fun j o e => ?_, (N3.ext s5).mod m5⟩
      by_cases z : j = i
      · subst z
        rw [List.getElem?_set_self (by simp; omega)] at e
        cases e
        refine ⟨?_, rfl⟩
        simp [Od.mark, Ln.charge, Ln.worth, Ln.kept, Lt.ln]
      · rw [List.getElem?_set_ne (Ne.symm z)] at e
        exact old j o z e
    · walk_at "rd"
      refine ⟨_, _, L', rfl, h3, ok3, (by simp; omega), (by simp; omega), fun j o e => ?_, N3⟩
      by_cases z : j = i
      · subst z
        rw [eo] at e
        cases e
        have := hc j
        refine ⟨?_, rfl⟩
        simp [Ln.charge, Ln.worth, Ln.kept, Lt.ln]
        omega
      · exact old j o z e
  · rintro σ H1 ⟨v, B, L, rfl, h, ok, tr, ln, at_, N⟩
    walk_at "rd"
    exact k b B L H1 h ok tr ⟨ln, at_⟩ N

/-! ### money deeds on the two orders -/
def ap1 (s : Nat → Int) (c : Int × Int) : Nat → Int := fun i => if (i : Int) = c.1 then s i - c.2 else s i
def ap (s : Nat → Int) (cs : List (Int × Int)) : Nat → Int := cs.foldl ap1 s
theorem Two.set {B : Bk} {c s : Nat → Int} {j : Nat} {o : Od} {tr : List Dd} {x : Int} (T : Two B c s) (h : (o.lines.map Ln.charge).sum = c j) (m : o.money = s j - x) : Two ⟨B.each.set j o, tr⟩ c (ap1 s (j, x)) where
  len := by simp [T.len]
  at_ := fun i u e => by
    have e' : (B.each.set j o)[i]? = some u := e
    unfold ap1
    by_cases z : j = i
    · subst z
      have hl : j < B.each.length := by
        have := (List.getElem?_eq_some_iff.mp e').1
        simpa using this
      rw [List.getElem?_set_self hl] at e'
      cases e'
      rw [if_pos rfl]
      exact ⟨h, m⟩
    · rw [List.getElem?_set_ne z] at e'
      rw [if_neg (by intro q; apply z; have : (i : Int) = (j : Int) := q; omega)]
      exact T.at_ i u e'
def mDeed (w : Str) (j n : Int) : Dd := if w = "move" then .mv j (1 - j) n else .mo w j n
theorem Two.get {B : Bk} {c s : Nat → Int} {j : Nat} (T : Two B c s) (h : j < 2) : ∃ o, B.each[j]? = some o ∧ (o.lines.map Ln.charge).sum = c j ∧ o.money = s j ∧ o.owing = c j - s j := by
  have hl : j < B.each.length := by rw [T.len]; exact h
  obtain ⟨a, b⟩ := T.at_ j _ (List.getElem?_eq_getElem hl)
  exact ⟨_, List.getElem?_eq_getElem hl, a, b, by unfold Od.owing; rw [a, b]⟩
def mWord (w : Str) : Prop := w = "pay" ∨ w = "refund" ∨ w = "move"
theorem mDeed_good {w : Str} {j n : Int} (h : mWord w) : (mDeed w j n).good ∧ (mDeed w j n).few := by
  unfold mDeed
  rcases h with rfl | rfl | rfl
  · rw [if_neg (by decide +kernel)]; exact ⟨.inl rfl, trivial⟩
  · rw [if_neg (by decide +kernel)]; exact ⟨.inr rfl, trivial⟩
  · rw [if_pos rfl]; exact ⟨trivial, trivial⟩
theorem pay_owing {o : Od} {x : Int} : (o.pay x).owing = o.owing - x := by
  show (o.lines.map Ln.charge).sum - (o.money + x) = (o.lines.map Ln.charge).sum - o.money - x
  omega
theorem two_err1 {B : Bk} {c s : Nat → Int} {j : Nat} {w : Str} {n : Int} (T : Two B c s) (h : j < 2) (hn : n < 1) : step B.each (mDeed w j n) = .error .noNumber := by
  obtain ⟨o, eo, _⟩ := T.get h
  unfold mDeed
  split
  · obtain ⟨p, ep, _⟩ := T.get (j := 1 - j) (by omega)
    have e1 : (1 : Int) - (j : Int) = ((1 - j : Nat) : Int) := by omega
    simp only [step]
    unfold stepMv
    rw [e1, at_some eo]
    dsimp only
    rw [at_some ep]
    dsimp only
    rw [if_neg (by omega), if_pos hn]
  · simp only [step]
    unfold stepMo
    rw [at_some eo]
    dsimp only
    rw [if_pos hn]
theorem two_err2 {B : Bk} {c s : Nat → Int} {j : Nat} {w : Str} {n : Int} (T : Two B c s) (h : j < 2) (hn : ¬ n < 1) (hw : ¬ w = "pay") (hm : n > s j - c j) : step B.each (mDeed w j n) = .error .tooMuch := by
  obtain ⟨o, eo, _, _, ow⟩ := T.get h
  unfold mDeed
  split
  · obtain ⟨p, ep, _⟩ := T.get (j := 1 - j) (by omega)
    have e1 : (1 : Int) - (j : Int) = ((1 - j : Nat) : Int) := by omega
    simp only [step]
    unfold stepMv
    rw [e1, at_some eo]
    dsimp only
    rw [at_some ep]
    dsimp only
    rw [if_neg (by omega), if_neg hn, if_pos (by omega)]
  · simp only [step]
    unfold stepMo
    rw [at_some eo]
    dsimp only
    rw [if_neg hn, if_neg hw, if_pos (by omega)]
theorem two_ok {B : Bk} {c s : Nat → Int} {j : Nat} {w : Str} {n : Int} (tr : List Dd) (T : Two B c s) (h : j < 2) (hn : ¬ n < 1) (hw : mWord w) (hm : w = "pay" ∨ ¬ n > s j - c j) :
    ∃ es, step B.each (mDeed w j n) = .ok (es, chOf w j n) ∧ Two ⟨es, tr⟩ c (ap s (chOf w j n)) := by
  obtain ⟨o, eo, co, mo, ow⟩ := T.get h
  rcases hw with rfl | rfl | rfl
  · refine ⟨B.each.set j (Od.mark (o.pay n) "pay" (-n)), ?_, ?_⟩
    rotate_left
    · unfold chOf ap
      rw [if_pos rfl]
      exact T.set (o := Od.mark (o.pay n) "pay" (-n)) co (by show o.money + n = _; omega)
    · unfold mDeed chOf
      rw [if_neg (by decide +kernel), if_pos rfl]
      simp only [step]
      unfold stepMo
      rw [at_some eo]
      dsimp only
      rw [if_neg hn, if_pos rfl, pay_owing, show o.owing - n - o.owing = -n by omega]
  · have np : ¬ ("refund" : Str) = "pay" := by decide +kernel
    have hm2 : ¬ n > s j - c j := hm.elim (fun z => absurd z np) id
    refine ⟨B.each.set j (Od.mark (o.pay (-n)) "refund" n), ?_, ?_⟩
    rotate_left
    · unfold chOf ap
      rw [if_neg np, if_pos rfl]
      exact T.set (o := Od.mark (o.pay (-n)) "refund" n) co (by show o.money + -n = _; omega)
    · unfold mDeed chOf
      rw [if_neg (by decide +kernel), if_neg np, if_pos rfl]
      simp only [step]
      unfold stepMo
      rw [at_some eo]
      dsimp only
      rw [if_neg hn, if_neg np, if_neg (by omega), pay_owing, show o.owing - -n - o.owing = n by omega]
  · have np : ¬ ("move" : Str) = "pay" := by decide +kernel
    have nr : ¬ ("move" : Str) = "refund" := by decide +kernel
    have hm2 : ¬ n > s j - c j := hm.elim (fun z => absurd z np) id
    obtain ⟨p, ep, cp, mp, _⟩ := T.get (j := 1 - j) (by omega)
    have e1 : (1 : Int) - (j : Int) = ((1 - j : Nat) : Int) := by omega
    refine ⟨(B.each.set j (Od.mark (o.pay (-n)) "move" n)).set (1 - j) (Od.mark (p.pay n) "move" (-n)), ?_, ?_⟩
    rotate_left
    · unfold chOf ap
      rw [if_neg np, if_neg nr, e1]
      have T1 := T.set (tr := tr) (o := Od.mark (o.pay (-n)) "move" n) (x := n) co (by show o.money + -n = _; omega)
      refine Two.set (B := ⟨_, tr⟩) (o := Od.mark (p.pay n) "move" (-n)) T1 cp ?_
      show p.money + n = ap1 s (j, n) (1 - j) - -n
      unfold ap1
      rw [if_neg (by show ¬ ((1 - j : Nat) : Int) = (j : Int); omega)]
      omega
    · unfold mDeed chOf
      rw [if_pos rfl, if_neg np, if_neg nr, e1]
      simp only [step]
      unfold stepMv
      rw [at_some eo]
      dsimp only
      rw [at_some ep]
      dsimp only
      rw [if_neg (by omega), if_neg hn, if_neg (by omega), pay_owing, pay_owing, show o.owing - -n - o.owing = n by omega, show p.owing - n - p.owing = -n by omega]
theorem mword_at (z : Int) : ∃ w : Str, mWord w ∧ atI [V.str "pay", .str "pay", .str "refund", .str "move"] (z % 4) = some (.str w) := by
  have h : z % 4 = ((0 : Nat) : Int) ∨ z % 4 = ((1 : Nat) : Int) ∨ z % 4 = ((2 : Nat) : Int) ∨ z % 4 = ((3 : Nat) : Int) := by omega
  rcases h with h | h | h | h
  · exact ⟨_, .inl rfl, atI_get h rfl⟩
  · exact ⟨_, .inl rfl, atI_get h rfl⟩
  · exact ⟨_, .inr (.inl rfl), atI_get h rfl⟩
  · exact ⟨_, .inr (.inr rfl), atI_get h rfl⟩
def spLaw (K : PySem.W.Frag) : Sp := fun vs H Q _ => ∃ a, vs = [.ref a] ∧ Script K H a ∧ ∀ H', Q (.bl true) H'
theorem len_Law {K : PySem.W.Frag} {vs : List V} {H : Hp} {Q : VK} {E : XK} (h : spLaw K vs H Q E) : vs.length = 1 := by
  obtain ⟨_, rfl, _⟩ := h; rfl
/-- between the turns -/
structure Mid (K : PySem.W.Frag) (H0 H : Hp) (i : Nat) (b ca e : Addr) (B : Bk) (L : Lay) (c s : Nat → Int) : Prop where
  bk : BookAt K H b B L
  ok : B.ok
  tr : B.trail.length ≤ 4 + i
  two : Two B c s
  lca : H ca = some (.lst (L2i c))
  le : H e = some (.lst (L2i s))
  nc : L.own ca = .no
  ne : L.own e = .no
  new : New L H0 H
theorem Mid.same {K : PySem.W.Frag} {H0 H H' : Hp} {i : Nat} {b ca e : Addr} {B : Bk} {L : Lay} {c s : Nat → Int} (M : Mid K H0 H i b ca e B L c s) (q : Same H H') : Mid K H0 H' i b ca e B L c s :=
  ⟨M.bk.same q, M.ok, M.tr, M.two, q _ _ M.lca, q _ _ M.le, M.nc, M.ne, M.new.ext q⟩
theorem Mid.next {K : PySem.W.Frag} {H0 H : Hp} {i : Nat} {b ca e : Addr} {B : Bk} {L : Lay} {c s : Nat → Int} (M : Mid K H0 H i b ca e B L c s) : Mid K H0 H (i + 1) b ca e B L c s :=
  ⟨M.bk, M.ok, Nat.le_succ_of_le M.tr, M.two, M.lca, M.le, M.nc, M.ne, M.new⟩

theorem ap_snoc {s : Nat → Int} {cs : List (Int × Int)} {i : Nat} {c : Int × Int} (h : cs[i]? = some c) : ap s (cs.take (i + 1)) = ap1 (ap s (cs.take i)) c := by
  unfold ap
  rw [take_snoc h, List.foldl_append]
  rfl
theorem ap1_set {s : Nat → Int} {j : Nat} {x : Int} (h : j < 2) : (L2i s).set j (.int (s j - x)) = L2i (ap1 s ((j : Int), x)) := by
  unfold L2i ap1
  have : j = 0 ∨ j = 1 := by omega
  rcases this with rfl | rfl <;> simp
theorem ch_fst {w : Str} {j : Nat} {n : Int} (h : j < 2) : ∀ c, c ∈ chOf w j n → ∃ i : Nat, i < 2 ∧ c.1 = (i : Int) := by
  intro c hc
  unfold chOf at hc
  repeat' split at hc
  · exact ⟨j, h, by rw [List.mem_singleton.mp hc]⟩
  · exact ⟨j, h, by rw [List.mem_singleton.mp hc]⟩
  · rcases List.mem_cons.mp hc with e | e
    · exact ⟨j, h, by rw [e]⟩
    · exact ⟨1 - j, by omega, by
        rw [List.mem_singleton.mp e]
        show (1 : Int) - (j : Int) = _
        omega⟩
theorem ok_Law {P : Program} {w : World} {K : PySem.W.Frag} {mg : Str → Option Value} {base : Heap} (T : Tx w K mg) : FnOk P w K mg base CX0 9 (He.fAd K dLaw.at_) (fdO K dLaw.at_) P_Law (spLaw K) := by
  refine T.f_Law.ok sc_Law (fun vs H Q E h => len_Law h) (fun cdv A outer s H vs Q E hr h => ⟨_, PSs.nox ((pss_cons (ps_set (i := 1) sc_Law.nd rfl (Or.inl rfl) (pe_lst (pa_cons (pe_op op_mod (pe_call (ok_LCellAt T) (hr.mono (by decide)) rfl T.g_LCellAt T.f_LCellAt.kp T.b_LCellAt .nil pass0 (pa_cons (pv 0) (pa_cons pe_int pa_nil))) pe_int) (pa_cons (pe_op op_mod (pe_call (ok_LCellAt T) (hr.mono (by decide)) rfl T.g_LCellAt T.f_LCellAt.kp T.b_LCellAt .nil pass0 (pa_cons (pv 0) (pa_cons pe_int pa_nil))) pe_int) pa_nil))))
      (pss_cons (ps_set (i := 2) sc_Law.nd rfl (Or.inl rfl) (pe_call (ok_LBegun T) (hr.mono (by decide)) rfl T.g_LBegun T.f_LBegun.kp T.b_LBegun .nil pass0 (pa_cons (pv 1) pa_nil)))
      (pss_cons (ps_set (i := 3) sc_Law.nd rfl (Or.inl rfl) (pe_lst (pa_cons pe_int (pa_cons pe_int pa_nil))))
      (pss_cons (ps_for PassesOwn.never rfl (pi_range2 (by rfl) T.b_range (pa_cons pe_int (pa_cons (pe_op op_fdiv (pe_callB call_len_seq (by rfl) T.b_len (by decide +kernel) (pa_cons (pv 0) pa_nil)) pe_int) pa_nil))) (pg_name (i := 4) sc_Law.nd rfl (Or.inl rfl)) (pss_cons (ps_set (i := 5) sc_Law.nd rfl (Or.inl rfl) (pe_ix ix_list (pe_lst (pa_cons pe_str (pa_cons pe_str (pa_cons pe_str (pa_cons pe_str pa_nil))))) (pe_op op_mod (pe_ix ix_list (pv 0) (pe_op op_mul pe_int (pv 4)) (fun _ _ => rfl)) pe_int) (fun _ _ => rfl)))
      (pss_cons (ps_set (i := 6) sc_Law.nd rfl (Or.inl rfl) (pe_op op_mod (pe_op op_fdiv (pe_ix ix_list (pv 0) (pe_op op_mul pe_int (pv 4)) (fun _ _ => rfl)) pe_int) pe_int))
      (pss_cons (ps_set (i := 7) sc_Law.nd rfl (Or.inl rfl) (pe_op op_sub (pe_ix ix_list (pv 3) (pv 6) (fun _ _ => rfl)) (pe_ix ix_list (pv 1) (pv 6) (fun _ _ => rfl))))
      (pss_cons (ps_set (i := 8) sc_Law.nd rfl (Or.inl rfl) (pv 7))
      (pss_cons (ps_if (pt_cmpR op_eq (pv 5) pe_str (nomark _)) (pss_one (ps_set (i := 8) sc_Law.nd rfl (Or.inl rfl) (pe_un un_neg (pv 7)))) pss_nil)
      (pss_cons (ps_set (i := 9) sc_Law.nd rfl (Or.inl rfl) (pe_call (ok_LNumberBy T) (hr.mono (by decide)) rfl T.g_LNumberBy T.f_LNumberBy.kp T.b_LNumberBy .nil pass0 (pa_cons (pe_ix ix_list (pv 0) (pe_op op_add (pe_op op_mul pe_int (pv 4)) pe_int) (fun _ _ => rfl)) (pa_cons (pv 8) pa_nil))))
      (pss_cons (ps_if (PW.pt (pw_and (pt_cmpR op_eq (pv 5) pe_str (nomark _)) (pw_and1 (pt_cmpR op_eq (pe_op op_mod (pe_op op_fdiv (pe_ix ix_list (pv 0) (pe_op op_mul pe_int (pv 4)) (fun _ _ => rfl)) pe_int) pe_int) pe_int (nomark _))))) (pss_one (ps_set (i := 9) sc_Law.nd rfl (Or.inl rfl) (pe_op op_add pe_int (pe_op op_mod (pe_ix ix_list (pv 0) (pe_op op_add (pe_op op_mul pe_int (pv 4)) pe_int) (fun _ _ => rfl)) (pe_op op_pow pe_int pe_int))))) pss_nil)
      (pss_cons (ps_set (i := 10) sc_Law.nd rfl (Or.inl rfl) (pe_tup (pa_cons (pv 5) (pa_cons (pv 6) (pa_cons (pv 9) pa_nil)))))
      (pss_cons (ps_if (pt_cmpR op_eq (pv 5) pe_str (nomark _)) (pss_one (ps_set (i := 10) sc_Law.nd rfl (Or.inl rfl) (pe_tup (pa_cons (pv 5) (pa_cons (pv 6) (pa_cons (pe_op op_sub pe_int (pv 6)) (pa_cons (pv 9) pa_nil))))))) pss_nil)
      (pss_cons (ps_set (i := 11) sc_Law.nd rfl (Or.inl rfl) (pe_call (ok_LTried T) (hr.mono (by decide)) rfl T.g_LTried T.f_LTried.kp T.b_LTried .nil pass0 (pa_cons (pv 2) (pa_cons (pv 10) pa_nil))))
      (pss_cons (ps_if (pt_cmpR op_lt (pv 9) pe_int (nomark _)) (pss_one (ps_if (pt_cmpR (op_neD hr.units) (pv 11) pe_str (nomark _)) (pss_one (ps_ret pe_bl)) pss_nil)) (pss_one (ps_if (PW.pt (pw_and (pt_cmpR op_ne (pv 5) pe_str (nomark _)) (pw_and1 (pt_cmpR op_gt (pv 9) (pv 7) (nomark _))))) (pss_one (ps_if (pt_cmpR (op_neD hr.units) (pv 11) pe_str (nomark _)) (pss_one (ps_ret pe_bl)) pss_nil)) (pss_cons (ps_set (i := 12) sc_Law.nd rfl (Or.inl rfl) (pe_call (ok_LChanges T) (hr.mono (by decide)) rfl T.g_LChanges T.f_LChanges.kp T.b_LChanges .nil pass0 (pa_cons (pv 5) (pa_cons (pv 6) (pa_cons (pv 9) pa_nil)))))
      (pss_cons (ps_if (pt_not (pt_val (pe_call (ok_LPairsAlike T) (hr.mono (by decide)) rfl T.g_LPairsAlike T.f_LPairsAlike.kp T.b_LPairsAlike .nil pass0 (pa_cons (pv 11) (pa_cons (pv 12) pa_nil))))) (pss_one (ps_ret pe_bl)) pss_nil)
      (pss_one (ps_for PassesOwn.never rfl (pi_list (pv 12)) (pg_name (i := 13) sc_Law.nd rfl (Or.inl rfl)) (pss_one (ps_asg (pe_op op_sub (pe_ix ix_list (pv 3) (pe_ix ix_tup (pv 13) pe_int (fun _ _ => rfl)) (fun _ _ => rfl)) (pe_ix ix_tup (pv 13) pe_int (fun _ _ => rfl))) (pg_sub (pv 3) (pe_ix ix_tup (pv 13) pe_int (fun _ _ => rfl)) set_list))))))))))
      (pss_one (ps_if (pt_not (pt_val (pe_call (ok_LStands T) (hr.mono (by decide)) rfl T.g_LStands T.f_LStands.kp T.b_LStands .nil pass0 (pa_cons (pv 2) (pa_cons (pv 1) (pa_cons (pv 3) pa_nil)))))) (pss_one (ps_ret pe_bl)) pss_nil))))))))))))))
      (pss_one (ps_ret pe_bl))))))), ?_⟩)
  obtain ⟨s, rfl, S, k⟩ := h
  obtain ⟨ns, hs0, hn⟩ := id S
  walk_at "rd"
  refine ⟨s, _, rfl, S, by decide, fun n0 => ?_⟩
  walk_at "rd"
  refine r_I (by walk_at "pos") ?_
  walk_at "rd"
  refine ⟨s, _, rfl, S, by decide, fun n1 => ?_⟩
  walk_at "rd"
  refine r_I (by walk_at "pos") ?_
  walk_at "rd"
  refine r_mk (by simp) fun ca hca => ?_
  obtain ⟨c, hc, ec⟩ : ∃ c : Nat → Int, (∀ j, 0 ≤ c j ∧ c j ≤ 1000000) ∧ [V.int (n0 % 1000001), V.int (n1 % 1000001)] = L2i c := ⟨fun j => if j = 0 then n0 % 1000001 else n1 % 1000001, fun j => by
    by_cases z : j = 0
    · simp only [z, if_pos]; omega
    · simp only [z, if_neg, not_false_eq_true]; omega, rfl⟩
  rw [ec]
  have s1 := same_upd (o := .lst (L2i c)) hca
  have e1 : upd H ca (.lst (L2i c)) ca = some (.lst (L2i c)) := upd_same
  revert s1 e1
  generalize upd H ca (.lst (L2i c)) = H1
  intro s1 e1
  walk_at "rd"
  refine ⟨ca, c, rfl, e1, hc, fun b B L H2 h ok tr two N => ?_⟩
  walk_at "rd"
  refine r_mk (by simp) fun e he => ?_
  have s2 := same_upd (o := .lst (L2i fun _ => 0)) he
  have ee : upd H2 e (.lst (L2i fun _ => 0)) e = some (.lst (L2i fun _ => 0)) := upd_same
  have e1e : H1 e = none := Same.free N.same he
  change tSeq _ _ _ _ (upd H2 e (.lst (L2i fun _ => 0)))
  revert s2 ee
  generalize upd H2 e (.lst (L2i fun _ => 0)) = H3
  intro s2 ee
  walk_at "rd"
  have M0 : Mid K H1 H3 0 b ca e B L c (fun _ => 0) := ⟨h.same s2, ok, tr, two, s2 _ _ (N.same _ _ e1), ee, N.no e1, h.fresh he, N.ext s2⟩
  have ki : ∀ H'', Same H1 H'' → SqL K H'' s (ns.map V.int) := fun H'' q => SqL.keep hs0 fun o e => q _ _ (s1 _ _ e)
  refine ⟨s, _, rfl, .inl (ki _ M0.new.same), ?_⟩
  rw [List.length_map]
  walk_at "rd"
  refine r_I (by walk_at "pos") ?_
  walk_at "rd"
  refine ⟨1, _, rfl, by omega, ?_⟩
  refine for_range (lo := 1) (n := (((ns.length : Nat) : Int) / 2 - 1).toNat) (fun i σ H' => ∃ (B : Bk) (L : Lay) (sm : Nat → Int) (v4 v5 v6 v7 v8 v9 v10 v11 v12 v13 : Option V),
    σ = [some (.ref s), some (.ref ca), some (.ref b), some (.ref e), v4, v5, v6, v7, v8, v9, v10, v11, v12, v13] ∧ Mid K H1 H' i b ca e B L c sm) ⟨B, L, fun _ => 0, none, none, none, none, none, none, none, none, none, none, rfl, M0⟩ ?_ ?_
  · rintro i σ H' hi ⟨B, L, sm, v4, v5, v6, v7, v8, v9, v10, v11, v12, v13, rfl, M⟩
    have l1 : 2 * (1 + i) + 1 < ns.length := by omega
    walk_at "rd"
    refine r_mk (by simp) fun q hq => ?_
    have M1 := M.same (same_upd (o := .lst [.str "pay", .str "pay", .str "refund", .str "move"]) hq)
    have eq : upd H' q (.lst [.str "pay", .str "pay", .str "refund", .str "move"]) q = some (.lst [.str "pay", .str "pay", .str "refund", .str "move"]) := upd_same
    revert M1 eq
    generalize upd H' q (.lst [.str "pay", .str "pay", .str "refund", .str "move"]) = H4
    intro M1 eq
    have hs1 := ki _ M1.new.same
    walk_at "rd"
    refine r_I (.inl ⟨by decide, by decide⟩) ?_
    refine r_ixL hs1 (atI_get (j := 2 * (1 + i)) (by omega) (int_at (by omega))) ?_
    walk_at "rd"
    refine r_I (by walk_at "pos") ?_
    obtain ⟨wd, hw, ew⟩ := mword_at ns[2 * (1 + i)]
    refine r_ixL (SqL.of eq) ew ?_
    walk_at "rd"
    refine r_I (.inl ⟨by decide, by decide⟩) ?_
    refine r_ixL hs1 (atI_get (j := 2 * (1 + i)) (by omega) (int_at (by omega))) ?_
    walk_at "rd"
    refine r_I (by walk_at "pos") ?_
    walk_at "rd"
    refine r_I (by walk_at "pos") ?_
    obtain ⟨j, hj, ej⟩ : ∃ j : Nat, j < 2 ∧ ns[2 * (1 + i)] / 4 % 2 = (j : Int) := ⟨(ns[2 * (1 + i)] / 4 % 2).toNat, by omega, by omega⟩
    rw [ej]
    walk_at "rd"
    refine r_ixL (SqL.of M1.le) (atI_get (j := j) rfl (l2i_at sm hj)) ?_
    walk_at "rd"
    refine r_ixL (SqL.of M1.lca) (atI_get (j := j) rfl (l2i_at c hj)) ?_
    walk_at "rs"
    walk_at "rd1"
    walk_at "rs"
    with_reducible refine r_join (fun σ' H' => H4 = H' ∧ ∃ m : Int, σ' = [some (.ref s), some (.ref ca), some (.ref b), some (.ref e), some (.int (1 + i)), some (.str wd), some (.int j), some (.int (sm j - c j)), some (.int m), v9, v10, v11, v12, v13]) ?_ fun N hN => ?_
    rotate_left
    · walk_at "rd"
      refine r_itd (fun cp => ?_) (fun cp => ?_)
      · walk_at "rd"
        exact hN _ _ ⟨rfl, _, rfl⟩
      · walk_at "rd"
        exact hN _ _ ⟨rfl, _, rfl⟩
    rintro σ' H' ⟨rfl, m, rfl⟩
    walk_at "rd1"
    walk_at "rs"
    refine r_I (.inl ⟨by decide, by decide⟩) ?_
    walk_at "rs"
    refine r_ixL hs1 (atI_get (j := 2 * (1 + i) + 1) (by omega) (int_at (by omega))) ?_
    walk_at "rs"
    refine ⟨_, _, rfl, fun n0 => ?_⟩
    walk_at "rs"
    with_reducible refine r_join (fun σ' H' => H4 = H' ∧ ∃ n : Int, σ' = [some (.ref s), some (.ref ca), some (.ref b), some (.ref e), some (.int (1 + i)), some (.str wd), some (.int j), some (.int (sm j - c j)), some (.int m), some (.int n), v10, v11, v12, v13]) ?_ fun N hN => ?_
    rotate_left
    · walk_at "rd"
      refine r_itd (fun cp => ?_) (fun cp => ?_)
      · walk_at "rd"
        refine r_I (.inl ⟨by decide, by decide⟩) ?_
        refine r_ixL hs1 (atI_get (j := 2 * (1 + i)) (by omega) (int_at (by omega))) ?_
        walk_at "rd"
        refine r_I (by walk_at "pos") ?_
        walk_at "rd"
        refine r_I (by walk_at "pos") ?_
        walk_at "rd"
        refine r_itd (fun cp => ?_) (fun cp => ?_)
        · walk_at "rd"
          refine r_I (.inl ⟨by decide, by decide⟩) ?_
          walk_at "rd"
          refine r_ixL hs1 (atI_get (j := 2 * (1 + i) + 1) (by omega) (int_at (by omega))) ?_
          walk_at "rd"
          refine r_I ⟨by decide, by decide, by decide⟩ ?_
          refine r_I (by decide) ?_
          walk_at "rd"
          exact hN _ _ ⟨rfl, _, rfl⟩
        · walk_at "rd"
          exact hN _ _ ⟨rfl, _, rfl⟩
      · walk_at "rd"
        exact hN _ _ ⟨rfl, _, rfl⟩
    rintro σ' H' ⟨rfl, n, rfl⟩
    walk_at "rd1"
    walk_at "rs"
    refine r_mk (by simp) fun d0 hd0 => ?_
    have s5 := same_upd (o := .tup [.str wd, .int j, .int n]) hd0
    have e5 : upd H4 d0 (.tup [.str wd, .int j, .int n]) d0 = some (.tup [.str wd, .int j, .int n]) := upd_same
    revert s5 e5
    generalize upd H4 d0 (.tup [.str wd, .int j, .int n]) = H5
    intro s5 e5
    walk_at "rs"
    with_reducible refine r_join (fun σ' H'' => ∃ d, σ' = [some (.ref s), some (.ref ca), some (.ref b), some (.ref e), some (.int (1 + i)), some (.str wd), some (.int j), some (.int (sm j - c j)), some (.int m), some (.int n), some (.ref d), v11, v12, v13] ∧
      Same H4 H'' ∧ DdAt (fun a => L.own a = .no) H'' (.ref d) (mDeed wd j n)) ?_ fun N hN => ?_
    rotate_left
    · walk_at "rd"
      refine r_itd (fun cp => ?_) (fun cp => ?_)
      · walk_at "rd"
        refine r_mk (by simp) fun d1 hd1 => ?_
        walk_at "rd"
        refine hN _ _ ⟨d1, rfl, s5.trans (same_upd hd1), ?_⟩
        unfold mDeed
        rw [if_pos cp, cp]
        exact ⟨d1, rfl, upd_same⟩
      · walk_at "rd"
        refine hN _ _ ⟨d0, rfl, s5, ?_⟩
        unfold mDeed
        rw [if_neg cp]
        exact ⟨d0, rfl, e5⟩
    rintro σ' H6 ⟨d, rfl, s6, hd⟩
    have M6 := M1.same s6
    have trl : B.trail.length < 100000 := by
      have := M6.tr
      omega
    obtain ⟨gd, fw⟩ := mDeed_good (j := j) (n := n) hw
    walk_at "rd1"
    walk_at "rs"
    refine ⟨b, B, L, .ref d, rfl, M6.bk, M6.ok, trl, mDeed wd j n, hd, gd, fw, ?_⟩
    refine tried_by (fun v H7 => (n < 1 ∧ v = .str "NoNumber" ∧ Mid K H1 H7 i b ca e B L c sm) ∨ (¬ n < 1 ∧ ¬ wd = "pay" ∧ n > sm j - c j ∧ v = .str "TooMuch" ∧ Mid K H1 H7 i b ca e B L c sm) ∨
      (¬ n < 1 ∧ (wd = "pay" ∨ ¬ n > sm j - c j) ∧ ∃ r B' L', v = .ref r ∧ ChAt H7 r (chOf wd j n) ∧ BookAt K H7 b B' L' ∧ B'.ok ∧ B'.trail.length ≤ 4 + (i + 1) ∧ Two B' c (ap sm (chOf wd j n)) ∧ H7 ca = some (.lst (L2i c)) ∧ H7 e = some (.lst (L2i sm)) ∧ L'.own ca = .no ∧ L'.own e = .no ∧ New L' H1 H7)) (fun v H7 oc => ?_) ?_
    rotate_left
    · by_cases c1 : n < 1
      · have st := two_err1 (w := wd) M6.two hj c1
        refine ⟨fun er q => ?_, fun es cs q => by rw [st] at q; cases q⟩
        rw [st] at q
        cases q
        exact ⟨by simp, fun H7 s7 => .inl ⟨c1, rfl, M6.same s7⟩⟩
      · by_cases c2 : wd = "pay" ∨ ¬ n > sm j - c j
        · obtain ⟨es, st, tw⟩ := two_ok (B.trail ++ [mDeed wd j n]) M6.two hj c1 hw c2
          refine ⟨fun er q => (by rw [st] at q; cases q), fun es' cs q r L' H7 h7 m7 st7 hr nr ch => ?_⟩
          have ok7 := step_ok M6.ok gd q
          rw [st] at q
          cases q
          obtain ⟨a1, a2⟩ := m7.no M6.lca M6.nc
          obtain ⟨a3, a4⟩ := m7.no M6.le M6.ne
          refine .inr (.inr ⟨c1, c2, r, _, L', rfl, ch, h7, ok7, ?_, tw, a1, a3, a2, a4, M6.new.mod m7⟩)
          have := M6.tr
          simp
          omega
        · have c3 : ¬ wd = "pay" := fun z => c2 (.inl z)
          have c4 : n > sm j - c j := Decidable.byContradiction fun z => c2 (.inr z)
          have st := two_err2 (w := wd) M6.two hj c1 c3 c4
          refine ⟨fun er q => ?_, fun es cs q => by rw [st] at q; cases q⟩
          rw [st] at q
          cases q
          exact ⟨by simp, fun H7 s7 => .inr (.inl ⟨c1, c3, c4, rfl, M6.same s7⟩)⟩
    walk_at "rs"
    with_reducible refine r_join (fun σ' H' => ∃ B' L' sm' v11 v12 v13, σ' = [some (.ref s), some (.ref ca), some (.ref b), some (.ref e), some (.int (1 + i)), some (.str wd), some (.int j), some (.int (sm j - c j)), some (.int m), some (.int n), some (.ref d), v11, v12, v13] ∧
      Mid K H1 H' (i + 1) b ca e B' L' c sm') ?_ fun N hN => ?_
    · rintro σ' H8 ⟨B', L', sm', v11, v12, v13, rfl, M8⟩
      walk_at "rd"
      refine ⟨b, B', L', ca, e, c, sm', rfl, M8.bk, M8.ok, M8.two, M8.lca, M8.le, fun H9 s9 => ?_⟩
      walk_at "rd"
      exact ⟨B', L', sm', _, _, _, _, _, _, _, _, _, _, rfl, M8.same s9⟩
    · rcases oc with ⟨c1, rfl, M7⟩ | ⟨c1, c3, c4, rfl, M7⟩ | ⟨c1, c2, r, B', L', rfl, ch, h7, ok7, tr7, tw7, a1, a3, a2, a4, N7⟩
      · walk_at "rd"
        refine r_ity c1 ?_
        walk_at "rd"
        refine r_neSS (.inr ⟨_, rfl, by decide +kernel⟩) (.inr ⟨_, rfl, by decide +kernel⟩) ?_
        walk_at "rd"
        refine r_itn (fun z => absurd rfl z) (fun _ => ?_)
        walk_at "rd"
        exact hN _ _ ⟨B, L, sm, _, _, _, rfl, M7.next⟩
      · walk_at "rd"
        refine r_itz c1 ?_
        walk_at "rd"
        refine r_itn (fun _ => ?_) (fun z => absurd z c3)
        walk_at "rd"
        refine r_ity c4 ?_
        walk_at "rd"
        refine r_neSS (.inr ⟨_, rfl, by decide +kernel⟩) (.inr ⟨_, rfl, by decide +kernel⟩) ?_
        walk_at "rd"
        refine r_itn (fun z => absurd rfl z) (fun _ => ?_)
        walk_at "rd"
        exact hN _ _ ⟨B, L, sm, _, _, _, rfl, M7.next⟩
      · walk_at "rd"
        refine r_itz c1 ?_
        walk_at "rd"
        refine r_itn (fun cw => ?_) (fun cw => ?_)
        case' refine_1 => (walk_at "rd"; refine r_itz (c2.elim (fun z => absurd z cw) id) ?_)
        all_goals
          walk_at "rd"
          refine ⟨wd, _, n, rfl, fun q H8 s8 hq8 cq8 => ?_⟩
          walk_at "rd"
          refine ⟨r, q, chOf wd j n, rfl, ?_, cq8, ?_⟩
          · obtain ⟨ys, y1, y2⟩ := ch
            exact ⟨ys, s8 _ _ y1, (But.of (S := fun _ => False) s8).prs y2⟩
          walk_at "rd"
          obtain ⟨ys, y1, y2⟩ := cq8
          have hqe : e ≠ q := ne_of_none a3 hq8
          refine ⟨q, rfl, ⟨ys, SqL.of y1⟩, for_list (K := K) (a := q) (xs := ys) (fun i' σ H' => ∃ v13, σ = [some (.ref s), some (.ref ca), some (.ref b), some (.ref e), some (.int (1 + i)), some (.str wd), some (.int j), some (.int (sm j - c j)), some (.int m), some (.int n), some (.ref d), some (.ref r), some (.ref q), v13] ∧
            H' e = some (.lst (L2i (ap sm ((chOf wd j n).take i')))) ∧ But (· = e) H8 H') ⟨_, rfl, s8 _ _ a3, But.refl⟩ (fun i' σ H' _ ⟨_, _, _, bt⟩ => SqL.of (bt.keep _ _ y1 (Ne.symm hqe))) ?_ ?_⟩
          · rintro i' x σ H' hi' ⟨v13, rfl, he', bt⟩
            obtain ⟨cc, ec, t, rfl, ht⟩ := Paired.get_ex y2 hi'
            obtain ⟨i2, hi2, ei2⟩ := ch_fst hj cc (List.mem_of_getElem? ec)
            have ht' := bt.tup _ _ ht
            walk_at "rd"
            refine r_ixT (SqT.of ht') (atI_get (j := 0) rfl rfl) ?_
            rw [ei2]
            refine r_ixL (SqL.of he') (atI_get (j := i2) rfl (l2i_at _ hi2)) ?_
            walk_at "rd"
            refine r_ixT (SqT.of ht') (atI_get (j := 1) rfl rfl) ?_
            walk_at "rd"
            refine r_ixT (SqT.of ht') (atI_get (j := 0) rfl rfl) ?_
            rw [ei2]
            refine r_setL he' (j := i2) rfl hi2 ?_
            refine ⟨_, rfl, ?_, bt.trans (But.lst he' rfl)⟩
            rw [upd_same, ap_snoc ec, ap1_set hi2]
            have e3 : cc = ((i2 : Int), cc.2) := by rw [← ei2]
            rw [← e3]
          · rintro σ H' ⟨v13, rfl, he', bt⟩
            rw [y2.length, List.take_length] at he'
            have nf : ∀ a, L'.own a ≠ .no → ¬ a = e := fun a z y => z (by rw [y]; exact a4)
            have h1e : H1 e = none := e1e
            refine hN _ _ ⟨B', L', ap sm (chOf wd j n), _, _, _, rfl, (h7.same s8).keep bt nf, ok7, tr7, tw7, bt.keep _ _ (s8 _ _ a1) (ne_of_none e1 e1e), he', a2, a4, ⟨fun a o q => bt.keep _ _ (s8 _ _ (N7.same _ _ q)) (ne_of_none q e1e), N7.own⟩⟩
  · rintro σ H' ⟨B, L, sm, v4, v5, v6, v7, v8, v9, v10, v11, v12, v13, rfl, M⟩
    walk_at "rd"
    exact k _

theorem Tx.b_Law_args {w : World} {K : PySem.W.Frag} {mg : Str → Option Value} (T : Tx w K mg) (s : Shared) (v : Value) : BindsTo s (fdO K dLaw.at_) ⟨[v], []⟩ [("_law_script", v)] := by
  have b := FunD.bindsA (ps := ["_law_script"]) T.f_Law fun _ _ _ _ _ _ us hl => match us, hl with | [_], _ => rfl
  exact b s [v] rfl
theorem law_start {K : PySem.W.Frag} {H : Hp} {a : Addr} {ns : List Int} (hs : SqL K H a (ns.map V.int)) (hl : ns.length ≤ 63) : spLaw K [.ref a] H (fun v _ => v = .bl true) fun _ _ _ => False := ⟨a, rfl, ⟨ns, hs, hl⟩, fun _ => rfl⟩
end Of
open PySem PySem.W PySem.Calls PyProof.Rows
set_option maxRecDepth 100000 in
set_option maxHeartbeats 0 in
theorem PySem.Challenge.cw_orderflow_k04_money_holds : PySem.Challenge.rw_orderflow_k04_money.Holds := by
  w_on; o_law
  refine HandSHeadRun.head_any (r := OpenLaw.row PySem.Challenge.rw_orderflow_k04_money) (q := view (OpenLaw.row PySem.Challenge.rw_orderflow_k04_money).prog [39]) (H := Of.hk) (ob := Of.ob) (M := 20000) (loose := Of.names) (d := HandSHeadRun.topDef (OpenLaw.row PySem.Challenge.rw_orderflow_k04_money).prog 39) (kwd := []) Of.ob_eq
    (by kernel_rfl) (fun s => by kernel_rfl) Of.run (by kernel_rfl) (by kernel_rfl) (by kernel_rfl) (by rfl) (by first | assumption | decide +kernel) (by decide +kernel) ⟨rfl, rfl, rfl, rfl, rfl, by decide +kernel⟩ ?hw ?hc
  case hw => w_witness2
  case hc =>
    refine L2.walk_ofE (l := PySem.Challenge.rw_orderflow_k04_money) (n := 63) (k := 9) (x := "_law_script") (CX := L2.CX0) rfl (by decide) (by kernel_rfl) ⟨rfl, by decide, by decide⟩ ?F (fun _ _ _ _ z => z)
    intro w mg fa h Y G hm0
    obtain ⟨K, KX, c⟩ := Y
    have T : Of.Tx w K mg := Of.tx_of KX G c
    have hm : mg ("law" : PySem.Str) = some (.ref fa) := by
      have e : (HandSHeadRun.topDef (OpenLaw.row PySem.Challenge.rw_orderflow_k04_money).prog 39).name = ("law" : PySem.Str) := by kernel_rfl
      rw [← e]
      exact hm0
    have ef : fa = He.fAd K Of.dLaw.at_ := by
      have q := hm.symm.trans T.g_Law
      cases q
      rfl
    rw [ef]
    exact ⟨K, Of.fdO K Of.dLaw.at_, Of.spLaw K, KX, fun s v => T.b_Law_args s v, fun H a ns hl _ hS => Of.law_start hS hl, fun base _ _ => Of.ok_Law T⟩
#print axioms PySem.Challenge.cw_orderflow_k04_money_holds
