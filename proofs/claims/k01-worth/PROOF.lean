import PyProof.Rows.All
import Wide.All
import OpenK.AllK
import Wide.FinOn
import PySem.Challenge.RW_orderflow_k01_worth_rounded_down
open PySem PySem.W PyProof.Rows
set_option Elab.async false
set_option maxRecDepth 100000 in
set_option maxHeartbeats 8000000 in
theorem PySem.Challenge.cw_orderflow_k01_worth_rounded_down_holds : PySem.Challenge.rw_orderflow_k01_worth_rounded_down.Holds := by
  open_k
