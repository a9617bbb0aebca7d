import PyProof.Rows.All
import Wide.All
import OpenK.AllK
import Wide.FinOn
import PySem.Challenge.RW_folio_k00_add_costs
open PySem PySem.W PyProof.Rows
set_option Elab.async false
set_option maxRecDepth 100000 in
set_option maxHeartbeats 8000000 in
theorem PySem.Challenge.cw_folio_k00_add_costs_holds : PySem.Challenge.rw_folio_k00_add_costs.Holds := by
  open_k
