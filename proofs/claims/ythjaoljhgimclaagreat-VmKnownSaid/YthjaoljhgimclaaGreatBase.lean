/- The law's closed row (works) answers true, and leaves all that was there as it was. No condition. -/
import Derived.Test.YthjaoljhgimclaaGreatTab
import Derived.KernelRfl
open Go Go.Ev Go.Proofs
namespace Go.Ev.Vm
theorem names : NamesOk Tryz.prog := namesC_ok (by decide +kernel)
theorem mixed : Tryz.prog.follows .mixedOrders = true := by decide +kernel
theorem works_run : callX Tryz.prog VmTab.tab (lawS []) 60 (.fn 12) [] noHeap isT = true := by decide +kernel
theorem works (w : World) : Calls Tryz.prog 12 #[] w fun e w' => e = .returned (.bool true) ∧ Gr w w' := calls_of_callX names mixed VmTab.tab_ok noS_ok works_run w
theorem sums : SumsOk Tryz.prog (lawS [12]) := lawS_ok fun g hg => by
  cases hg with
  | head => exact ⟨hasB_ex (by decide +kernel), works⟩
  | tail _ h => cases h
end Go.Ev.Vm
