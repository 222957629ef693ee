/- VmKnown, its piece 2: run by the kernel. No condition. -/
import Derived.Test.YthjaoljhgimclaaGreatTab
open Go Go.Ev Go.Proofs
namespace Go.Ev.Vm
theorem known2 : exX Tryz.prog (slotsC Tryz.prog 4) (tbF VmTab.tab 4) (tk 2 (dr 5 (bodyC Tryz.prog 4))) (callX Tryz.prog VmTab.tab (lawS []) 60) none noHeap .leaf [] isN = true := by decide +kernel
end Go.Ev.Vm
