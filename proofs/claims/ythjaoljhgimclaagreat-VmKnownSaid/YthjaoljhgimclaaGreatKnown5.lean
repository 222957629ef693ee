/- VmKnown, its last piece: run by the kernel. No condition. -/
import Derived.Test.YthjaoljhgimclaaGreatTab
open Go Go.Ev Go.Proofs
namespace Go.Ev.Vm
theorem known5 : exX Tryz.prog (slotsC Tryz.prog 4) (tbF VmTab.tab 4) (dr 13 (bodyC Tryz.prog 4)) (callX Tryz.prog VmTab.tab (lawS [12]) 60) none noHeap .leaf [] (finX Tryz.prog (fnC Tryz.prog 4) isT) = true := by decide +kernel
end Go.Ev.Vm
