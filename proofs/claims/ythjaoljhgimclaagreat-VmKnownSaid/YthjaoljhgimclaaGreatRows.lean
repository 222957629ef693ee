/-
  No cell of these rows narrows 'for every input' (looked for: loops, veiled, ifaces, maps, wideKeys, modest, calm, conditions, laid).
  DERIVED. THE GIVEN ROWS OF THIS SEAT. 3 by the template 'for every input the law returns true; each argument reads behind the call as it read before'; 0 by the template 'total and deterministic' (their statements: YthjaoljhgimclaaGreatTotals.lean).
  GIVEN WITH THE SEED: the statements are not yours to turn. If you find one false, say at which input.
  Laid BY PROGRAM, IN A SANDBOX (cutbox-rows.mjs): the forced cells as the released guide's own fill.sh prints them over the translation db62e1ca20e7c013… (all of the seat's roots in one cut). By AI agents, Wed Nov 11 2026. No macro, syntax, notation, axiom, sorry.
-/
import Derived.Test.YthjaoljhgimclaaGreatChecked
import GoSem.Claim
import GoSem.ClaimJoined
import GoSem.ClaimMapViews
import Derived.JoinedTies
import Derived.KernelRfl
namespace Go.Proofs.YthjaoljhgimclaaGreat
/- THE CELL 'sum', in the pinned program and in every row, IS THE sha256 OF THE DUMP (.gsa) THAT YthjaoljhgimclaaGreatProg.lean LOADS. Nothing in Lean hashes anything: it is a label: what it is worth is what the hold of that sum in a sandbox is worth. -/
noncomputable def Tryz.pinned : Pinned := { name := "ythjaoljhgimclaagreat", sum := "db62e1ca20e7c01384500151f274b026e54295b147228c334610e9d986da7408", checked := Tryz.checked }
namespace Rows
def none {H : Type} : Left H := { results := [], args := [] }

/-- 'trefoillaw19.VmDraws': WHATEVER THE INPUT: true; the input reads as it did. -/
def vmDrawsSpec : ChangeSpec := { name := "vmDraws", fn := fun _ => fun
  | [d1, d2, d3] => { results := [.lit (.bool true)], args := [d1, d2, d3] }
  | _ => none }
def vmDrawsRow : OpenClaim := { program := "ythjaoljhgimclaagreat", sum := "db62e1ca20e7c01384500151f274b026e54295b147228c334610e9d986da7408", func := "trefoil/trefoillaw19.VmDraws", spec := "vmDraws", inPlace := ["slices.overlaps[int]"], unfollowed := true, recurses := true, apart := false }
def VmDrawsSaid : Prop := vmDrawsRow.holds Tryz.pinned (OpenSpec.ofChange vmDrawsSpec)

/-- ITS FALSE NEIGHBOUR: 'it returns false'. Refute it at one input. -/
def vmDrawsWrong : ChangeSpec := { name := "vmDraws", fn := fun _ => fun
  | [d1, d2, d3] => { results := [.lit (.bool false)], args := [d1, d2, d3] }
  | _ => none }
def VmDrawsWrongFalsely : Prop := vmDrawsRow.holds Tryz.pinned (OpenSpec.ofChange vmDrawsWrong)

/-- 'trefoillaw19.VmKnown': WHATEVER THE INPUT: true; the input reads as it did. -/
def vmKnownSpec : ChangeSpec := { name := "vmKnown", fn := fun _ => fun
  | [] => { results := [.lit (.bool true)], args := [] }
  | _ => none }
def vmKnownRow : OpenClaim := { program := "ythjaoljhgimclaagreat", sum := "db62e1ca20e7c01384500151f274b026e54295b147228c334610e9d986da7408", func := "trefoil/trefoillaw19.VmKnown", spec := "vmKnown", inPlace := ["slices.overlaps[int]"], unfollowed := true, recurses := true, apart := false }
def VmKnownSaid : Prop := vmKnownRow.holds Tryz.pinned (OpenSpec.ofChange vmKnownSpec)

/-- ITS FALSE NEIGHBOUR: 'it returns false'. Refute it at one input. -/
def vmKnownWrong : ChangeSpec := { name := "vmKnown", fn := fun _ => fun
  | [] => { results := [.lit (.bool false)], args := [] }
  | _ => none }
def VmKnownWrongFalsely : Prop := vmKnownRow.holds Tryz.pinned (OpenSpec.ofChange vmKnownWrong)

/-- 'trefoillaw19.VmEnds': WHATEVER THE INPUT: true; the input reads as it did. -/
def vmEndsSpec : ChangeSpec := { name := "vmEnds", fn := fun _ => fun
  | [d1, d2] => { results := [.lit (.bool true)], args := [d1, d2] }
  | _ => none }
def vmEndsRow : OpenClaim := { program := "ythjaoljhgimclaagreat", sum := "db62e1ca20e7c01384500151f274b026e54295b147228c334610e9d986da7408", func := "trefoil/trefoillaw19.VmEnds", spec := "vmEnds", inPlace := ["slices.overlaps[int]"], unfollowed := true, recurses := true, apart := false }
def VmEndsSaid : Prop := vmEndsRow.holds Tryz.pinned (OpenSpec.ofChange vmEndsSpec)

/-- ITS FALSE NEIGHBOUR: 'it returns false'. Refute it at one input. -/
def vmEndsWrong : ChangeSpec := { name := "vmEnds", fn := fun _ => fun
  | [d1, d2] => { results := [.lit (.bool false)], args := [d1, d2] }
  | _ => none }
def VmEndsWrongFalsely : Prop := vmEndsRow.holds Tryz.pinned (OpenSpec.ofChange vmEndsWrong)

/- THE SECOND FORM. 'bulk': how many values and letters a reading holds, each counted each time it is reached (what is shared counts as often as it is met; a slice's spare places count too). A statement '..UptoSaid' is the law's where the arguments, and the package variables that the reading takes, are together of bulk at most 1048576: NARROWER than '..Said'. Prove '..Said' where nothing that the law and all that it calls make is longer than what came in: it says more and counts as full. Else prove '..UptoSaid'. A law counts once. -/
mutual
def uptoBulk {H : Type} : DataW H → Nat
  | .lit (.string bytes) => bytes.length + 1
  | .lit _ => 1
  | .nil => 1
  | .ptr d => uptoBulk d + 1
  | .slice elems spare => uptoBulkAll elems + uptoBulkAll spare + 1
  | .agg parts => uptoBulkAll parts + 1
  | .iface _ d => uptoBulk d + 1
  | .map entries => uptoBulkEntries entries + 1
  | .held _ => 1
def uptoBulkAll {H : Type} : List (DataW H) → Nat
  | [] => 0
  | d :: r => uptoBulk d + uptoBulkAll r
def uptoBulkEntries {H : Type} : List (Lit × DataW H) → Nat
  | [] => 0
  | x :: r => uptoBulkEntry x + uptoBulkEntries r
def uptoBulkEntry {H : Type} : Lit × DataW H → Nat
  | (.string bytes, d) => bytes.length + uptoBulk d + 1
  | (_, d) => uptoBulk d + 1
 end
def uptoSmall : (H : Type) → List (DataW H) → Bool := fun _ ds => decide (uptoBulkAll ds ≤ 1048576)
def OpenSpec.upto (s : _root_.Go.ChangeSpec) : _root_.Go.OpenSpec := { _root_.Go.OpenSpec.ofChange s with cond := some uptoSmall }

/-- 'trefoillaw19.VmDraws', WHERE WHAT IT READS IS OF BULK AT MOST 1048576: true; the input reads as it did. -/
def vmDrawsUptoRow : OpenClaim := { program := "ythjaoljhgimclaagreat", sum := "db62e1ca20e7c01384500151f274b026e54295b147228c334610e9d986da7408", func := "trefoil/trefoillaw19.VmDraws", spec := "vmDraws", inPlace := ["slices.overlaps[int]"], unfollowed := true, recurses := true, apart := false, narrowed := true }
def VmDrawsUptoSaid : Prop := vmDrawsUptoRow.holds Tryz.pinned (OpenSpec.upto vmDrawsSpec)

/-- 'trefoillaw19.VmKnown', WHERE WHAT IT READS IS OF BULK AT MOST 1048576: true; the input reads as it did. -/
def vmKnownUptoRow : OpenClaim := { program := "ythjaoljhgimclaagreat", sum := "db62e1ca20e7c01384500151f274b026e54295b147228c334610e9d986da7408", func := "trefoil/trefoillaw19.VmKnown", spec := "vmKnown", inPlace := ["slices.overlaps[int]"], unfollowed := true, recurses := true, apart := false, narrowed := true }
def VmKnownUptoSaid : Prop := vmKnownUptoRow.holds Tryz.pinned (OpenSpec.upto vmKnownSpec)

/-- 'trefoillaw19.VmEnds', WHERE WHAT IT READS IS OF BULK AT MOST 1048576: true; the input reads as it did. -/
def vmEndsUptoRow : OpenClaim := { program := "ythjaoljhgimclaagreat", sum := "db62e1ca20e7c01384500151f274b026e54295b147228c334610e9d986da7408", func := "trefoil/trefoillaw19.VmEnds", spec := "vmEnds", inPlace := ["slices.overlaps[int]"], unfollowed := true, recurses := true, apart := false, narrowed := true }
def VmEndsUptoSaid : Prop := vmEndsUptoRow.holds Tryz.pinned (OpenSpec.upto vmEndsSpec)

end Rows
end Go.Proofs.YthjaoljhgimclaaGreat
