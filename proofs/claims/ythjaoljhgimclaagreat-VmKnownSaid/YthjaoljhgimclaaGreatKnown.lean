/- VmKnown answers true, whatever the world in which it is called. No condition. (The frame: the shell of the proof, written by the given program.) -/
import Derived.Test.YthjaoljhgimclaaGreatRows
import Derived.WalkKit
import Derived.ProofKit
import Derived.OpenShut
import Derived.Test.YthjaoljhgimclaaGreatBase
import Derived.Test.YthjaoljhgimclaaGreatKnown1
import Derived.Test.YthjaoljhgimclaaGreatKnown2
import Derived.Test.YthjaoljhgimclaaGreatKnown3
import Derived.Test.YthjaoljhgimclaaGreatKnown4
import Derived.Test.YthjaoljhgimclaaGreatKnown5
namespace Go.Proofs.YthjaoljhgimclaaGreat.vmKnown
open Go.ChangeShapes Go.WideShapes Go.ChangeAt Go.RowKit
set_option linter.unusedVariables false      -- a walk need not use every 'w<i>' (that an integer argument fits its kind)

theorem own : ownKnob Tryz.prog.godebug = none := by kernel_rfl

/-! ### the walk -/
theorem body_of : Go.Ev.hasB Tryz.prog 4 = true := by decide +kernel
theorem goes : Go.Ev.GoesOn Tryz.prog (Go.Ev.fnC Tryz.prog 4) (Go.Ev.dr 0 (Go.Ev.bodyC Tryz.prog 4)) :=
  Go.Ev.piece Go.Ev.Vm.names Go.Ev.Vm.mixed Go.Ev.VmTab.tab_ok Go.Ev.noS_ok body_of 5 Go.Ev.Vm.known1 <|
  Go.Ev.piece Go.Ev.Vm.names Go.Ev.Vm.mixed Go.Ev.VmTab.tab_ok Go.Ev.noS_ok body_of 2 Go.Ev.Vm.known2 <|
  Go.Ev.piece Go.Ev.Vm.names Go.Ev.Vm.mixed Go.Ev.VmTab.tab_ok Go.Ev.noS_ok body_of 2 Go.Ev.Vm.known3 <|
  Go.Ev.piece Go.Ev.Vm.names Go.Ev.Vm.mixed Go.Ev.VmTab.tab_ok Go.Ev.noS_ok body_of 4 Go.Ev.Vm.known4 <|
  Go.Ev.piece_last Go.Ev.Vm.names Go.Ev.Vm.mixed Go.Ev.VmTab.tab_ok Go.Ev.Vm.sums body_of Go.Ev.Vm.known5
theorem walk (w : World) : Calls Tryz.prog 4 #[] w fun e w' => e = .returned (.bool true) ∧ Grown w w' :=
  (Go.Ev.whole body_of goes w).mono fun e w' h => ⟨h.1, h.2.grown⟩

/-! ### THE ROW's STEP: WRITTEN OUT: LEAVE IT -/
set_option maxRecDepth 100000 in
theorem lifted (os : Os) (started : os.Started) (H : Type) (enc : TypeId × Value → H) :
    ReturnsInHanded {} Tryz.checked os 4 .any (Rows.vmKnownSpec.pre6 enc Tryz.prog Tryz.f4 Rows.vmKnownRow.domain false) (Rows.vmKnownSpec.post enc Tryz.prog Tryz.f4 false true false false) := by
  refine returnsInHanded_of_change (C := Tryz.checked) own started (by kernel_rfl) Tryz.func4
    (ChangeSpec.witness6 (enc := enc) (C := Tryz.checked) false ⟨#[], #[], []⟩ 8 (by kernel_rfl) (by kernel_rfl) (by kernel_rfl) (by kernel_rfl)) ?_
  intro W base args ds gs before hval0 hW hcnd _
  have hval : ∀ (j : Nat) t v, Tryz.f4.params[j]? = some t → args[j]? = some v → Value.okWide Tryz.prog W .any base t v := hval0
  have hW' := hW
  obtain ⟨p, q, hA0, hV, rfl, hfz, hnd⟩ := hW
  have hA : DataW.TrodAll enc Tryz.prog W 0 (fun _ => true) true Tryz.f4.params.toList args.toList ds p := hA0
  rw [Tryz.params4] at hA hval
  obtain ⟨rfl, rfl, rfl⟩ := trodAll_none hA
  obtain ⟨rfl, rfl⟩ := trodVars_none hV
  clear hA0 hval0
  simp only [List.append_nil] at hW'
  refine (walk  W).mono fun e W' ⟨he, hg⟩ => ?_
  subst he
  exact ⟨_, rfl, post_of_same (pa := []) (pv := []) hW' (fun _ _ _ => (trodAll_cons_mk (shut_bool Tryz.underlying4 _) trodAll_mk0)) (fun sp _ => rfl) (fun _ _ => rfl) rfl
    (hg.frame _) hg.2.1 (ok_one (by kernel_rfl) rfl (okWide_bool_mk Tryz.underlying4 _))⟩

theorem over : Rows.vmKnownRow.holds Tryz.pinned (OpenSpec.ofChange Rows.vmKnownSpec) :=
  OpenClaim.holds_of_wide 4 Tryz.f4 rfl rfl rfl rfl rfl rfl rfl ⟨rfl, rfl, rfl, rfl, rfl⟩ rfl rfl rfl rfl rfl (by kernel_rfl) Tryz.func4 (by kernel_rfl)
    (of_decide_eq_true (by kernel_rfl)) (by unfold Func.isWrapper; first | (rw [if_pos (by decide +kernel)]; kernel_rfl) | (rw [if_neg (by decide +kernel)]; exact ⟨rfl, rfl⟩))
    (fun os started H enc _ => lifted os started H enc)

/-- ████ THE STATEMENT ████ -/
theorem proved : Rows.VmKnownSaid :=
  over
#print axioms proved
end Go.Proofs.YthjaoljhgimclaaGreat.vmKnown
