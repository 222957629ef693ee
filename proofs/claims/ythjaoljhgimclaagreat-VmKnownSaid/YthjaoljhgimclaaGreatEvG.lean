/- A verified evaluator of the model, by its parts: the same evaluator in few steps; closed laws piece by piece. No condition. -/
import Derived.Test.YthjaoljhgimclaaGreatEvF
import Derived.RowKit3
set_option linter.unusedVariables false
/- The same, in few steps. -/
set_option linter.unusedSimpArgs false
namespace Go.Ev

abbrev KT := AHeap → Tr AV → Bool
abbrev KV := AHeap → AV → Bool
abbrev CallX := CallT → List AV → AHeap → KV → Bool
def liftT (e : Option (AHeap × Tr AV)) (k : KT) : Bool := match e with
  | some r => k r.1 r.2
  | none => false
def liftV (e : Option (AHeap × AV)) (k : KV) : Bool := match e with
  | some r => k r.1 r.2
  | none => false
/-- Calls that answer alike. -/
def AlikeC (cx : CallX) (cf : CallF) : Prop := ∀ ct A h k, cx ct A h k = liftV (cf ct A h) k

/-! ### options -/
noncomputable def bX {α β : Type} (x : Option α) (f : α → Option β) : Option β := Option.rec (motive := fun _ => (α → Option β) → Option β) (fun _ => none) (fun a f => f a) x f
theorem bX_eq {α β : Type} (x : Option α) (f : α → Option β) : bX x f = x.bind f := by cases x <;> rfl
noncomputable def mX {α β : Type} (f : α → β) (x : Option α) : Option β := Option.rec (motive := fun _ => (α → β) → Option β) (fun _ => none) (fun a f => some (f a)) x f
theorem mX_eq {α β : Type} (f : α → β) (x : Option α) : mX f x = x.map f := by cases x <;> rfl

/-! ### operands -/
inductive OpdX where
  | s (b : Bn)
  | c (v : Option AV)
noncomputable def cOpd : Operand → OpdX
  | .tmp t => .s (Bn.slot t)
  | .const v => .c (ofV 12 v)
  | .func f => .c (some (.fn (.func f) [] []))
  | .global _ => .c none
noncomputable def oS : Bn → Tr AV → Option AV := fun b T => Tr.get b T
def oC : Option AV → Tr AV → Option AV := fun v _ => v
noncomputable def evX (x : Operand) : Tr AV → Option AV := OpdX.rec (motive := fun _ => Tr AV → Option AV) oS oC (cOpd x)
theorem evX_eq (x : Operand) : evX x = evO x := by cases x <;> rfl

/-! ### slots -/
noncomputable def pP : Tmp → AV → AHeap → Tr AV → KT → Bool := fun d r h T k => k h (Tr.set (Bn.slot d) (some r) T)
def pF : Tmp → AV → AHeap → Tr AV → KT → Bool := fun _ _ _ _ _ => false
def pN : Nat → AV → AHeap → Tr AV → KT → Bool := fun _ _ h T k => k h T
noncomputable def pD : Tmp → Nat → AV → AHeap → Tr AV → KT → Bool := fun d N => Bool.rec (motive := fun _ => Tmp → AV → AHeap → Tr AV → KT → Bool) pF pP (Nat.blt d N) d
noncomputable def pX (dst : Option Tmp) : Nat → AV → AHeap → Tr AV → KT → Bool := Option.rec (motive := fun _ => Nat → AV → AHeap → Tr AV → KT → Bool) pN pD dst
theorem pX_eq (dst : Option Tmp) (N : Nat) (r : AV) (h : AHeap) (T : Tr AV) (k : KT) : pX dst N r h T k = liftT ((putT N dst r T).map fun T => (h, T)) k := by
  cases dst with
  | none => rfl
  | some d =>
    have e1 : pX (some d) N r h T k = Bool.rec (motive := fun _ => Tmp → AV → AHeap → Tr AV → KT → Bool) pF pP (Nat.blt d N) d r h T k := rfl
    have e2 : putT N (some d) r T = (bif Nat.blt d N then fun r T => some (Tr.set (Bn.slot d) (some r) T) else fun _ _ => none) r T := rfl
    rw [e1, e2]
    cases Nat.blt d N <;> rfl

/-! ### operations -/
def xF : Nat → Option Tmp → AHeap → Tr AV → KT → Bool := fun _ _ _ _ _ => false
noncomputable def qS : AV → Nat → Option Tmp → AHeap → Tr AV → KT → Bool := fun r N dst h T k => pX dst N r h T k
noncomputable def xQ : (Tr AV → Option AV) → Nat → Option Tmp → CallX → AHeap → Tr AV → KT → Bool := fun f N dst _ h T k => Option.rec (motive := fun _ => Nat → Option Tmp → AHeap → Tr AV → KT → Bool) xF qS (f T) N dst h T k
noncomputable def xR : (AHeap → Tr AV → Option AV) → Nat → Option Tmp → CallX → AHeap → Tr AV → KT → Bool := fun f N dst _ h T k => Option.rec (motive := fun _ => Nat → Option Tmp → AHeap → Tr AV → KT → Bool) xF qS (f h T) N dst h T k
noncomputable def aP : AObj → (Bn → AV) → Nat → Option Tmp → AHeap → Tr AV → KT → Bool := fun o kk N dst h T k => pX dst N (kk h.next) (h.new o) T k
noncomputable def aS : AObj × (Bn → AV) → Nat → Option Tmp → AHeap → Tr AV → KT → Bool := fun r => Prod.rec (motive := fun _ => Nat → Option Tmp → AHeap → Tr AV → KT → Bool) aP r
noncomputable def xA : (Tr AV → Option (AObj × (Bn → AV))) → Nat → Option Tmp → CallX → AHeap → Tr AV → KT → Bool := fun f N dst _ h T k => Option.rec (motive := fun _ => Nat → Option Tmp → AHeap → Tr AV → KT → Bool) xF aS (f T) N dst h T k
noncomputable def eP : AHeap → AV → Nat → Option Tmp → AHeap → Tr AV → KT → Bool := fun h' r N dst _ T k => pX dst N r h' T k
noncomputable def eS : AHeap × AV → Nat → Option Tmp → AHeap → Tr AV → KT → Bool := fun r => Prod.rec (motive := fun _ => Nat → Option Tmp → AHeap → Tr AV → KT → Bool) eP r
noncomputable def xE : (AHeap → Tr AV → Option (AHeap × AV)) → Nat → Option Tmp → CallX → AHeap → Tr AV → KT → Bool := fun f N dst _ h T k => Option.rec (motive := fun _ => Nat → Option Tmp → AHeap → Tr AV → KT → Bool) xF eS (f h T) N dst h T k
def cF : Nat → Option Tmp → CallX → AHeap → Tr AV → KT → Bool := fun _ _ _ _ _ _ => false
noncomputable def cP : CallT → List AV → Nat → Option Tmp → CallX → AHeap → Tr AV → KT → Bool := fun ct A N dst cx h T k => cx ct A h fun h r => pX dst N r h T k
noncomputable def cS : CallT × List AV → Nat → Option Tmp → CallX → AHeap → Tr AV → KT → Bool := fun r => Prod.rec (motive := fun _ => Nat → Option Tmp → CallX → AHeap → Tr AV → KT → Bool) cP r
noncomputable def xC : (Tr AV → Option (CallT × List AV)) → Nat → Option Tmp → CallX → AHeap → Tr AV → KT → Bool := fun f N dst cx h T k => Option.rec (motive := fun _ => Nat → Option Tmp → CallX → AHeap → Tr AV → KT → Bool) cF cS (f T) N dst cx h T k
def xB : Nat → Option Tmp → CallX → AHeap → Tr AV → KT → Bool := fun _ _ _ _ _ _ => false
noncomputable def kX (o : OpK) : Nat → Option Tmp → CallX → AHeap → Tr AV → KT → Bool := OpK.rec (motive := fun _ => Nat → Option Tmp → CallX → AHeap → Tr AV → KT → Bool) xQ xR xA xE xC xB o

section
variable (P : Program)
noncomputable def opX (op : Op) : OpK := match op with
  | .move x => .q (evX x)
  | .assign x => .q (evX x)
  | op => opK P op
theorem opX_eq (op : Op) : opX P op = opK P op := by
  cases op <;> first | rfl | (simp only [opX, evX_eq]; rfl)
noncomputable def runX (N : Nat) (op : Op) (dst : Option Tmp) : CallX → AHeap → Tr AV → KT → Bool := kX (opX P op) N dst
variable {P}
theorem runX_eq {cx : CallX} {cf : CallF} (hc : AlikeC cx cf) (N : Nat) (op : Op) (dst : Option Tmp) (h : AHeap) (T : Tr AV) (k : KT) : runX P N op dst cx h T k = liftT (runO P N op dst cf h T) k := by
  unfold runX runO
  rw [opX_eq]
  cases opK P op with
  | q f =>
    show xQ f N dst cx h T k = _
    unfold xQ
    simp only
    cases f T with
    | none => rfl
    | some r => exact pX_eq dst N r h T k
  | r f =>
    show xR f N dst cx h T k = _
    unfold xR
    simp only
    cases f h T with
    | none => rfl
    | some r => exact pX_eq dst N r h T k
  | a f =>
    show xA f N dst cx h T k = _
    unfold xA
    simp only
    cases f T with
    | none => rfl
    | some r => exact pX_eq dst N (r.2 h.next) (h.new r.1) T k
  | e f =>
    show xE f N dst cx h T k = _
    unfold xE
    simp only
    cases f h T with
    | none => rfl
    | some r => exact pX_eq dst N r.2 r.1 T k
  | call f =>
    show xC f N dst cx h T k = _
    unfold xC
    simp only
    cases f T with
    | none => rfl
    | some c =>
      show cx c.1 c.2 h (fun h r => pX dst N r h T k) = _
      rw [hc]
      simp only [Option.bind_some]
      cases cf c.1 c.2 h with
      | none => rfl
      | some r => exact pX_eq dst N r.2 r.1 T k
  | bad => rfl
end

section
variable (P : Program) (N : Nat) (ops : Array Oper)
def gN : Oper → Nat → CallX → AHeap → Tr AV → KT → Bool := fun _ _ _ _ _ _ => false
noncomputable def gB : Bool → Oper → Nat → CallX → AHeap → Tr AV → KT → Bool := fun b => Bool.rec (motive := fun _ => Oper → Nat → CallX → AHeap → Tr AV → KT → Bool) (fun o N _ h T k => pX o.dst N undefA h T k) (fun o N cx h T k => runX P N o.op o.dst cx h T k) b
noncomputable def gS (j : Nat) (want : Bool) : Oper → Nat → CallX → AHeap → Tr AV → KT → Bool := fun o N cx h T k => Option.rec (motive := fun _ => Oper → Nat → CallX → AHeap → Tr AV → KT → Bool) gN (gB P) (guardA (slotO ops j) want T) o N cx h T k
noncomputable def gJ : Nat × Bool → Oper → Nat → CallX → AHeap → Tr AV → KT → Bool := fun r => Prod.rec (motive := fun _ => Oper → Nat → CallX → AHeap → Tr AV → KT → Bool) (gS P ops) r
noncomputable def gO : Oper → Nat → CallX → AHeap → Tr AV → KT → Bool := fun o N => runX P N o.op o.dst
noncomputable def stepX (o : Oper) : CallX → AHeap → Tr AV → KT → Bool := Option.rec (motive := fun _ => Oper → Nat → CallX → AHeap → Tr AV → KT → Bool) (gO P) (gJ P ops) o.guard o N
theorem stepX_eq {cx : CallX} {cf : CallF} (hc : AlikeC cx cf) (o : Oper) (h : AHeap) (T : Tr AV) (k : KT) : stepX P N ops o cx h T k = liftT (stepO P N ops o cf h T) k := by
  unfold stepX stepO
  cases hg : o.guard with
  | none => exact runX_eq hc N o.op o.dst h T k
  | some jw =>
    obtain ⟨j, want⟩ := jw
    show gS P ops j want o N cx h T k = _
    unfold gS
    simp only
    cases guardA (slotO ops j) want T with
    | none => rfl
    | some b =>
      cases b with
      | true => exact runX_eq hc N o.op o.dst h T k
      | false => exact pX_eq o.dst N undefA h T k
noncomputable def opsX (l : List Oper) : CallX → AHeap → Tr AV → KT → Bool :=
  List.rec (motive := fun _ => CallX → AHeap → Tr AV → KT → Bool) (fun _ h T k => k h T) (fun o _ ih cx h T k => stepX P N ops o cx h T fun h T => ih cx h T k) l
theorem opsX_eq {cx : CallX} {cf : CallF} (hc : AlikeC cx cf) : ∀ (l : List Oper) (h : AHeap) (T : Tr AV) (k : KT), opsX P N ops l cx h T k = liftT (opsE P N ops l cf h T) k := by
  intro l
  induction l with
  | nil => intro h T k; rfl
  | cons o l ih =>
    intro h T k
    show stepX P N ops o cx h T (fun h T => opsX P N ops l cx h T k) = liftT ((stepO P N ops o cf h T).bind fun r => opsE P N ops l cf r.1 r.2) k
    rw [stepX_eq P N ops hc]
    cases stepO P N ops o cf h T with
    | none => rfl
    | some r => exact ih r.1 r.2 k
end
end Go.Ev

/- Operations, made ready. -/
set_option linter.unusedSimpArgs false
namespace Go.Ev

/-- An operation, made ready. -/
inductive OpC where
  | mv (s d : Bn)
  | q (f : Tr AV → Option AV) (d : Bn)
  | r (f : AHeap → Tr AV → Option AV) (d : Bn)
  | a (f : Tr AV → Option (AObj × (Bn → AV))) (d : Bn)
  | e (f : AHeap → Tr AV → Option (AHeap × AV)) (d : Bn)
  | e0 (f : AHeap → Tr AV → Option (AHeap × AV))
  | c (f : Tr AV → Option (CallT × List AV)) (d : Bn)
  | c0 (f : Tr AV → Option (CallT × List AV))
  | x (o : Oper)
  | s (s : Stp)

def zF : Bn → AHeap → Tr AV → KT → Bool := fun _ _ _ _ => false
noncomputable def zS : AV → Bn → AHeap → Tr AV → KT → Bool := fun r d h T k => k h (Tr.set d (some r) T)
noncomputable def zV (x : Option AV) : Bn → AHeap → Tr AV → KT → Bool := Option.rec (motive := fun _ => Bn → AHeap → Tr AV → KT → Bool) zF zS x
noncomputable def zMv : Bn → Bn → CallX → AHeap → Tr AV → KT → Bool := fun s d _ h T k => Option.rec (motive := fun _ => Bn → AHeap → Tr AV → KT → Bool) zF zS (Tr.get s T) d h T k
noncomputable def zQ : (Tr AV → Option AV) → Bn → CallX → AHeap → Tr AV → KT → Bool := fun f d _ h T k => Option.rec (motive := fun _ => Bn → AHeap → Tr AV → KT → Bool) zF zS (f T) d h T k
noncomputable def zR : (AHeap → Tr AV → Option AV) → Bn → CallX → AHeap → Tr AV → KT → Bool := fun f d _ h T k => Option.rec (motive := fun _ => Bn → AHeap → Tr AV → KT → Bool) zF zS (f h T) d h T k
noncomputable def zAp : AObj → (Bn → AV) → Bn → AHeap → Tr AV → KT → Bool := fun o kk d h T k => k (h.new o) (Tr.set d (some (kk h.next)) T)
noncomputable def zAs : AObj × (Bn → AV) → Bn → AHeap → Tr AV → KT → Bool := fun r => Prod.rec (motive := fun _ => Bn → AHeap → Tr AV → KT → Bool) zAp r
noncomputable def zA : (Tr AV → Option (AObj × (Bn → AV))) → Bn → CallX → AHeap → Tr AV → KT → Bool := fun f d _ h T k => Option.rec (motive := fun _ => Bn → AHeap → Tr AV → KT → Bool) zF zAs (f T) d h T k
noncomputable def zEp : AHeap → AV → Bn → AHeap → Tr AV → KT → Bool := fun h' r d _ T k => k h' (Tr.set d (some r) T)
noncomputable def zEs : AHeap × AV → Bn → AHeap → Tr AV → KT → Bool := fun r => Prod.rec (motive := fun _ => Bn → AHeap → Tr AV → KT → Bool) zEp r
noncomputable def zE : (AHeap → Tr AV → Option (AHeap × AV)) → Bn → CallX → AHeap → Tr AV → KT → Bool := fun f d _ h T k => Option.rec (motive := fun _ => Bn → AHeap → Tr AV → KT → Bool) zF zEs (f h T) d h T k
def yF : Tr AV → KT → Bool := fun _ _ => false
def yP : AHeap → AV → Tr AV → KT → Bool := fun h' _ T k => k h' T
noncomputable def yS : AHeap × AV → Tr AV → KT → Bool := fun r => Prod.rec (motive := fun _ => Tr AV → KT → Bool) yP r
noncomputable def zE0 : (AHeap → Tr AV → Option (AHeap × AV)) → CallX → AHeap → Tr AV → KT → Bool := fun f _ h T k => Option.rec (motive := fun _ => Tr AV → KT → Bool) yF yS (f h T) T k
def zCf : Bn → CallX → AHeap → Tr AV → KT → Bool := fun _ _ _ _ _ => false
noncomputable def zCp : CallT → List AV → Bn → CallX → AHeap → Tr AV → KT → Bool := fun ct A d cx h T k => cx ct A h fun h r => k h (Tr.set d (some r) T)
noncomputable def zCs : CallT × List AV → Bn → CallX → AHeap → Tr AV → KT → Bool := fun r => Prod.rec (motive := fun _ => Bn → CallX → AHeap → Tr AV → KT → Bool) zCp r
noncomputable def zC : (Tr AV → Option (CallT × List AV)) → Bn → CallX → AHeap → Tr AV → KT → Bool := fun f d cx h T k => Option.rec (motive := fun _ => Bn → CallX → AHeap → Tr AV → KT → Bool) zCf zCs (f T) d cx h T k
def yCf : CallX → AHeap → Tr AV → KT → Bool := fun _ _ _ _ => false
def yCp : CallT → List AV → CallX → AHeap → Tr AV → KT → Bool := fun ct A cx h T k => cx ct A h fun h _ => k h T
noncomputable def yCs : CallT × List AV → CallX → AHeap → Tr AV → KT → Bool := fun r => Prod.rec (motive := fun _ => CallX → AHeap → Tr AV → KT → Bool) yCp r
noncomputable def zC0 : (Tr AV → Option (CallT × List AV)) → CallX → AHeap → Tr AV → KT → Bool := fun f cx h T k => Option.rec (motive := fun _ => CallX → AHeap → Tr AV → KT → Bool) yCf yCs (f T) cx h T k

section
variable (P : Program) (N : Nat) (ops : Array Oper) (n0 : Nat)
/-- A step of a plan. -/
noncomputable def chkX (chk : List Nat) (g g1 : AHeap) (T : Tr AV) (k : KT) : Bool := bif chk.all (fun j => chkA P ops n0 j g1 T) && Nat.ble g.next.toNat g1.next.toNat then k g1 T else false
noncomputable def effX (o : Oper) (chk : List Nat) (cx : CallX) (g : AHeap) (T : Tr AV) (k : KT) : Bool := match wantA ops o T with
  | some true => (match opL P ops n0 o with
    | .e f => (match f g T with
      | some r => pX o.dst N r.2 r.1 T fun g1 T => chkX P ops n0 chk g g1 T k
      | none => false)
    | .call f => (match f T with
      | some c => cx c.1 c.2 g fun g1 r => pX o.dst N r g1 T fun g1 T => chkX P ops n0 chk g g1 T k
      | none => false)
    | _ => false)
  | some false => pX o.dst N undefA g T fun g1 T => chkX P ops n0 chk g g1 T k
  | none => false
noncomputable def stpX : Stp → CallX → AHeap → Tr AV → KT → Bool
  | .early i => fun _ g T k => liftT (stpA P N ops n0 (.early i) (fun _ _ _ => none) g T) k
  | .pre i => fun _ g T k => liftT (stpA P N ops n0 (.pre i) (fun _ _ _ => none) g T) k
  | .eff i chk => match ops[i]? with
    | some o => fun cx g T k => effX P N ops n0 o chk cx g T k
    | none => fun _ _ _ _ => false
noncomputable def exO (o : OpC) : CallX → AHeap → Tr AV → KT → Bool :=
  OpC.rec (motive := fun _ => CallX → AHeap → Tr AV → KT → Bool) zMv zQ zR zA zE zE0 zC zC0 (stepX P N ops) (stpX P N ops n0) o
noncomputable def exOs (l : List OpC) : CallX → AHeap → Tr AV → KT → Bool :=
  List.rec (motive := fun _ => CallX → AHeap → Tr AV → KT → Bool) (fun _ h T k => k h T) (fun o _ ih cx h T k => exO P N ops n0 o cx h T fun h T => ih cx h T k) l

/-- An operation without a guard, made ready. -/
noncomputable def cKnd (k : OpK) (d : Option Tmp) (other : OpC) : OpC := match d with
  | some d => bif Nat.blt d N then (match k with
    | .q f => .q f (Bn.slot d)
    | .r f => .r f (Bn.slot d)
    | .a f => .a f (Bn.slot d)
    | .e f => .e f (Bn.slot d)
    | .call f => .c f (Bn.slot d)
    | .bad => other) else other
  | none => (match k with
    | .e f => .e0 f
    | .call f => .c0 f
    | _ => other)
noncomputable def cOp (o : Oper) : OpC := match o.guard with
  | some _ => .x o
  | none => match o.op, o.dst with
    | .move (.tmp s), some d => bif Nat.blt d N then .mv (Bn.slot s) (Bn.slot d) else .x o
    | .assign (.tmp s), some d => bif Nat.blt d N then .mv (Bn.slot s) (Bn.slot d) else .x o
    | op, d => cKnd N (opX P op) d (.x o)
noncomputable def cOps : List Oper → List OpC
  | [] => []
  | o :: l => cOp P N o :: cOps l
noncomputable def cStp (s : Stp) : OpC := match s with
  | .early i => (match ops[i]? with
    | some o => (match o.guard with
      | some _ => .s s
      | none => (match opL P ops n0 o with
        | .q f => cKnd N (.q f) o.dst (.s s)
        | .r f => cKnd N (.r f) o.dst (.s s)
        | _ => .s s))
    | none => .s s)
  | .pre i => (match ops[i]? with
    | some o => (match o.guard with
      | some _ => .s s
      | none => (match opL P ops n0 o with
        | .q f => cKnd N (.q f) o.dst (.s s)
        | .a f => cKnd N (.a f) o.dst (.s s)
        | _ => .s s))
    | none => .s s)
  | .eff _ _ => .s s
noncomputable def cStps : List Stp → List OpC
  | [] => []
  | s :: l => cStp P N ops n0 s :: cStps l

variable {P N ops n0}
theorem zV_eq (d : Tmp) (hd : Nat.blt d N = true) (x : Option AV) (h : AHeap) (T : Tr AV) (k : KT) : zV x (Bn.slot d) h T k = liftT ((x.bind fun r => (putT N (some d) r T).map fun T => (h, T))) k := by
  cases x with
  | none => rfl
  | some r =>
    have : putT N (some d) r T = some (Tr.set (Bn.slot d) (some r) T) := by simp only [putT, hd, cond_true]
    simp only [Option.bind_some, this, Option.map_some]
    rfl
/-- What a kind does. -/
noncomputable def kndE (N : Nat) (kd : OpK) (dst : Option Tmp) (cf : CallF) (h : AHeap) (T : Tr AV) : Option (AHeap × Tr AV) := match kd with
  | .q f => (f T).bind fun r => (putT N dst r T).map fun T => (h, T)
  | .r f => (f h T).bind fun r => (putT N dst r T).map fun T => (h, T)
  | .a f => (f T).bind fun r => (putT N dst (r.2 h.next) T).map fun T => (h.new r.1, T)
  | .e f => (f h T).bind fun r => (putT N dst r.2 T).map fun T => (r.1, T)
  | .call f => (f T).bind fun c => (cf c.1 c.2 h).bind fun r => (putT N dst r.2 T).map fun T => (r.1, T)
  | .bad => none
theorem cKnd_eq {cx : CallX} {cf : CallF} (hc : AlikeC cx cf) (kd : OpK) (dst : Option Tmp) {other : OpC} {h : AHeap} {T : Tr AV} {k : KT} (ho : exO P N ops n0 other cx h T k = liftT (kndE N kd dst cf h T) k) :
    exO P N ops n0 (cKnd N kd dst other) cx h T k = liftT (kndE N kd dst cf h T) k := by
  unfold cKnd
  cases dst with
  | some d =>
    simp only
    cases hd : Nat.blt d N with
    | false => exact ho
    | true =>
      have hp : ∀ r T, putT N (some d) r T = some (Tr.set (Bn.slot d) (some r) T) := by intro r T; simp only [putT, hd, cond_true]
      cases kd with
      | q f =>
        simp only [cond_true, kndE, hp]
        show zQ f (Bn.slot d) cx h T k = _
        unfold zQ
        cases f T <;> rfl
      | r f =>
        simp only [cond_true, kndE, hp]
        show zR f (Bn.slot d) cx h T k = _
        unfold zR
        cases f h T <;> rfl
      | a f =>
        simp only [cond_true, kndE, hp]
        show zA f (Bn.slot d) cx h T k = _
        unfold zA
        cases f T <;> rfl
      | e f =>
        simp only [cond_true, kndE, hp]
        show zE f (Bn.slot d) cx h T k = _
        unfold zE
        cases f h T <;> rfl
      | call f =>
        simp only [cond_true, kndE, hp]
        show zC f (Bn.slot d) cx h T k = _
        unfold zC
        cases f T with
        | none => rfl
        | some c =>
          show cx c.1 c.2 h (fun h r => k h (Tr.set (Bn.slot d) (some r) T)) = _
          rw [hc]
          simp only [Option.bind_some]
          cases cf c.1 c.2 h <;> rfl
      | bad => exact ho
  | none =>
    cases kd with
    | e f =>
      simp only [kndE, putT]
      show zE0 f cx h T k = _
      unfold zE0
      cases f h T <;> rfl
    | call f =>
      simp only [kndE, putT]
      show zC0 f cx h T k = _
      unfold zC0
      cases f T with
      | none => rfl
      | some c =>
        show cx c.1 c.2 h (fun h _ => k h T) = _
        rw [hc]
        simp only [Option.bind_some]
        cases cf c.1 c.2 h <;> rfl
    | q f => exact ho
    | r f => exact ho
    | a f => exact ho
    | bad => exact ho
theorem runO_knd (op : Op) (dst : Option Tmp) (cf : CallF) (h : AHeap) (T : Tr AV) : runO P N op dst cf h T = kndE N (opK P op) dst cf h T := by
  unfold runO kndE
  cases opK P op <;> rfl
theorem cOp_eq {cx : CallX} {cf : CallF} (hc : AlikeC cx cf) (o : Oper) (h : AHeap) (T : Tr AV) (k : KT) : exO P N ops n0 (cOp P N o) cx h T k = liftT (stepO P N ops o cf h T) k := by
  have hx : exO P N ops n0 (.x o) cx h T k = liftT (stepO P N ops o cf h T) k := stepX_eq P N ops hc o h T k
  unfold cOp
  cases hg : o.guard with
  | some jw => exact hx
  | none =>
    have hst : stepO P N ops o cf h T = kndE N (opX P o.op) o.dst cf h T := by
      rw [opX_eq, ← runO_knd]; unfold stepO; rw [hg]
    have gen : exO P N ops n0 (cKnd N (opX P o.op) o.dst (.x o)) cx h T k = liftT (stepO P N ops o cf h T) k := by
      rw [hst]; exact cKnd_eq hc _ _ (by rw [hx, hst])
    have mvc : ∀ (s d : Tmp), o.dst = some d → opX P o.op = .q (evX (.tmp s)) → exO P N ops n0 (bif Nat.blt d N then .mv (Bn.slot s) (Bn.slot d) else .x o) cx h T k = liftT (stepO P N ops o cf h T) k := by
      intro s d hd hk
      cases hb : Nat.blt d N with
      | false => exact hx
      | true =>
        rw [hst, hk, hd]
        show zV (Tr.get (Bn.slot s) T) (Bn.slot d) h T k = _
        rw [zV_eq d hb]
        rfl
    dsimp only
    split
    · rename_i s d hop hd
      exact mvc s d hd (by rw [hop]; rfl)
    · rename_i s d hop hd
      exact mvc s d hd (by rw [hop]; rfl)
    · exact gen
theorem cOps_eq {cx : CallX} {cf : CallF} (hc : AlikeC cx cf) : ∀ (l : List Oper) (h : AHeap) (T : Tr AV) (k : KT), exOs P N ops n0 (cOps P N l) cx h T k = liftT (opsE P N ops l cf h T) k := by
  intro l
  induction l with
  | nil => intro h T k; rfl
  | cons o l ih =>
    intro h T k
    show exO P N ops n0 (cOp P N o) cx h T (fun h T => exOs P N ops n0 (cOps P N l) cx h T k) = liftT ((stepO P N ops o cf h T).bind fun r => opsE P N ops l cf r.1 r.2) k
    rw [cOp_eq hc]
    cases stepO P N ops o cf h T with
    | none => rfl
    | some r => exact ih r.1 r.2 k

theorem stpX_eq {cx : CallX} {cf : CallF} (hc : AlikeC cx cf) (s : Stp) (g : AHeap) (T : Tr AV) (k : KT) : stpX P N ops n0 s cx g T k = liftT (stpA P N ops n0 s cf g T) k := by
  cases s with
  | early i =>
    simp only [stpX, stpA]
    cases ops[i]? <;> rfl
  | pre i =>
    simp only [stpX, stpA]
    cases ops[i]? <;> rfl
  | eff i chk =>
    simp only [stpX, stpA]
    cases ho : ops[i]? with
    | none => rfl
    | some o =>
      simp only
      have put : ∀ (r : AV) (g1 : AHeap), pX o.dst N r g1 T (fun g1 T => chkX P ops n0 chk g g1 T k) = liftT ((putT N o.dst r T).bind fun T => bif chk.all (fun j => chkA P ops n0 j g1 T) && Nat.ble g.next.toNat g1.next.toNat then some (g1, T) else none) k := by
        intro r g1
        rw [pX_eq]
        cases putT N o.dst r T with
        | none => rfl
        | some T1 =>
          simp only [Option.map_some, Option.bind_some, liftT, chkX]
          cases chk.all (fun j => chkA P ops n0 j g1 T1) && Nat.ble g.next.toNat g1.next.toNat <;> rfl
      unfold effX effA
      cases wantA ops o T with
      | none => rfl
      | some b =>
        cases b with
        | false => exact put undefA g
        | true =>
          simp only [Option.bind_some, cond_true]
          cases opL P ops n0 o with
          | e f =>
            simp only
            cases f g T with
            | none => rfl
            | some r => exact put r.2 r.1
          | call f =>
            simp only
            cases f T with
            | none => rfl
            | some c =>
              simp only [Option.bind_some]
              rw [hc]
              cases cf c.1 c.2 g with
              | none => rfl
              | some r => exact put r.2 r.1
          | q f => rfl
          | r f => rfl
          | a f => rfl
          | bad => rfl
theorem cStp_eq {cx : CallX} {cf : CallF} (hc : AlikeC cx cf) (s : Stp) (g : AHeap) (T : Tr AV) (k : KT) : exO P N ops n0 (cStp P N ops n0 s) cx g T k = liftT (stpA P N ops n0 s cf g T) k := by
  have hx : exO P N ops n0 (.s s) cx g T k = liftT (stpA P N ops n0 s cf g T) k := stpX_eq hc s g T k
  cases s with
  | early i =>
    unfold cStp
    dsimp only
    cases ho : ops[i]? with
    | none => exact hx
    | some o =>
      dsimp only
      cases hg : o.guard with
      | some jw => exact hx
      | none =>
        have hw : wantA ops o T = some true := by unfold wantA; rw [hg]
        have hst : stpA P N ops n0 (.early i) cf g T = ((valQR P ops n0 o g T).bind fun r => (putT N o.dst r T).map fun T => (g, T)) := by simp only [stpA, ho]
        cases hk : opL P ops n0 o with
        | q f =>
          dsimp only
          have : stpA P N ops n0 (.early i) cf g T = kndE N (.q f) o.dst cf g T := by
            rw [hst]; unfold valQR; rw [hw, hk]; rfl
          rw [this] at hx ⊢
          exact cKnd_eq hc _ _ hx
        | r f =>
          dsimp only
          have : stpA P N ops n0 (.early i) cf g T = kndE N (.r f) o.dst cf g T := by
            rw [hst]; unfold valQR; rw [hw, hk]; rfl
          rw [this] at hx ⊢
          exact cKnd_eq hc _ _ hx
        | a f => exact hx
        | e f => exact hx
        | call f => exact hx
        | bad => exact hx
  | pre i =>
    unfold cStp
    dsimp only
    cases ho : ops[i]? with
    | none => exact hx
    | some o =>
      dsimp only
      cases hg : o.guard with
      | some jw => exact hx
      | none =>
        have hw : wantA ops o T = some true := by unfold wantA; rw [hg]
        have hst : stpA P N ops n0 (.pre i) cf g T = ((preA P ops n0 o g T).bind fun r => (putT N o.dst r.2 T).map fun T => (r.1, T)) := by simp only [stpA, ho]
        cases hk : opL P ops n0 o with
        | q f =>
          dsimp only
          have : stpA P N ops n0 (.pre i) cf g T = kndE N (.q f) o.dst cf g T := by
            rw [hst]; unfold preA; rw [hw, hk]
            simp only [Option.bind_some, cond_true, kndE]
            cases f T <;> rfl
          rw [this] at hx ⊢
          exact cKnd_eq hc _ _ hx
        | a f =>
          dsimp only
          have : stpA P N ops n0 (.pre i) cf g T = kndE N (.a f) o.dst cf g T := by
            rw [hst]; unfold preA; rw [hw, hk]
            simp only [Option.bind_some, cond_true, kndE]
            cases f T <;> rfl
          rw [this] at hx ⊢
          exact cKnd_eq hc _ _ hx
        | r f => exact hx
        | e f => exact hx
        | call f => exact hx
        | bad => exact hx
  | eff i chk => exact hx
theorem cStps_eq {cx : CallX} {cf : CallF} (hc : AlikeC cx cf) : ∀ (l : List Stp) (h : AHeap) (T : Tr AV) (k : KT), exOs P N ops n0 (cStps P N ops n0 l) cx h T k = liftT (stpsA P N ops n0 l cf h T) k := by
  intro l
  induction l with
  | nil => intro h T k; rfl
  | cons o l ih =>
    intro h T k
    show exO P N ops n0 (cStp P N ops n0 o) cx h T (fun h T => exOs P N ops n0 (cStps P N ops n0 l) cx h T k) = liftT ((stpA P N ops n0 o cf h T).bind fun r => stpsA P N ops n0 l cf r.1 r.2) k
    rw [cStp_eq hc]
    cases stpA P N ops n0 o cf h T with
    | none => rfl
    | some r => exact ih r.1 r.2 k
end
end Go.Ev

/- Code and calls, in few steps. -/
set_option linter.unusedSimpArgs false
namespace Go.Ev

abbrev KX := AX → AHeap → Tr AV → List Bn → Bool
abbrev CodeX := CallX → Option Bn → AHeap → Tr AV → List Bn → KX → Bool
def liftR (e : Rs) (k : KX) : Bool := match e with
  | .ok x h T D => k x h T D
  | .no => false
/-- Code that does alike. -/
def AlikeA (A : CodeX) (B : CodeF) : Prop := ∀ cx cf, AlikeC cx cf → ∀ ro h T D k, A cx ro h T D k = liftR (B cf ro h T D) k

/-! ### regions -/
section
variable (P : Program)
noncomputable def planC (N : Nat) (ops : Array Oper) (n0 : Nat) : Option (List OpC) :=
  bif backO ops && noEP (mkPlan P ops n0 (ancO ops)) then
    (bif ckP P ops n0 (ancO ops) (mkPlan P ops n0 (ancO ops)) 0 0 [] && Nat.ble n0 ops.size && tailOk ops n0 (ancO ops) && wfO ops n0 (ancO ops) then some (appL (cStps P N ops n0 (mkPlan P ops n0 (ancO ops))) (cOps P N (ops.toList.drop n0))) else none)
  else none
noncomputable def drC (N : Nat) (ops : Array Oper) (n0 : Nat) : CallX → AHeap → Tr AV → KT → Bool :=
  Option.rec (motive := fun _ => CallX → AHeap → Tr AV → KT → Bool) (fun _ _ _ _ => false) (exOs P N ops n0) (planC P N ops n0)
noncomputable def drX (N : Nat) (ops : Array Oper) : CallX → AHeap → Tr AV → KT → Bool := drC P N ops (tailO (ancO ops) (List.range ops.size) 0)
variable {P}
theorem exOs_app {N : Nat} {ops : Array Oper} {n0 : Nat} {cx : CallX} : ∀ (l l' : List OpC) (h : AHeap) (T : Tr AV) (k : KT), exOs P N ops n0 (l ++ l') cx h T k = exOs P N ops n0 l cx h T fun h T => exOs P N ops n0 l' cx h T k := by
  intro l l'
  induction l with
  | nil => intro h T k; rfl
  | cons o l ih =>
    intro h T k
    show exO P N ops n0 o cx h T (fun h T => exOs P N ops n0 (l ++ l') cx h T k) = exO P N ops n0 o cx h T (fun h T => exOs P N ops n0 l cx h T fun h T => exOs P N ops n0 l' cx h T k)
    congr 1
    funext h T
    exact ih h T k
theorem drX_eq {cx : CallX} {cf : CallF} (hc : AlikeC cx cf) (N : Nat) (ops : Array Oper) (h : AHeap) (T : Tr AV) (k : KT) : drX P N ops cx h T k = liftT (drawF P N ops cf h T) k := by
  unfold drX drC planC drawF drawA drawB
  generalize tailO (ancO ops) (List.range ops.size) 0 = n0
  cases backO ops && noEP (mkPlan P ops n0 (ancO ops)) with
  | false => rfl
  | true =>
    simp only [cond_true]
    cases ckP P ops n0 (ancO ops) (mkPlan P ops n0 (ancO ops)) 0 0 [] && Nat.ble n0 ops.size && tailOk ops n0 (ancO ops) && wfO ops n0 (ancO ops) with
    | false => rfl
    | true =>
      simp only [cond_true]
      rw [appL_eq, exOs_app, cStps_eq hc]
      cases stpsA P N ops n0 (mkPlan P ops n0 (ancO ops)) cf h T with
      | none => rfl
      | some r => exact cOps_eq hc _ r.1 r.2 k
end

/-! ### plans that are known -/
def look {α : Type} (n : Nat) : List (Nat × α) → Option α
  | [] => none
  | (k, v) :: l => bif Nat.beq k n then some v else look n l
abbrev Tb := List (Nat × (Nat × List Stp))
def natsEq : List Nat → List Nat → Bool
  | [], [] => true
  | a :: l, b :: r => Nat.beq a b && natsEq l r
  | _, _ => false
def stpEq : Stp → Stp → Bool
  | .early i, .early j => Nat.beq i j
  | .pre i, .pre j => Nat.beq i j
  | .eff i c, .eff j d => Nat.beq i j && natsEq c d
  | _, _ => false
def stpsEq : List Stp → List Stp → Bool
  | [], [] => true
  | a :: l, b :: r => stpEq a b && stpsEq l r
  | _, _ => false
theorem natsEq_spec : ∀ {l r : List Nat}, natsEq l r = true → l = r
  | [], [], _ => rfl
  | a :: l, b :: r, h => by
    simp only [natsEq, Bool.and_eq_true] at h
    rw [natBeq h.1, natsEq_spec h.2]
  | [], _ :: _, h => by cases h
  | _ :: _, [], h => by cases h
theorem stpEq_spec {a b : Stp} (h : stpEq a b = true) : a = b := by
  cases a <;> cases b <;> first | (cases h; done) | skip
  · rw [natBeq h]
  · rw [natBeq h]
  · simp only [stpEq, Bool.and_eq_true] at h
    rw [natBeq h.1, natsEq_spec h.2]
theorem stpsEq_spec : ∀ {l r : List Stp}, stpsEq l r = true → l = r
  | [], [], _ => rfl
  | a :: l, b :: r, h => by
    simp only [stpsEq, Bool.and_eq_true] at h
    rw [stpEq_spec h.1, stpsEq_spec h.2]
  | [], _ :: _, h => by cases h
  | _ :: _, [], h => by cases h
section
variable (P : Program)
/-- A known plan is the one that would be made, and holds. -/
noncomputable def chkT (ops : Array Oper) (n0 : Nat) (pl : List Stp) : Bool :=
  Nat.beq (tailO (ancO ops) (List.range ops.size) 0) n0 && (stpsEq pl (mkPlan P ops n0 (ancO ops)) && (backO ops && (noEP pl && (ckP P ops n0 (ancO ops) pl 0 0 [] && (Nat.ble n0 ops.size && (tailOk ops n0 (ancO ops) && wfO ops n0 (ancO ops)))))))
noncomputable def dtP (N : Nat) (ops : Array Oper) : Nat → List Stp → CallX → AHeap → Tr AV → KT → Bool := fun n0 pl => exOs P N ops n0 (appL (cStps P N ops n0 pl) (cOps P N (ops.toList.drop n0)))
noncomputable def dtS (N : Nat) (ops : Array Oper) : Nat × List Stp → CallX → AHeap → Tr AV → KT → Bool := fun p => Prod.rec (motive := fun _ => CallX → AHeap → Tr AV → KT → Bool) (dtP P N ops) p
noncomputable def dtX (N : Nat) (ops : Array Oper) (e : Option (Nat × List Stp)) : CallX → AHeap → Tr AV → KT → Bool := Option.rec (motive := fun _ => CallX → AHeap → Tr AV → KT → Bool) (drX P N ops) (dtS P N ops) e
noncomputable def tbR (E : Tb) (i : Nat) (ops : Array Oper) (draw : Bool) : Bool := bif draw then (match look i E with | some p => chkT P ops p.1 p.2 | none => true) else true
noncomputable def tbOk (E : Tb) (c : Code) : Bool :=
  Code.rec (motive := fun _ => Bool) true (fun i ops d => tbR P E i ops d) (fun _ _ a b => a && b) (fun _ _ _ a b => a && b) (fun _ _ a => a) (fun _ a => a) (fun _ _ _ _ _ _ => true) (fun _ => true) (fun _ _ => true) (fun _ => true) (fun _ => true) true (fun _ => true) c
variable {P}
theorem dtX_eq {N : Nat} {ops : Array Oper} {E : Tb} {i : Nat} (h : tbR P E i ops true = true) : dtX P N ops (look i E) = drX P N ops := by
  unfold tbR at h
  simp only [cond_true] at h
  cases hl : look i E with
  | none => rfl
  | some p =>
    rw [hl] at h
    obtain ⟨n0, pl⟩ := p
    simp only [chkT, Bool.and_eq_true] at h
    obtain ⟨h1, h2, h3, h4, h5, h6, h7, h8⟩ := h
    have h1 := natBeq h1
    have h2 := stpsEq_spec h2
    have hp : planC P N ops n0 = some (appL (cStps P N ops n0 pl) (cOps P N (ops.toList.drop n0))) := by
      unfold planC
      rw [← h2, h3, h4, h5, h6, h7, h8]
      rfl
    unfold drX drC
    rw [h1, hp]
    rfl
end

/-! ### code -/
def skX : CodeX := fun _ _ h T D k => k .normal h T D
def noX : CodeX := fun _ _ _ _ _ _ => false
noncomputable def sqK (x : AX) : CodeX → CallX → Option Bn → KX → AHeap → Tr AV → List Bn → Bool :=
  AX.rec (motive := fun _ => CodeX → CallX → Option Bn → KX → AHeap → Tr AV → List Bn → Bool)
    (fun B cx ro k h T D => B cx ro h T D k) (fun i _ _ _ k h T D => k (.exit i) h T D) (fun l _ _ _ k h T D => k (.goto l) h T D) (fun _ _ _ k h T D => k .ret h T D) x
noncomputable def sqX (A B : CodeX) : CodeX := fun cx ro h T D k => A cx ro h T D fun x h T D => sqK x B cx ro k h T D
theorem sqX_eq {A B : CodeX} {A' B' : CodeF} (hA : AlikeA A A') (hB : AlikeA B B') : AlikeA (sqX A B) (seqE A' B') := by
  intro cx cf hc ro h T D k
  unfold sqX seqE
  rw [hA cx cf hc]
  cases A' cf ro h T D with
  | no => rfl
  | ok x h T D => cases x <;> first | exact hB cx cf hc ro h T D k | rfl

/-- The truth of a value. -/
noncomputable def asB (v : AV) : Option Bool := AV.rec (motive_1 := fun _ => Option Bool) (motive_2 := fun _ => Unit)
  (fun b => some b) (fun _ _ => none) (fun _ => none) none (fun _ _ => none) none none (fun _ _ _ _ => none) none (fun _ => none) (fun _ _ _ _ _ => none) (fun _ => none) none (fun _ _ _ => none) none (fun _ _ => none) (fun _ _ => none) () (fun _ _ _ _ => ()) v
noncomputable def cdB (b : Bool) : CodeX → CodeX → CodeX := Bool.rec (motive := fun _ => CodeX → CodeX → CodeX) (fun _ B => B) (fun A _ => A) b
noncomputable def cdO (b : Option Bool) : CodeX → CodeX → CodeX := Option.rec (motive := fun _ => CodeX → CodeX → CodeX) (fun _ _ => noX) cdB b
noncomputable def cdV (v : Option AV) : CodeX → CodeX → CodeX := Option.rec (motive := fun _ => CodeX → CodeX → CodeX) (fun _ _ => noX) (fun v => cdO (asB v)) v
noncomputable def cdX (c : Operand) (A B : CodeX) : CodeX := fun cx ro h T D k => cdV (evX c T) A B cx ro h T D k
theorem cdX_eq {c : Operand} {A B : CodeX} {A' B' : CodeF} (hA : AlikeA A A') (hB : AlikeA B B') : AlikeA (cdX c A B) (condE c A' B') := by
  intro cx cf hc ro h T D k
  unfold cdX condE
  rw [evX_eq]
  cases evO c T with
  | none => rfl
  | some v =>
    cases v <;> first | rfl | skip
    rename_i b
    cases b
    · exact hB cx cf hc ro h T D k
    · exact hA cx cf hc ro h T D k

noncomputable def blK2 (b : Bool) : Nat → KX → AHeap → Tr AV → List Bn → Bool := Bool.rec (motive := fun _ => Nat → KX → AHeap → Tr AV → List Bn → Bool) (fun i k h T D => k (.exit i) h T D) (fun _ k h T D => k .normal h T D) b
noncomputable def blK1 (x : AX) : Nat → KX → AHeap → Tr AV → List Bn → Bool :=
  AX.rec (motive := fun _ => Nat → KX → AHeap → Tr AV → List Bn → Bool) (fun _ k h T D => k .normal h T D) (fun i id k h T D => blK2 (Nat.beq i id) i k h T D) (fun l _ k h T D => k (.goto l) h T D) (fun _ k h T D => k .ret h T D) x
noncomputable def blX (id : Nat) (A : CodeX) : CodeX := fun cx ro h T D k => A cx ro h T D fun x h T D => blK1 x id k h T D
theorem blX_eq {id : Nat} {A : CodeX} {A' : CodeF} (hA : AlikeA A A') : AlikeA (blX id A) (blockE id A') := by
  intro cx cf hc ro h T D k
  unfold blX blockE
  rw [hA cx cf hc]
  cases A' cf ro h T D with
  | no => rfl
  | ok x h T D =>
    cases x with
    | exit i =>
      show blK2 (Nat.beq i id) i k h T D = liftR (bif Nat.beq i id then .ok .normal h T D else .ok (.exit i) h T D) k
      cases Nat.beq i id <;> rfl
    | normal => rfl
    | goto l => rfl
    | ret => rfl

noncomputable def lpX (A : CodeX) (n : Nat) : CodeX := Nat.rec (motive := fun _ => CodeX) noX (fun _ ih => sqX A ih) n
theorem lpX_eq {A : CodeX} {A' : CodeF} (hA : AlikeA A A') : ∀ n, AlikeA (lpX A n) (loopE A' n) := by
  intro n
  induction n with
  | zero => intro cx cf hc ro h T D k; rfl
  | succ n ih =>
    intro cx cf hc ro h T D k
    have := sqX_eq hA ih cx cf hc ro h T D k
    refine this.trans ?_
    show liftR (seqE A' (loopE A' n) cf ro h T D) k = liftR (match A' cf ro h T D with | .ok .normal h T D => loopE A' n cf ro h T D | r => r) k
    unfold seqE
    rfl

section
variable (P : Program) (N : Nat)
noncomputable def rgX (E : Tb) (i : Nat) (ops : Array Oper) (draw : Bool) : CodeX := Bool.rec (motive := fun _ => Array Oper → CodeX)
  (fun ops cx _ h T D k => exOs P N ops 0 (cOps P N ops.toList) cx h T fun h T => k .normal h T D)
  (fun ops cx _ h T D k => dtX P N ops (look i E) cx h T fun h T => k .normal h T D) draw ops
noncomputable def rfX (f : Operand) (ps : Array Tmp) (assign body : Code) : CodeX := fun cx ro h T D k =>
  match (evO f T).bind fun F => (enterE N ps assign body ro h T D).bind fun x => (callV P F [.yld x.2.1]).map fun c => (x, c) with
  | some (x, (.fn g, A)) => cx (.fn g) A x.1 fun h3 _ => liftR (leaveE x.2.1 h3 T x.2.2) k
  | _ => false
noncomputable def exX (E : Tb) (c : Code) : CodeX :=
  Code.rec (motive := fun _ => CodeX) skX (fun i ops draw => rgX P N E i ops draw) (fun _ _ A B => sqX A B) (fun c _ _ A B => cdX c A B) (fun id _ A => blX id A) (fun _ A => lpX A 1000000)
    (fun f ps assign body _ _ => rfX P N f ps assign body) (fun i _ _ h T D k => k (.exit i) h T D) (fun _ _ => noX) (fun _ => skX) (fun l _ _ h T D k => k (.goto l) h T D) (fun _ _ h T D k => k .ret h T D) (fun _ => noX) c
variable {P N}
theorem rgX_eq {E : Tb} {ops : Array Oper} {draw : Bool} {i : Nat} (he : tbR P E i ops draw = true) : AlikeA (rgX P N E i ops draw) (exC P (drawF P) N (.region i ops draw)) := by
  intro cx cf hc ro h T D k
  cases draw with
  | false =>
    show exOs P N ops 0 (cOps P N ops.toList) cx h T (fun h T => k .normal h T D) = liftR (toRs D (opsE P N ops ops.toList cf h T)) k
    rw [cOps_eq hc]
    cases opsE P N ops ops.toList cf h T <;> rfl
  | true =>
    show dtX P N ops (look i E) cx h T (fun h T => k .normal h T D) = liftR (toRs D (drawF P N ops cf h T)) k
    rw [dtX_eq he, drX_eq hc]
    cases drawF P N ops cf h T <;> rfl
theorem rfX_eq (f : Operand) (ps : Array Tmp) (assign body : Code) : AlikeA (rfX P N f ps assign body) (rfE P N f ps assign body) := by
  intro cx cf hc ro h T D k
  unfold rfX rfE
  cases evO f T with
  | none => rfl
  | some F =>
    simp only [Option.bind_some]
    cases enterE N ps assign body ro h T D with
    | none => rfl
    | some x =>
      simp only [Option.bind_some]
      cases callV P F [.yld x.2.1] with
      | none => rfl
      | some c =>
        obtain ⟨ct, A⟩ := c
        simp only [Option.bind_some, Option.map_some]
        cases ct with
        | yld b => rfl
        | fn g =>
          simp only
          rw [hc]
          cases cf (.fn g) A x.1 <;> rfl
theorem exX_eq {E : Tb} (c : Code) (he : tbOk P E c = true) : AlikeA (exX P N E c) (exC P (drawF P) N c) := by
  induction c with
  | skip => intro cx cf hc ro h T D k; rfl
  | region i ops draw => exact rgX_eq he
  | seq a b ha hb =>
    have he : (tbOk P E a && tbOk P E b) = true := he
    rw [Bool.and_eq_true] at he
    exact sqX_eq (ha he.1) (hb he.2)
  | cond c a b ha hb =>
    have he : (tbOk P E a && tbOk P E b) = true := he
    rw [Bool.and_eq_true] at he
    exact cdX_eq (ha he.1) (hb he.2)
  | block i a ha => exact blX_eq (ha he)
  | loop a ha => exact lpX_eq (ha he) 1000000
  | rangeFunc f ps a b _ _ => exact rfX_eq f ps a b
  | exit i => intro cx cf hc ro h T D k; rfl
  | scope a _ => intro cx cf hc ro h T D k; rfl
  | label l => intro cx cf hc ro h T D k; rfl
  | goto l => intro cx cf hc ro h T D k; rfl
  | ret => intro cx cf hc ro h T D k; rfl
  | refuse _ => intro cx cf hc ro h T D k; rfl
theorem tbOk_nil (c : Code) : tbOk P [] c = true := by
  induction c with
  | region i ops draw => cases draw <;> rfl
  | seq a b ha hb => show (tbOk P [] a && tbOk P [] b) = true; rw [ha, hb]; rfl
  | cond c a b ha hb => show (tbOk P [] a && tbOk P [] b) = true; rw [ha, hb]; rfl
  | block i a ha => exact ha
  | loop a ha => exact ha
  | _ => rfl
end

/-! ### calls -/
section
variable (P : Program)
noncomputable def endX (b : Bn) (x : AX) (h3 : AHeap) (k : KV) : Bool := match Tr.get b h3.objs with
  | some (.loop _ _ N' T' ps' as' bd' d') => (match x with
    | .normal => k (h3.put b (.loop .ready none N' T' ps' as' bd' d')) (.bool true)
    | .ret => k (h3.put b (.loop .done (some .ret) N' T' ps' as' bd' d')) (.bool false)
    | .exit i => k (h3.put b (.loop .done (some (.exit i)) N' T' ps' as' bd' d')) (.bool false)
    | .goto l => false)
  | _ => false
noncomputable def roundX (cx : CallX) (b : Bn) (A : List AV) (h : AHeap) (k : KV) : Bool :=
  match Tr.get b h.objs with
  | some (.loop _ _ N T ps assign body _) => (match laySlots N ps.toList A T with
    | some T1 => exX P N [] assign cx (some b) h T1 [] fun x h1 T2 D => (match x with
      | .normal => (match Tr.get b h1.objs with
        | some (.loop .ready p N' T' ps' as' bd' d') => exX P N [] body cx (some b) (h1.put b (.loop .busy p N' T' ps' as' bd' d')) T2 D fun x h3 _ _ => endX b x h3 k
        | _ => false)
      | _ => false)
    | none => false)
  | _ => false
noncomputable def fnK (fn : Func) (k : KV) (h : AHeap) (T : Tr AV) (D : List Bn) : Bool := match takeE D h with
  | some h => (match resE P h T fn.results.toList with
    | some l => k h (oneV l)
    | none => false)
  | none => false
noncomputable def finX (fn : Func) (k : KV) : KX := fun x h T D => match x with
  | .normal => fnK P fn k h T D
  | .ret => fnK P fn k h T D
  | _ => false
noncomputable def fnX (E : Tb) (g : FuncId) : CallX → List AV → AHeap → KV → Bool :=
  match P.funcs[g]? with
  | none => fun _ _ _ _ => false
  | some fn => match fn.body with
    | none => fun _ _ _ _ => false
    | some c => fun cx A h k => match laySlots fn.ntmps (List.range A.length) A .leaf with
      | some T => exX P fn.ntmps E c cx none h T [] (finX P fn k)
      | none => false
abbrev Tbl := List (Nat × Tb)
def tbF (L : Tbl) (g : Nat) : Tb := match look g L with
  | some E => E
  | none => []
noncomputable def callX (L : Tbl) (S : Sums) (d : Nat) : CallX :=
  Nat.rec (motive := fun _ => CallX) (fun _ _ _ _ => false) (fun _ cx ct A h k => match ct with
    | .fn g => (match S g with
      | some s => liftV (s A h) k
      | none => fnX P (tbF L g) g cx A h k)
    | .yld b => roundX P cx b A h k) d
variable {P}
theorem roundX_eq {cx : CallX} {cf : CallF} (hc : AlikeC cx cf) (b : Bn) (A : List AV) (h : AHeap) (k : KV) : roundX P cx b A h k = liftV (roundE P (drawF P) cf b A h) k := by
  unfold roundX roundE
  cases Tr.get b h.objs with
  | none => rfl
  | some o =>
    cases o <;> first | rfl | skip
    rename_i st p N T ps assign body d
    simp only
    cases laySlots N ps.toList A T with
    | none => rfl
    | some T1 =>
      simp only [Option.bind_some]
      rw [exX_eq assign (tbOk_nil _) cx cf hc]
      cases exC P (drawF P) N assign cf (some b) h T1 [] with
      | no => rfl
      | ok x h1 T2 D =>
        cases x <;> first | rfl | skip
        simp only [liftR]
        cases Tr.get b h1.objs with
        | none => rfl
        | some o =>
          cases o <;> first | rfl | skip
          rename_i st p N' T' ps' as' bd' d'
          cases st <;> first | rfl | skip
          simp only
          rw [exX_eq body (tbOk_nil _) cx cf hc]
          cases exC P (drawF P) N body cf (some b) (h1.put b (.loop .busy p N' T' ps' as' bd' d')) T2 D with
          | no => rfl
          | ok x h3 T3 D3 =>
            simp only [liftR]
            unfold endX
            cases Tr.get b h3.objs with
            | none => rfl
            | some o =>
              cases o <;> first | rfl | skip
              cases x <;> rfl
theorem fnX_eq {E : Tb} {g : FuncId} (he : ∀ fn c, P.funcs[g]? = some fn → fn.body = some c → tbOk P E c = true) {cx : CallX} {cf : CallF} (hc : AlikeC cx cf) (A : List AV) (h : AHeap) (k : KV) : fnX P E g cx A h k = liftV (fnE P (drawF P) g cf A h) k := by
  unfold fnX fnE
  cases hf : P.funcs[g]? with
  | none => rfl
  | some fn =>
    simp only
    cases hb : fn.body with
    | none => rfl
    | some c =>
      have he := he fn c hf hb
      simp only
      cases laySlots fn.ntmps (List.range A.length) A .leaf with
      | none => rfl
      | some T =>
        simp only [Option.bind_some]
        rw [exX_eq c he cx cf hc]
        have fin : ∀ h T D, fnK P fn k h T D = liftV ((takeE D h).bind fun h => (resE P h T fn.results.toList).map fun l => (h, oneV l)) k := by
          intro h T D
          unfold fnK
          cases takeE D h with
          | none => rfl
          | some h => simp only [Option.bind_some]; cases resE P h T fn.results.toList <;> rfl
        cases exC P (drawF P) fn.ntmps c cf none h T [] with
        | no => rfl
        | ok x h1 T1 D1 => cases x <;> first | rfl | exact fin h1 T1 D1
/-- A table of known plans that hold. -/
noncomputable def tblC (P : Program) (L : Tbl) : Bool := L.all fun p => match P.funcs[p.1]? with
  | some fn => (match fn.body with | some c => tbOk P p.2 c | none => true)
  | none => true
theorem look_mem {α : Type} {n : Nat} : ∀ {l : List (Nat × α)} {v : α}, look n l = some v → (n, v) ∈ l
  | (k, v') :: l, v, h => by
    simp only [look] at h
    cases hb : Nat.beq k n with
    | true =>
      rw [hb] at h
      simp only [cond_true, Option.some.injEq] at h
      rw [← natBeq hb, ← h]; exact List.mem_cons_self
    | false => rw [hb] at h; exact List.mem_cons_of_mem _ (look_mem h)
theorem tblC_spec {L : Tbl} (h : tblC P L = true) (g : FuncId) : ∀ fn c, P.funcs[g]? = some fn → fn.body = some c → tbOk P (tbF L g) c = true := by
  intro fn c hf hb
  unfold tbF
  cases hl : look g L with
  | none => exact tbOk_nil c
  | some E =>
    have := List.all_eq_true.1 h _ (look_mem hl)
    simp only [hf, hb] at this
    exact this
theorem tblC_app {L L' : Tbl} (h : tblC P L = true) (h' : tblC P L' = true) : tblC P (L ++ L') = true := by
  unfold tblC at *
  rw [List.all_append, h, h']; rfl
theorem callX_eq {L : Tbl} (hL : tblC P L = true) (S : Sums) : ∀ d, AlikeC (callX P L S d) (callE P (drawF P) S d) := by
  intro d
  induction d with
  | zero => intro ct A h k; rfl
  | succ d ih =>
    intro ct A h k
    cases ct with
    | fn g =>
      show (match S g with | some s => liftV (s A h) k | none => fnX P (tbF L g) g (callX P L S d) A h k) = liftV (match S g with | some s => s A h | none => fnE P (drawF P) g (callE P (drawF P) S d) A h) k
      cases S g with
      | some s => rfl
      | none => exact fnX_eq (tblC_spec hL g) ih A h k
    | yld b => exact roundX_eq ih b A h k
theorem of_callX {L : Tbl} (hL : tblC P L = true) {S : Sums} {d : Nat} {ct : CallT} {A : List AV} {h : AHeap} {k : KV} (e : callX P L S d ct A h k = true) : ∃ h' r, callE P (drawF P) S d ct A h = some (h', r) ∧ k h' r = true := by
  rw [callX_eq hL] at e
  cases he : callE P (drawF P) S d ct A h with
  | none => rw [he] at e; cases e
  | some r => rw [he] at e; exact ⟨r.1, r.2, rfl, e⟩
end
end Go.Ev

/- Closed laws, piece by piece. -/
set_option linter.unusedSimpArgs false
namespace Go.Ev
open Go.RowKit

/-- From one world to a later one: what was there is as it was. -/
structure Gr (w w' : World) : Prop where
  size : w.heap.size ≤ w'.heap.size
  same : ∀ B, B < w.heap.size → w'.heap[B]? = w.heap[B]?
  tape : w'.tape = w.tape
  os : w'.os = w.os
  output : w'.output = w.output
  fz : ∀ a, w'.frozen? a = w.frozen? a
theorem Gr.refl (w : World) : Gr w w := ⟨Nat.le_refl _, fun _ _ => rfl, rfl, rfl, rfl, fun _ => rfl⟩
theorem Gr.trans {w w' w'' : World} (x : Gr w w') (y : Gr w' w'') : Gr w w'' :=
  ⟨Nat.le_trans x.size y.size, fun B hB => (y.same B (Nat.lt_of_lt_of_le hB x.size)).trans (x.same B hB), y.tape.trans x.tape, y.os.trans x.os, y.output.trans x.output, fun a => (y.fz a).trans (x.fz a)⟩
theorem no_im (m : Ren) (B : Nat) : ¬ Im m noHeap B := by rintro ⟨b, o, L, e, _⟩; simp [noHeap] at e
theorem Ext.gr {m m' : Ren} {h' : AHeap} {w w' : World} (x : Ext m noHeap w m' h' w') : Gr w w' :=
  ⟨x.size, fun B hB => x.same B hB (no_im m B), x.tape, x.os, x.output, x.fz⟩
theorem Gr.grown {w w' : World} (x : Gr w w') : Grown w w' := by
  refine ⟨⟨x.os, x.output, fun i hi => ?_⟩, x.fz, x.size⟩
  rw [x.same i hi]
  cases w.heap[i]? with
  | none => trivial
  | some o => cases o <;> simp

def isT : KV := fun _ v => match v with
  | .bool b => b
  | _ => false
def isN : KX := fun x _ _ D => match x, D with
  | .normal, [] => true
  | _, _ => false

section
variable {P : Program}
/-- The code goes on to an end that answers true. -/
def GoesOn (P : Program) (fn : Func) (c : Code) : Prop := ∀ w0 w a, Gr w0 w → a.tmps.size = fn.ntmps → a.defers = [] → c.wpIn Fence.wide 0 P (bodyPostM Fence.wide 0 P fn fun e w' => e = .returned (.bool true) ∧ Gr w0 w') a w

theorem leaf_fr (m : Ren) (tmps : Array Value) : FR m (.leaf : Tr AV) tmps := fun t A h => by simp at h

/-- The first k statements of a row. -/
def tk : Nat → Code → Code
  | 0, _ => .skip
  | k + 1, c => match c with
    | .seq a b => .seq a (tk k b)
    | _ => .refuse ""
/-- The rest. -/
def dr : Nat → Code → Code
  | 0, c => c
  | k + 1, c => match c with
    | .seq _ b => dr k b
    | c => c
theorem tk_sound (hN : NamesOk P) {df : DrawF} (hdr : DrawOk P df) {N : Nat} {cf : CallF} (hcf : CallOk P cf) : ∀ (k : Nat) (c : Code) {ro : Option Bn} {h h' : AHeap} {T T' : Tr AV} {D D' : List Bn}
    (_ : exC P df N (tk k c) cf ro h T D = .ok .normal h' T' D') {m : Ren} {w : World} {a : Act} {rr : Option Nat} {n : Nat} (_ : HR m h w) (_ : FR m T a.tmps) (_ : a.tmps.size = N) (_ : DR m D a.defers) (_ : RoR m ro rr)
    {Q : Exit → Act → World → Prop} (_ : Behind N m h w h' T' D' fun a w => (dr k c).wpIn (wideR rr) n P Q a w), c.wpIn (wideR rr) n P Q a w := by
  intro k
  induction k with
  | zero =>
    intro c ro h h' T T' D D' e m w a rr n H hF hs hD hro Q hK
    have e : Rs.ok .normal h T D = .ok .normal h' T' D' := e
    simp only [Rs.ok.injEq, true_and] at e
    obtain ⟨rfl, rfl, rfl⟩ := e
    exact hK m w a H hF hs hD (Ext.refl _ _ _)
  | succ k ih =>
    intro c ro h h' T T' D D' e m w a rr n H hF hs hD hro Q hK
    cases c with
    | seq x y =>
      have e : seqE (exC P df N x) (exC P df N (tk k y)) cf ro h T D = .ok .normal h' T' D' := e
      unfold seqE at e
      cases hx : exC P df N x cf ro h T D with
      | no => rw [hx] at e; cases e
      | ok z h1 T1 D1 =>
        rw [hx] at e
        cases z with
        | normal =>
          refine wpIn_seq ?_
          refine exC_sound hN hdr hcf x hx H hF hs hD hro fun m1 w1 a1 H1 hF1 hs1 hD1 hx1 => ?_
          exact ih y e H1 hF1 hs1 hD1 (hro.mono hx1.le) fun m2 w2 a2 H2 hF2 hs2 hD2 hx2 => hK m2 w2 a2 H2 hF2 hs2 hD2 (hx1.trans hx2)
        | exit i => simp at e
        | goto l => simp at e
        | ret => simp at e
    | _ => exact absurd e (by intro e; cases (e : Rs.no = _))

variable (hN : NamesOk P) (hm : P.follows .mixedOrders = true) {L : Tbl} (hL : tblC P L = true) {S : Sums} (hS : SumsOk P S) {fn : Func} {E : Tb} {d : Nat}
include hN hm hL hS
theorem goes_last {c : Code} (he : tbOk P E c = true) (e : exX P fn.ntmps E c (callX P L S d) none noHeap .leaf [] (finX P fn isT) = true) : GoesOn P fn c := by
  intro w0 w a hg hs hd
  have hdr := drawF_ok hN hm
  have hcf := callE_ok hN hdr hS d
  rw [exX_eq c he _ _ (callX_eq hL S d)] at e
  cases hc : exC P (drawF P) fn.ntmps c (callE P (drawF P) S d) none noHeap .leaf [] with
  | no => rw [hc] at e; cases e
  | ok x h1 T1 D1 =>
    rw [hc] at e
    have fin : (x = .normal ∨ x = .ret) → fnK P fn isT h1 T1 D1 = true → c.wpIn Fence.wide 0 P (bodyPostM Fence.wide 0 P fn fun e w' => e = .returned (.bool true) ∧ Gr w0 w') a w := by
      intro hx hk
      unfold fnK at hk
      cases ht : takeE D1 h1 with
      | none => rw [ht] at hk; cases hk
      | some h2 =>
        rw [ht] at hk
        simp only at hk
        cases hl : resE P h2 T1 fn.results.toList with
        | none => rw [hl] at hk; cases hk
        | some l =>
          rw [hl] at hk
          simp only at hk
          have hb : oneV l = .bool true := by
            unfold isT at hk
            split at hk
            · next b hb => rw [hb, hk]
            · cases hk
          refine exC_sound hN hdr hcf c hc (rr := none) (n := 0) (noHeap_hr w) (leaf_fr _ _) hs (by rw [hd]; trivial) trivial fun m1 w1 a1 H1 hF1 hs1 hD1 hx1 => ?_
          have : LeavesInM Fence.wide 0 P fn a1.tmps (fun e w' => e = .returned (.bool true) ∧ Gr w0 w') a1.defers .returning w1 := by
            refine takeE_sim ht H1 hD1 fun w2 H2 hx2 => ?_
            obtain ⟨v, p1, p2⟩ := run_results H2 hF1 hl
            rw [hb] at p2
            rw [vr_bool p2] at p1
            exact ⟨_, p1, rfl, hg.trans (hx1.trans hx2).gr⟩
          rcases hx with rfl | rfl <;> exact this
    cases x with
    | normal => exact fin (.inl rfl) e
    | ret => exact fin (.inr rfl) e
    | exit i => cases e
    | goto l => cases e
theorem goes_tk (k : Nat) {c : Code} (he : tbOk P E (tk k c) = true) (e : exX P fn.ntmps E (tk k c) (callX P L S d) none noHeap .leaf [] isN = true) (hB : GoesOn P fn (dr k c)) : GoesOn P fn c := by
  intro w0 w a hg hs hd
  have hdr := drawF_ok hN hm
  have hcf := callE_ok hN hdr hS d
  rw [exX_eq (tk k c) he _ _ (callX_eq hL S d)] at e
  cases hc : exC P (drawF P) fn.ntmps (tk k c) (callE P (drawF P) S d) none noHeap .leaf [] with
  | no => rw [hc] at e; cases e
  | ok x h1 T1 D1 =>
    rw [hc] at e
    have e : isN x h1 T1 D1 = true := e
    unfold isN at e
    split at e
    · refine tk_sound hN hdr hcf k c hc (rr := none) (n := 0) (noHeap_hr w) (leaf_fr _ _) hs (by rw [hd]; trivial) trivial fun m1 w1 a1 H1 hF1 hs1 hD1 hx1 => ?_
      exact hB w0 w1 a1 (hg.trans hx1.gr) hs1 hD1.nil_left
    · cases e
theorem goes_seq {A B : Code} (he : tbOk P E A = true) (e : exX P fn.ntmps E A (callX P L S d) none noHeap .leaf [] isN = true) (hB : GoesOn P fn B) : GoesOn P fn (.seq A B) := by
  intro w0 w a hg hs hd
  have hdr := drawF_ok hN hm
  have hcf := callE_ok hN hdr hS d
  rw [exX_eq A he _ _ (callX_eq hL S d)] at e
  cases hc : exC P (drawF P) fn.ntmps A (callE P (drawF P) S d) none noHeap .leaf [] with
  | no => rw [hc] at e; cases e
  | ok x h1 T1 D1 =>
    rw [hc] at e
    have e : isN x h1 T1 D1 = true := e
    unfold isN at e
    split at e
    · refine wpIn_seq ?_
      refine exC_sound hN hdr hcf A hc (rr := none) (n := 0) (noHeap_hr w) (leaf_fr _ _) hs (by rw [hd]; trivial) trivial fun m1 w1 a1 H1 hF1 hs1 hD1 hx1 => ?_
      exact hB w0 w1 a1 (hg.trans hx1.gr) hs1 hD1.nil_left
    · cases e
omit hN hm hL hS
theorem calls_of_goes {g : FuncId} {c : Code} (hf : P.funcs[g]? = some fn) (hb : fn.body = some c) (h : GoesOn P fn c) (w : World) : Calls P g #[] w fun e w' => e = .returned (.bool true) ∧ Gr w w' := by
  refine (callsIn_wide (n := 0)).1 (callsIn_of_wp_marks hf hb trivial ?_)
  exact h w w _ (Gr.refl w) (by simp) rfl
theorem calls_of_callX (hN : NamesOk P) (hm : P.follows .mixedOrders = true) {L : Tbl} (hL : tblC P L = true) {S : Sums} (hS : SumsOk P S) {d : Nat} {g : FuncId} (e : callX P L S d (.fn g) [] noHeap isT = true) (w : World) :
    Calls P g #[] w fun e w' => e = .returned (.bool true) ∧ Gr w w' := by
  obtain ⟨h', r, e1, e2⟩ := of_callX hL e
  have hb : r = .bool true := by
    unfold isT at e2
    split at e2
    · next b => rw [e2]
    · cases e2
  subst hb
  have := (callE_ok hN (drawF_ok hN hm) hS d (.fn g) [] noHeap h' _ e1 _ w [] (noHeap_hr w) trivial).2
  have := (callsIn_wide (n := 0)).2 this
  refine (callsIn_wide (n := 0)).1 (CallsIn.mono this ?_)
  intro x w' hx
  cases x with
  | returned v =>
    obtain ⟨m', h1, h2, h3⟩ := hx
    rw [vr_bool h2]
    exact ⟨rfl, h3.gr⟩
  | panicked chain => exact hx.elim
  | outgrown => exact hx.elim

/-- A law that holds, as a summary. -/
def lawS (l : List FuncId) : Sums := fun g => bif l.any (Nat.beq g) then some fun A h => match A with
  | [] => some (h, .bool true)
  | _ => none else none
theorem lawS_ok {l : List FuncId} (h : ∀ g ∈ l, (∃ fn c, P.funcs[g]? = some fn ∧ fn.body = some c) ∧ ∀ w, Calls P g #[] w fun e w' => e = .returned (.bool true) ∧ Gr w w') : SumsOk P (lawS l) := by
  intro g s A hh h' r hs hr m w args H hA
  unfold lawS at hs
  cases hb : l.any (Nat.beq g) with
  | false => rw [hb] at hs; cases hs
  | true =>
    rw [hb] at hs
    simp only [cond_true, Option.some.injEq] at hs
    subst hs
    obtain ⟨g', hg', hgg⟩ := List.any_eq_true.1 hb
    rw [← natBeq hgg] at hg'
    obtain ⟨h1, h2⟩ := h g hg'
    cases A with
    | cons a A => cases hr
    | nil =>
      simp only [Option.some.injEq, Prod.mk.injEq] at hr
      obtain ⟨rfl, rfl⟩ := hr
      rw [hA.nil_left]
      refine ⟨h1, (callsIn_wide (n := 0)).1 (CallsIn.mono ((callsIn_wide (n := 0)).2 (h2 w)) ?_)⟩
      rintro x w' ⟨rfl, hx⟩
      refine ⟨m, ⟨fun b o hg => ?_, H.inj, H.fresh⟩, .bool true, m.le_refl, hx.size, fun B hB _ => hx.same B hB, fun _ _ hi => hi, hx.tape, hx.os, hx.output, hx.fz⟩
      obtain ⟨L, ob, k1, k2, k3⟩ := H.obj b o hg
      exact ⟨L, ob, k1, by rw [hx.same _ (Array.getElem?_eq_some_iff.1 k2).1]; exact k2, k3⟩
theorem noS_ok : SumsOk P (lawS []) := lawS_ok fun g hg => by cases hg
end
/-- No function bears the one name. -/
def namesC (P : Program) : Bool := P.funcs.toList.all fun f => !(f.name == "runtime.NumGoroutine")
theorem namesC_ok {P : Program} (h : namesC P = true) : NamesOk P := by
  intro f fn hf hn
  have : fn ∈ P.funcs.toList := by
    rw [Array.getElem?_eq_some_iff] at hf
    obtain ⟨hlt, rfl⟩ := hf
    simp
  have := List.all_eq_true.1 h fn this
  rw [hn] at this
  simp at this
end Go.Ev

/- The pieces of a function's body. -/
set_option linter.unusedSimpArgs false
namespace Go.Ev

section
variable {P : Program}
theorem dr_add (a : Nat) : ∀ (b : Nat) (c : Code), dr a (dr b c) = dr (b + a) c := by
  intro b
  induction b with
  | zero => intro c; rw [Nat.zero_add]; rfl
  | succ b ih =>
    intro c
    have e : b + 1 + a = (b + a) + 1 := by omega
    rw [e]
    cases c with
    | seq x y => exact ih y
    | _ => cases a <;> rfl
theorem tbOk_dr {E : Tb} : ∀ (k : Nat) {c : Code}, tbOk P E c = true → tbOk P E (dr k c) = true := by
  intro k
  induction k with
  | zero => intro c h; exact h
  | succ k ih =>
    intro c h
    cases c with
    | seq x y =>
      have h : (tbOk P E x && tbOk P E y) = true := h
      rw [Bool.and_eq_true] at h
      exact ih h.2
    | _ => exact h
theorem tbOk_tk {E : Tb} : ∀ (k : Nat) {c : Code}, tbOk P E c = true → tbOk P E (tk k c) = true := by
  intro k
  induction k with
  | zero => intro c h; rfl
  | succ k ih =>
    intro c h
    cases c with
    | seq x y =>
      have h : (tbOk P E x && tbOk P E y) = true := h
      rw [Bool.and_eq_true] at h
      show (tbOk P E x && tbOk P E (tk k y)) = true
      rw [h.1, ih h.2]; rfl
    | _ => rfl

noncomputable def bodyC (P : Program) (g : Nat) : Code := match P.funcs[g]? with
  | some fn => fn.body.getD .skip
  | none => .skip
noncomputable def slotsC (P : Program) (g : Nat) : Nat := match P.funcs[g]? with
  | some fn => fn.ntmps
  | none => 0
noncomputable def fnC (P : Program) (g : Nat) : Func := (P.funcs[g]?).getD default
def hasB (P : Program) (g : Nat) : Bool := match P.funcs[g]? with
  | some fn => fn.body.isSome
  | none => false
theorem hasB_spec {g : Nat} (h : hasB P g = true) : P.funcs[g]? = some (fnC P g) ∧ (fnC P g).body = some (bodyC P g) ∧ slotsC P g = (fnC P g).ntmps := by
  unfold hasB at h
  cases hf : P.funcs[g]? with
  | none => rw [hf] at h; cases h
  | some fn =>
    rw [hf] at h
    obtain ⟨c, hc⟩ := Option.isSome_iff_exists.1 h
    simp only [fnC, bodyC, slotsC, hf, Option.getD_some, hc, and_self]
theorem hasB_ex {g : Nat} (h : hasB P g = true) : ∃ fn c, P.funcs[g]? = some fn ∧ fn.body = some c := ⟨_, _, (hasB_spec h).1, (hasB_spec h).2.1⟩
end

section
variable {P : Program} (hN : NamesOk P) (hm : P.follows .mixedOrders = true) {L : Tbl} (hL : tblC P L = true) {S : Sums} (hS : SumsOk P S) {g d : Nat} (hb : hasB P g = true)
include hN hm hL hS hb
/-- A piece that ends where another one begins. -/
theorem piece {i : Nat} (k : Nat) (e : exX P (slotsC P g) (tbF L g) (tk k (dr i (bodyC P g))) (callX P L S d) none noHeap .leaf [] isN = true) (hB : GoesOn P (fnC P g) (dr (i + k) (bodyC P g))) : GoesOn P (fnC P g) (dr i (bodyC P g)) := by
  obtain ⟨h1, h2, h3⟩ := hasB_spec hb
  rw [h3] at e
  exact goes_tk hN hm hL hS k (tbOk_tk k (tbOk_dr i (tblC_spec hL g _ _ h1 h2))) e (by rw [dr_add]; exact hB)
/-- The last piece. -/
theorem piece_last {i : Nat} (e : exX P (slotsC P g) (tbF L g) (dr i (bodyC P g)) (callX P L S d) none noHeap .leaf [] (finX P (fnC P g) isT) = true) : GoesOn P (fnC P g) (dr i (bodyC P g)) := by
  obtain ⟨h1, h2, h3⟩ := hasB_spec hb
  rw [h3] at e
  exact goes_last hN hm hL hS (tbOk_dr i (tblC_spec hL g _ _ h1 h2)) e
omit hN hm hL hS in
theorem whole (h : GoesOn P (fnC P g) (dr 0 (bodyC P g))) (w : World) : Calls P g #[] w fun e w' => e = .returned (.bool true) ∧ Gr w w' := by
  obtain ⟨h1, h2, _⟩ := hasB_spec hb
  exact calls_of_goes h1 h2 h w
end
end Go.Ev
