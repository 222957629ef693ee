/- A verified evaluator of the model, by its parts: code, rounds, calls. No condition. -/
import Derived.Test.YthjaoljhgimclaaGreatEvC
set_option linter.unusedVariables false
/- One operation; a row of operations, in their order. -/
set_option linter.unusedSimpArgs false
namespace Go.Ev

abbrev CallF := CallT → List AV → AHeap → Option (AHeap × AV)

noncomputable def putT (N : Nat) (dst : Option Tmp) : AV → Tr AV → Option (Tr AV) :=
  match dst with
  | none => fun _ T => some T
  | some d => bif d.blt N then fun r T => some (Tr.set (Bn.slot d) (some r) T) else fun _ _ => none

section
variable (P : Program) (N : Nat)
noncomputable def runO (op : Op) (dst : Option Tmp) : CallF → AHeap → Tr AV → Option (AHeap × Tr AV) :=
  match opK P op with
  | .q f => fun _ h T => (f T).bind fun r => (putT N dst r T).map fun T => (h, T)
  | .r f => fun _ h T => (f h T).bind fun r => (putT N dst r T).map fun T => (h, T)
  | .a f => fun _ h T => (f T).bind fun r => (putT N dst (r.2 h.next) T).map fun T => (h.new r.1, T)
  | .e f => fun _ h T => (f h T).bind fun r => (putT N dst r.2 T).map fun T => (r.1, T)
  | .call f => fun cf h T => (f T).bind fun c => (cf c.1 c.2 h).bind fun r => (putT N dst r.2 T).map fun T => (r.1, T)
  | .bad => fun _ _ _ => none
def slotO (ops : Array Oper) (j : Nat) : Option Tmp := (ops[j]?).bind (·.dst)
noncomputable def guardA (g : Option Tmp) (want : Bool) (T : Tr AV) : Option Bool :=
  match g with
  | some s => (Tr.get (Bn.slot s) T).bind fun v => match v with | .bool b => some (b == want) | _ => some false
  | none => none
noncomputable def stepO (ops : Array Oper) (o : Oper) : CallF → AHeap → Tr AV → Option (AHeap × Tr AV) :=
  match o.guard with
  | none => runO P N o.op o.dst
  | some (j, want) => fun cf h T => (guardA (slotO ops j) want T).bind fun b => bif b then runO P N o.op o.dst cf h T else (putT N o.dst undefA T).map fun T => (h, T)
noncomputable def opsE (ops : Array Oper) (l : List Oper) : CallF → AHeap → Tr AV → Option (AHeap × Tr AV) :=
  List.rec (fun _ h T => some (h, T)) (fun o _ ih cf h T => (stepO P N ops o cf h T).bind fun r => ih cf r.1 r.2) l
end

/-- The fence: whatever function, in a round or not. -/
def wideR (ro : Option Nat) : Fence := { Fence.wide with round := ro }

/-- What a call brings. -/
def CPost (m : Ren) (h : AHeap) (w : World) (h' : AHeap) (r : AV) : Ending → World → Prop
  | .returned v, w' => ∃ m', HR m' h' w' ∧ VR m' r v ∧ Ext m h w m' h' w'
  | _, _ => False
/-- The calls do what they say. -/
def CallOk (P : Program) (cf : CallF) : Prop := ∀ ct A h h' r, cf ct A h = some (h', r) → ∀ m w args, HR m h w → VRs m A args →
  match ct with
  | .fn g => (∃ fn c, P.funcs[g]? = some fn ∧ fn.body = some c) ∧ Calls P g args.toArray w (CPost m h w h' r)
  | .yld b => ∀ L, m b = some L → ∃ l f tmps assign body, (Instr.yield L.blk args.toArray).run P w = .ok (.round l f tmps assign body) w ∧ RoundIn Fence.wide 0 P l f tmps assign body w (CPost m h w h' r)
/-- No function bears the one name that the model treats apart. -/
def NamesOk (P : Program) : Prop := ∀ (f : FuncId) (fn : Func), P.funcs[f]? = some fn → fn.name ≠ "runtime.NumGoroutine"

section
variable {P : Program} {m : Ren} {h : AHeap} {w : World} {N : Nat}

theorem wideR_room (ro : Option Nat) (n : Nat) : (wideR ro).room n := fun _ h => by simp [wideR, Fence.wide] at h
theorem callsIn_wideR {ro : Option Nat} {n : Nat} {f : FuncId} {args : Array Value} {R : Ending → World → Prop} (h : Calls P f args w R) : CallsIn (wideR ro) n P f args w R := by
  have h := (callsIn_wide (n := 0)).2 h
  exact ⟨trivial, fun cs _ => h.2 cs (room_wide _)⟩
theorem roundIn_wideR {ro : Option Nat} {n l : Nat} {f : FuncId} {tmps : Array Value} {assign body : Code} {R : Ending → World → Prop} (h : RoundIn Fence.wide 0 P l f tmps assign body w R) : RoundIn (wideR ro) n P l f tmps assign body w R :=
  ⟨trivial, fun c cs _ => h.2 c cs (room_wide _)⟩

theorem run_callFunc (hN : NamesOk P) {g : FuncId} {fn : Func} {c : Code} (hf : P.funcs[g]? = some fn) (hb : fn.body = some c) (args : Array Value) (w : World) : (callFunc g args).run P w = .ok (.enter g args) w := by
  have h1 := hN g fn hf
  simp [callFunc, hf, hb, h1]

/-- A slot is laid. -/
theorem put_fr {T T' : Tr AV} {a : Act} {dst : Option Tmp} {r : AV} (e : putT N dst r T = some T') (hF : FR m T a.tmps) (hs : a.tmps.size = N) {v : Value} (hv : VR m r v) :
    FR m T' (a.put dst v).tmps ∧ (a.put dst v).tmps.size = N ∧ (a.put dst v).defers = a.defers := by
  unfold putT at e
  cases dst with
  | none => simp only [Option.some.injEq] at e; subst e; exact ⟨hF, hs, rfl⟩
  | some d =>
    simp only at e
    cases hd : d.blt N with
    | false => rw [hd] at e; cases e
    | true =>
      rw [hd] at e
      simp only [cond_true, Option.some.injEq] at e
      subst e
      rw [blt_iff] at hd
      refine ⟨?_, by simp [Act.put, hs], rfl⟩
      intro t A hg
      rw [Tr.get_set] at hg
      simp only [Act.put]
      by_cases ht : t = d
      · subst ht
        rw [if_pos rfl] at hg
        cases hg
        exact ⟨v, by simp [hs, hd], hv⟩
      · rw [if_neg (Bn.slot_ne ht)] at hg
        obtain ⟨u, hu, hr⟩ := hF t A hg
        refine ⟨u, ?_, hr⟩
        rw [Array.getElem?_setIfInBounds, if_neg (fun e => ht e.symm)]
        exact hu

/-- What holds behind an operation. -/
def After (P : Program) (N : Nat) (m : Ren) (h : AHeap) (w : World) (ds : List Deferred) (h' : AHeap) (T' : Tr AV) (K : Act → World → Prop) : Prop :=
  ∀ m' w' a', HR m' h' w' → FR m' T' a'.tmps → a'.tmps.size = N → a'.defers = ds → Ext m h w m' h' w' → K a' w'

theorem semAt_op (ro : Option Nat) {o : Oper} {k : OpK} (hk : opK P o.op = k) (hb : k ≠ .bad) (ρ : Operand → Value) : Oper.semAt ro ρ o = execOp ρ o := by
  refine Oper.semAt_eq ro ρ o fun c hc => ?_
  rw [hc] at hk
  exact hb (by rw [← hk]; rfl)

theorem runO_wp (hN : NamesOk P) {cf : CallF} (hcf : CallOk P cf) {ro : Option Nat} {n : Nat} {o : Oper} {T T' : Tr AV} {h' : AHeap} {a : Act} (H : HR m h w) (hF : FR m T a.tmps) (hs : a.tmps.size = N)
    (e : runO P N o.op o.dst cf h T = some (h', T')) {K : Act → World → Prop} {Q : Exit → Act → World → Prop} (hK : After P N m h w a.defers h' T' K) : o.wpIn (wideR ro) n P a w K Q := by
  refine ⟨fun _ _ => trivial, ?_⟩
  have value : ∀ {m' : Ren} {w' : World} {h1 : AHeap} {r : AV} {v : Value}, HR m' h1 w' → VR m' r v → Ext m h w m' h1 w' → ((putT N o.dst r T).map fun T => (h1, T)) = some (h', T') → K (a.put o.dst v) w' := by
    intro m' w' h1 r v H' hv hx hp
    simp only [Option.map_eq_some_iff, Prod.mk.injEq] at hp
    obtain ⟨T1, hp, rfl, rfl⟩ := hp
    obtain ⟨p1, p2, p3⟩ := put_fr hp (hF.mono hx.le) hs hv
    exact hK m' w' _ H' p1 p2 p3 hx
  unfold runO at e
  cases hk : opK P o.op
  · rename_i f
    rw [hk] at e
    simp only [Option.bind_eq_some_iff] at e
    obtain ⟨r, hr, e⟩ := e
    rw [semAt_op _ hk (by simp)]
    obtain ⟨v, h1, h2⟩ := opq_sim hF hk hr
    rw [h1 w]
    exact value H h2 (Ext.refl _ _ _) e
  · rename_i f
    rw [hk] at e
    simp only [Option.bind_eq_some_iff] at e
    obtain ⟨r, hr, e⟩ := e
    rw [semAt_op _ hk (by simp)]
    obtain ⟨v, h1, h2⟩ := opr_sim H hF hk hr
    rw [h1]
    exact value H h2 (Ext.refl _ _ _) e
  · rename_i f
    rw [hk] at e
    simp only [Option.bind_eq_some_iff] at e
    obtain ⟨⟨ob, k⟩, hr, e⟩ := e
    rw [semAt_op _ hk (by simp)]
    obtain ⟨obj, cap, vv, _, h1, h2, h3⟩ := opa_sim hF hk hr
    rw [h1 w]
    obtain ⟨g1, g2⟩ := H.new (o := ob) (ob := obj) (L := ⟨w.heap.size, 0, cap⟩) rfl ((h2 _).mono (Ren.le_set H.next_none _))
    exact value g1 (h3 _ h.next _ (by simp [Ren.set])) g2 e
  · rename_i f
    rw [hk] at e
    simp only [Option.bind_eq_some_iff] at e
    obtain ⟨r, hr, e⟩ := e
    rw [semAt_op _ hk (by simp)]
    obtain ⟨m', w', nx, h1, h2, h3, h4⟩ := ope_sim H hF hk hr
    rw [h1]
    rcases h2 with ⟨rfl, h2⟩ | ⟨v, rfl, h2⟩
    · rw [h2] at e
      exact value h3 (vr_undef m') h4 e
    · exact value h3 h2 h4 e
  · rename_i f
    rw [hk] at e
    simp only [Option.bind_eq_some_iff] at e
    obtain ⟨⟨ct, A⟩, hc, ⟨h1, r⟩, hr, e⟩ := e
    rw [semAt_op _ hk (by simp)]
    have hs1 := opc_sim hF hk hc
    have hok := hcf _ _ _ _ _ hr
    cases ct with
    | fn g =>
      obtain ⟨args, p1, p2⟩ := hs1
      obtain ⟨⟨fn, c, q1, q2⟩, q3⟩ := hok m w args H p1
      rw [p2 w, run_callFunc hN q1 q2, Oper.uponIn_enter]
      refine ⟨fun hd => by simp [wideR, Fence.wide] at hd, CallsIn.mono (callsIn_wideR q3) ?_⟩
      intro x w' hx
      cases x with
      | returned v => obtain ⟨m', x1, x2, x3⟩ := hx; exact value x1 x2 x3 e
      | panicked chain => exact hx.elim
      | outgrown => exact hx.elim
    | yld b =>
      obtain ⟨L, args, p0, p1, p2⟩ := hs1
      obtain ⟨l, f', tmps, assign, body, q1, q2⟩ := hok m w args H p1 L p0
      rw [p2 w, q1, Oper.uponIn_round]
      refine ⟨fun hd => by simp [wideR, Fence.wide] at hd, RoundIn.mono (roundIn_wideR q2) ?_⟩
      intro x w' hx
      cases x with
      | returned v => obtain ⟨m', x1, x2, x3⟩ := hx; exact value x1 x2 x3 e
      | panicked chain => exact hx.elim
      | outgrown => exact hx.elim
  · rw [hk] at e; cases e

theorem guardA_sim {T : Tr AV} {a : Act} (hF : FR m T a.tmps) {ops : Array Oper} {j : Nat} {want b : Bool} (e : guardA (slotO ops j) want T = some b) : (yielded ops a.tmps j == some want) = b := by
  unfold guardA at e
  cases hs : slotO ops j with
  | none => rw [hs] at e; cases e
  | some s =>
    rw [hs] at e
    simp only [Option.bind_eq_some_iff] at e
    obtain ⟨v, hv, e⟩ := e
    obtain ⟨x, hx, hr⟩ := hF s _ hv
    unfold slotO at hs
    cases hr <;> simp only [Option.some.injEq] at e <;> subst e <;> simp [yielded, hs, hx]

/-- One operation of a region, wanted or not. -/
def opWp (F : Fence) (n : Nat) (P : Program) (ops : Array Oper) (o : Oper) (a : Act) (w : World) (K : Act → World → Prop) (Q : Exit → Act → World → Prop) : Prop :=
  if Region.wanted o (yielded ops a.tmps) then o.wpIn F n P a w K Q else (∀ f, o.about P w a.eval = some f → F.fn f) ∧ K (a.put o.dst undef) w

theorem stepO_wp (hN : NamesOk P) {cf : CallF} (hcf : CallOk P cf) {ro : Option Nat} {n : Nat} {ops : Array Oper} {o : Oper} {T T' : Tr AV} {h' : AHeap} {a : Act} (H : HR m h w) (hF : FR m T a.tmps) (hs : a.tmps.size = N)
    (e : stepO P N ops o cf h T = some (h', T')) {K : Act → World → Prop} {Q : Exit → Act → World → Prop} (hK : After P N m h w a.defers h' T' K) : opWp (wideR ro) n P ops o a w K Q := by
  unfold opWp
  unfold stepO at e
  cases hg : o.guard with
  | none =>
    rw [hg] at e
    have : Region.wanted o (yielded ops a.tmps) = true := by simp [Region.wanted, hg]
    rw [if_pos this]
    exact runO_wp hN hcf H hF hs e hK
  | some jw =>
    obtain ⟨j, want⟩ := jw
    rw [hg] at e
    simp only [Option.bind_eq_some_iff] at e
    obtain ⟨b, hb, e⟩ := e
    have hw : Region.wanted o (yielded ops a.tmps) = b := by
      have := guardA_sim hF hb
      simp only [Region.wanted, hg]
      exact this
    rw [hw]
    cases b with
    | true => rw [if_pos rfl]; exact runO_wp hN hcf H hF hs e hK
    | false =>
      rw [if_neg (by simp)]
      simp only [cond_false, Option.map_eq_some_iff, Prod.mk.injEq] at e
      obtain ⟨T1, hp, rfl, rfl⟩ := e
      obtain ⟨p1, p2, p3⟩ := put_fr hp hF hs (vr_undef m)
      exact ⟨fun _ _ => trivial, hK m w _ H p1 p2 p3 (Ext.refl _ _ _)⟩

theorem After.trans {h1 h2 : AHeap} {T2 : Tr AV} {m1 : Ren} {w1 : World} {ds : List Deferred} {K : Act → World → Prop} (x : Ext m h w m1 h1 w1) (hK : After P N m h w ds h2 T2 K) : After P N m1 h1 w1 ds h2 T2 K :=
  fun m' w' a' H hF hs hd hx => hK m' w' a' H hF hs hd (x.trans hx)

theorem opsE_wp (hN : NamesOk P) {cf : CallF} (hcf : CallOk P cf) {ro : Option Nat} {n : Nat} {ops : Array Oper} : ∀ (l : List Oper) (i : Nat) (_ : ∀ j, ops[i + j]? = l[j]?) {m : Ren} {h : AHeap} {w : World} {T T' : Tr AV} {h' : AHeap} {a : Act} (_ : HR m h w) (_ : FR m T a.tmps) (_ : a.tmps.size = N)
    (_ : opsE P N ops l cf h T = some (h', T')) {Q : Exit → Act → World → Prop} (_ : After P N m h w a.defers h' T' (Q .normal)), wpOpsIn (wideR ro) n P ops Q (List.range' i l.length) a w
  | [], i, _, m, h, w, T, T', h', a, H, hF, hs, e, Q, hK => by
    have : some (h, T) = some (h', T') := e
    simp only [Option.some.injEq, Prod.mk.injEq] at this
    obtain ⟨rfl, rfl⟩ := this
    exact hK m w a H hF hs rfl (Ext.refl _ _ _)
  | o :: l, i, hl, m, h, w, T, T', h', a, H, hF, hs, e, Q, hK => by
    have e : ((stepO P N ops o cf h T).bind fun r => opsE P N ops l cf r.1 r.2) = some (h', T') := e
    simp only [Option.bind_eq_some_iff] at e
    obtain ⟨⟨h1, T1⟩, h2, e⟩ := e
    have hi : ops[i]? = some o := by have := hl 0; simpa using this
    rw [List.length_cons, List.range'_succ]
    simp only [wpOpsIn, hi]
    refine stepO_wp hN hcf H hF hs h2 ?_
    intro m1 w1 a1 H1 hF1 hs1 hd1 hx1
    refine opsE_wp hN hcf l (i + 1) (fun j => ?_) H1 hF1 hs1 e ?_
    · have := hl (j + 1)
      rw [List.getElem?_cons_succ] at this
      rw [← this]; congr 1; omega
    · rw [hd1]; exact hK.trans hx1

theorem region_wp (hN : NamesOk P) {cf : CallF} (hcf : CallOk P cf) {ro : Option Nat} {n id : Nat} {ops : Array Oper} {T T' : Tr AV} {h' : AHeap} {a : Act} (H : HR m h w) (hF : FR m T a.tmps) (hs : a.tmps.size = N)
    (e : opsE P N ops ops.toList cf h T = some (h', T')) {Q : Exit → Act → World → Prop} (hK : After P N m h w a.defers h' T' (Q .normal)) : (Code.region id ops false).wpIn (wideR ro) n P Q a w := by
  refine wpIn_region ?_
  have := opsE_wp (n := n) (ro := ro) hN hcf ops.toList 0 (fun j => by simp) H hF hs e hK
  rw [List.range_eq_range']
  simpa using this
end
end Go.Ev

/- Code, calls, ranges over functions. -/
set_option linter.unusedSimpArgs false
namespace Go.Ev

inductive AX where
  | normal
  | exit (i : Nat)
  | goto (l : Nat)
  | ret
inductive Rs where
  | ok (x : AX) (h : AHeap) (T : Tr AV) (D : List Bn)
  | no

def AX.ex : AX → Exit
  | .normal => .normal
  | .exit i => .exit i
  | .goto l => .goto l
  | .ret => .ret

abbrev CodeF := CallF → Option Bn → AHeap → Tr AV → List Bn → Rs
abbrev DrawF := Nat → Array Oper → CallF → AHeap → Tr AV → Option (AHeap × Tr AV)

def toRs (D : List Bn) : Option (AHeap × Tr AV) → Rs
  | some r => .ok .normal r.1 r.2 D
  | none => .no

noncomputable def seqE (A B : CodeF) : CodeF := fun cf ro h T D => match A cf ro h T D with
  | .ok .normal h T D => B cf ro h T D
  | r => r
noncomputable def condE (c : Operand) (A B : CodeF) : CodeF := fun cf ro h T D => match evO c T with
  | some (.bool true) => A cf ro h T D
  | some (.bool false) => B cf ro h T D
  | _ => .no
noncomputable def blockE (id : Nat) (A : CodeF) : CodeF := fun cf ro h T D => match A cf ro h T D with
  | .ok (.exit i) h T D => bif i.beq id then .ok .normal h T D else .ok (.exit i) h T D
  | r => r
noncomputable def loopE (A : CodeF) (n : Nat) : CodeF := Nat.rec (fun _ _ _ _ _ => .no) (fun _ ih cf ro h T D => match A cf ro h T D with
  | .ok .normal h T D => ih cf ro h T D
  | r => r) n
noncomputable def dfrO (h : AHeap) (b : Bn) : Option Bn := match Tr.get b h.objs with | some (.loop _ _ _ _ _ _ _ d) => some d | _ => none
/-- The loop's record, and the block of deferred calls. -/
noncomputable def enterE (N : Nat) (ps : Array Tmp) (assign body : Code) (ro : Option Bn) (h : AHeap) (T : Tr AV) (D : List Bn) : Option (AHeap × Bn × List Bn) :=
  match ro with
  | none => let h1 := h.new (.deferred true); some (h1.new (.loop .ready none N T ps assign body h.next), h1.next, h.next :: D)
  | some b => (dfrO h b).map fun d => (h.new (.loop .ready none N T ps assign body d), h.next, D)
def jumpE : Option Code → AHeap → Tr AV → List Bn → Rs
  | none, h, T, D => .ok .normal h T D
  | some .ret, h, T, D => .ok .ret h T D
  | some (.exit i), h, T, D => .ok (.exit i) h T D
  | _, _, _, _ => .no
noncomputable def leaveE (l : Bn) (h : AHeap) (T : Tr AV) (D : List Bn) : Rs := match Tr.get l h.objs with
  | some (.loop .ready p _ _ _ _ _ _) => jumpE p (h.kill l) T D
  | some (.loop .done p _ _ _ _ _ _) => jumpE p (h.kill l) T D
  | _ => .no
noncomputable def rfE (P : Program) (N : Nat) (f : Operand) (ps : Array Tmp) (assign body : Code) : CodeF := fun cf ro h T D =>
  match (evO f T).bind fun F => (enterE N ps assign body ro h T D).bind fun x => (callV P F [.yld x.2.1]).bind fun c => match c.1 with
    | .fn g => (cf (.fn g) c.2 x.1).map fun r => (r.1, x.2)
    | .yld _ => none with
  | some (h3, l, D') => leaveE l h3 T D'
  | none => .no

/-- Code. -/
noncomputable def exC (P : Program) (dr : DrawF) (N : Nat) (c : Code) : CodeF :=
  Code.rec
    (fun _ _ h T D => .ok .normal h T D)
    (fun _ ops draw => match draw with
      | false => fun cf _ h T D => toRs D (opsE P N ops ops.toList cf h T)
      | true => fun cf _ h T D => toRs D (dr N ops cf h T))
    (fun _ _ A B => seqE A B)
    (fun c _ _ A B => condE c A B)
    (fun id _ A => blockE id A)
    (fun _ A => loopE A 1000000)
    (fun f ps assign body _ _ => rfE P N f ps assign body)
    (fun i _ _ h T D => .ok (.exit i) h T D)
    (fun _ _ _ _ _ _ _ => .no)
    (fun _ _ _ h T D => .ok .normal h T D)
    (fun l _ _ h T D => .ok (.goto l) h T D)
    (fun _ _ h T D => .ok .ret h T D)
    (fun _ _ _ _ _ _ => .no) c

noncomputable def laySlots (N : Nat) : List Tmp → List AV → Tr AV → Option (Tr AV)
  | [], [], T => some T
  | t :: ts, a :: as, T => (putT N (some t) a T).bind (laySlots N ts as)
  | _, _, _ => none
/-- One round. -/
noncomputable def roundE (P : Program) (dr : DrawF) (cf : CallF) (b : Bn) (A : List AV) (h : AHeap) : Option (AHeap × AV) :=
  match Tr.get b h.objs with
  | some (.loop _ _ N T ps assign body _) => (laySlots N ps.toList A T).bind fun T1 => match exC P dr N assign cf (some b) h T1 [] with
    | .ok .normal h1 T2 D => (match Tr.get b h1.objs with
      | some (.loop .ready p N' T' ps' as' bd' d') => (match exC P dr N body cf (some b) (h1.put b (.loop .busy p N' T' ps' as' bd' d')) T2 D with
        | .ok x h3 _ _ => (match Tr.get b h3.objs with
          | some (.loop _ _ N' T' ps' as' bd' d') => (match x with
            | .normal => some (h3.put b (.loop .ready none N' T' ps' as' bd' d'), .bool true)
            | .ret => some (h3.put b (.loop .done (some .ret) N' T' ps' as' bd' d'), .bool false)
            | .exit i => some (h3.put b (.loop .done (some (.exit i)) N' T' ps' as' bd' d'), .bool false)
            | .goto l => none)
          | _ => none)
        | .no => none)
      | _ => none)
    | _ => none
  | _ => none

noncomputable def resE (P : Program) (h : AHeap) (T : Tr AV) : List ResultVar → Option (List AV)
  | [] => some []
  | .tmp t :: r => (evO (.tmp t) T).bind fun a => (resE P h T r).map (a :: ·)
  | .cell a t :: r => (xLoad (agO P t) (evO (.tmp a)) h T).bind fun a => (resE P h T r).map (a :: ·)
def oneV : List AV → AV
  | [a] => a
  | l => .tup l
/-- The marks are taken. -/
noncomputable def takeE : List Bn → AHeap → Option AHeap
  | [], h => some h
  | b :: D, h => match Tr.get b h.objs with
    | some (.deferred true) => takeE D (h.put b (.deferred false))
    | _ => none
noncomputable def finE (P : Program) (fn : Func) : Rs → Option (AHeap × AV)
  | .ok .normal h T D => (takeE D h).bind fun h => (resE P h T fn.results.toList).map fun l => (h, oneV l)
  | .ok .ret h T D => (takeE D h).bind fun h => (resE P h T fn.results.toList).map fun l => (h, oneV l)
  | _ => none
noncomputable def fnE (P : Program) (dr : DrawF) (g : FuncId) : CallF → List AV → AHeap → Option (AHeap × AV) :=
  match P.funcs[g]? with
  | none => fun _ _ _ => none
  | some fn => match fn.body with
    | none => fun _ _ _ => none
    | some c => fun cf A h => (laySlots fn.ntmps (List.range A.length) A .leaf).bind fun T => finE P fn (exC P dr fn.ntmps c cf none h T [])

abbrev Sums := FuncId → Option (List AV → AHeap → Option (AHeap × AV))
noncomputable def callE (P : Program) (dr : DrawF) (S : Sums) (d : Nat) : CallF :=
  Nat.rec (fun _ _ _ => none) (fun _ cf ct A h => match ct with
    | .fn g => (match S g with
      | some s => s A h
      | none => fnE P dr g cf A h)
    | .yld b => roundE P dr cf b A h) d
end Go.Ev

/- Code is as it is reckoned. -/
set_option linter.unusedSimpArgs false
namespace Go.Ev

section
variable {F : Fence} {n : Nat} {P : Program} {Q : Exit → Act → World → Prop} {a : Act} {w : World}
/-- A loop that is over after so many rounds. -/
theorem wpIn_loop_fuel {c : Code} (W : Nat → Act → World → Prop) (h0 : ∀ a w, ¬ W 0 a w) (step : ∀ j a w, W (j + 1) a w → c.wpIn F n P (Exit.then (W j) Q) a w) {j : Nat} (h : W j a w) : (Code.loop c).wpIn F n P Q a w := by
  classical
  have hex : ∀ {a : Act} {w : World}, (∃ j, W j a w) → ∃ k, W k a w ∧ ∀ i, i < k → ¬ W i a w := by
    rintro a w ⟨j, hj⟩
    induction j using Nat.strongRecOn with
    | _ j ih =>
      by_cases hx : ∃ i, i < j ∧ W i a w
      · obtain ⟨i, hi, hw⟩ := hx; exact ih i hi hw
      · exact ⟨j, hj, fun i hi hw => hx ⟨i, hi, hw⟩⟩
  let μ : Act → World → Nat := fun a w => if hx : ∃ j, W j a w then Classical.choose (hex hx) else 0
  have hμ : ∀ {a : Act} {w : World}, (∃ j, W j a w) → W (μ a w) a w ∧ ∀ i, i < μ a w → ¬ W i a w := by
    intro a w hx
    have := Classical.choose_spec (hex hx)
    simp only [μ, dif_pos hx]
    exact this
  refine wpIn_loop (fun a w => ∃ j, W j a w) μ ⟨j, h⟩ ?_
  intro a w hI
  obtain ⟨h1, h2⟩ := hμ hI
  cases hk : μ a w with
  | zero => rw [hk] at h1; exact absurd h1 (h0 _ _)
  | succ k =>
    rw [hk] at h1
    refine wpIn_mono (step k a w h1) ?_
    intro e a' w' he
    cases e <;> first | exact he | skip
    refine ⟨⟨k, he⟩, ?_⟩
    have := (hμ ⟨k, he⟩).2
    rcases Nat.lt_or_ge k (μ a' w') with hlt | hge
    · exact absurd he (this k hlt)
    · omega
end

def RoR (m : Ren) : Option Bn → Option Nat → Prop
  | none, none => True
  | some b, some l => ∃ L, m b = some L ∧ L.blk = l
  | _, _ => False
def DR (m : Ren) : List Bn → List Deferred → Prop := All2 fun b d => ∃ L, m b = some L ∧ d = { target := .collected L.blk, args := #[] }
theorem RoR.mono {m m' : Ren} (hm : m.le m') {ro : Option Bn} {rr : Option Nat} (h : RoR m ro rr) : RoR m' ro rr := by
  cases ro <;> cases rr <;> first | exact h | skip
  obtain ⟨L, h1, h2⟩ := h
  exact ⟨L, hm _ _ h1, h2⟩
theorem DR.mono {m m' : Ren} (hm : m.le m') {D : List Bn} {ds : List Deferred} (h : DR m D ds) : DR m' D ds := All2.mono (fun _ _ ⟨L, h1, h2⟩ => ⟨L, hm _ _ h1, h2⟩) h

/-- What holds behind code. -/
def Behind (N : Nat) (m : Ren) (h : AHeap) (w : World) (h' : AHeap) (T' : Tr AV) (D' : List Bn) (K : Act → World → Prop) : Prop :=
  ∀ m' w' a', HR m' h' w' → FR m' T' a'.tmps → a'.tmps.size = N → DR m' D' a'.defers → Ext m h w m' h' w' → K a' w'
theorem Behind.trans {N : Nat} {m : Ren} {h : AHeap} {w : World} {h1 h2 : AHeap} {T2 : Tr AV} {m1 : Ren} {w1 : World} {D2 : List Bn} {K : Act → World → Prop} (x : Ext m h w m1 h1 w1) (hK : Behind N m h w h2 T2 D2 K) : Behind N m1 h1 w1 h2 T2 D2 K :=
  fun m' w' a' H hF hs hd hx => hK m' w' a' H hF hs hd (x.trans hx)

def DrawOk (P : Program) (dr : DrawF) : Prop := ∀ N ops cf h T h' T', dr N ops cf h T = some (h', T') → CallOk P cf → ∀ ro n id m w a, HR m h w → FR m T a.tmps → a.tmps.size = N →
  ∀ Q, After P N m h w a.defers h' T' (Q .normal) → (Code.region id ops true).wpIn (wideR ro) n P Q a w

section
variable {P : Program} {dr : DrawF}

theorem HR.loop_at {m : Ren} {h : AHeap} {w : World} (H : HR m h w) {b : Bn} {st : LoopState} {p : Option Code} {N : Nat} {T : Tr AV} {ps : Array Tmp} {as bd : Code} {d : Bn} (hg : Tr.get b h.objs = some (.loop st p N T ps as bd d)) {L : Loc} (hm : m b = some L) :
    ∃ r : Loop, w.heap[L.blk]? = some (.loop r) ∧ r.state = st ∧ r.pending = p ∧ r.tmps.size = N ∧ FR m T r.tmps ∧ r.params = ps ∧ r.assign = as ∧ r.body = bd ∧ ∃ L', m d = some L' ∧ L'.blk = r.defers := by
  obtain ⟨L', ob, e, hw, hO⟩ := H.obj _ _ hg
  rw [hm] at e; cases e
  cases ob <;> first | exact hO.elim | skip
  exact ⟨_, hw, hO⟩
theorem run_getLoop {w : World} {l : Nat} {r : Loop} (hw : w.heap[l]? = some (.loop r)) : (Instr.getLoop l).run P w = .ok r w := by
  have : (getObj l).run P w = .ok (.loop r) w := by simp only [getObj, Sem.run, hw]
  simp [Instr.getLoop, this]
theorem run_setLoop {w : World} {l : Nat} {r : Loop} (hw : w.heap[l]? = some (.loop r)) (r' : Loop) : (setObj l (.loop r')).run P w = .ok () (w.putBlock l (.loop r')) := by
  simp only [setObj, Sem.run, hw]; rfl

def pendWp (F : Fence) (n : Nat) (P : Program) (Q : Exit → Act → World → Prop) (a : Act) (w : World) : Option Code → Prop
  | none => Q .normal a w
  | some c => c.wpIn F n P Q a w
theorem jumpE_sound {N n : Nat} {rr : Option Nat} {p : Option Code} {h h' : AHeap} {T T' : Tr AV} {D D' : List Bn} {x : AX} (e : jumpE p h T D = .ok x h' T' D') {a : Act} {w : World} {Q : Exit → Act → World → Prop} :
    h' = h ∧ T' = T ∧ D' = D ∧ (Q x.ex a w → pendWp (wideR rr) n P Q a w p) := by
  unfold jumpE at e
  split at e <;> first | (cases e; done) | skip
  all_goals
    simp only [Rs.ok.injEq] at e
    obtain ⟨rfl, rfl, rfl, rfl⟩ := e
    refine ⟨rfl, rfl, rfl, fun hq => ?_⟩
  · exact hq
  · exact wpIn_ret hq
  · exact wpIn_exit hq

/-- A range over a function. -/
theorem rfE_sound (hN : NamesOk P) {N : Nat} {f : Operand} {ps : Array Tmp} {assign body : Code} {cf : CallF} (hcf : CallOk P cf) {ro : Option Bn} {h h' : AHeap} {T T' : Tr AV} {D D' : List Bn} {x : AX}
    (e : rfE P N f ps assign body cf ro h T D = .ok x h' T' D') {m : Ren} {w : World} {a : Act} {rr : Option Nat} {n : Nat} (H : HR m h w) (hF : FR m T a.tmps) (hs : a.tmps.size = N) (hD : DR m D a.defers) (hro : RoR m ro rr)
    {Q : Exit → Act → World → Prop} (hK : Behind N m h w h' T' D' (Q x.ex)) : (Code.rangeFunc f ps assign body).wpIn (wideR rr) n P Q a w := by
  unfold rfE at e
  split at e
  case h_2 => cases e
  rename_i h3 l D1 hx
  simp only [Option.bind_eq_some_iff] at hx
  obtain ⟨FA, hFA, ⟨h2, l', D2⟩, hen, ⟨ct, A⟩, hcv, hx⟩ := hx
  -- the record is laid
  have enter : ∀ fn, ∃ m2 w2 mark lc, (Instr.enterLoop fn a.tmps ps assign body rr).run P w = .ok (lc, mark) w2 ∧ HR m2 h2 w2 ∧ Ext m h w m2 h2 w2 ∧ (∃ L, m2 l' = some L ∧ L.blk = lc) ∧ DR m2 D2 (mark ++ a.defers) := by
    intro fn
    unfold enterE at hen
    cases ro with
    | none =>
      cases rr with
      | some _ => exact hro.elim
      | none =>
        simp only [Option.some.injEq, Prod.mk.injEq] at hen
        obtain ⟨rfl, rfl, rfl⟩ := hen
        obtain ⟨g1, g2⟩ := H.new (o := .deferred true) (ob := .deferred (some [])) (L := ⟨w.heap.size, 0, 0⟩) rfl rfl
        have mn : (m.set h.next ⟨w.heap.size, 0, 0⟩) h.next = some ⟨w.heap.size, 0, 0⟩ := by simp [Ren.set]
        obtain ⟨k1, k2⟩ := g1.new (o := .loop .ready none N T ps assign body h.next) (ob := .loop { state := .ready, pending := none, fn := fn, tmps := a.tmps, params := ps, assign := assign, body := body, defers := w.heap.size })
          (L := ⟨(w.alloc (.deferred (some []))).heap.size, 0, 0⟩) rfl
          ⟨rfl, rfl, hs, (hF.mono g2.le).mono (Ren.le_set g1.next_none _), rfl, rfl, rfl, ⟨w.heap.size, 0, 0⟩, Ren.le_set g1.next_none _ _ _ mn, rfl⟩
        refine ⟨_, _, [{ target := .collected w.heap.size, args := #[] }], _, ?_, k1, g2.trans k2, ⟨⟨(w.alloc (.deferred (some []))).heap.size, 0, 0⟩, by simp [Ren.set, AHeap.new], rfl⟩, ⟨⟨w.heap.size, 0, 0⟩, k2.le _ _ mn, rfl⟩, (hD.mono g2.le).mono k2.le⟩
        simp [Instr.enterLoop, newObj, Sem.run]
    | some b =>
      cases rr with
      | none => exact hro.elim
      | some lr =>
        obtain ⟨L, hL, rfl⟩ := hro
        simp only [Option.map_eq_some_iff, Prod.mk.injEq] at hen
        obtain ⟨d, hd, rfl, rfl, rfl⟩ := hen
        unfold dfrO at hd
        split at hd <;> simp only [Option.some.injEq, reduceCtorEq] at hd
        subst hd
        rename_i st p N0 T0 ps0 as0 bd0 d0 hg
        obtain ⟨r, hw, _, _, _, _, _, _, _, Ld, hd1, hd2⟩ := H.loop_at hg hL
        obtain ⟨k1, k2⟩ := H.new (o := .loop .ready none N T ps assign body d0) (ob := .loop { state := .ready, pending := none, fn := fn, tmps := a.tmps, params := ps, assign := assign, body := body, defers := r.defers })
          (L := ⟨w.heap.size, 0, 0⟩) rfl
          ⟨rfl, rfl, hs, hF.mono (Ren.le_set H.next_none _), rfl, rfl, rfl, Ld, Ren.le_set H.next_none _ _ _ hd1, hd2⟩
        refine ⟨_, _, [], _, ?_, k1, k2, ⟨⟨w.heap.size, 0, 0⟩, by simp [Ren.set], rfl⟩, hD.mono k2.le⟩
        simp [Instr.enterLoop, run_getLoop hw, newObj, Sem.run]
  refine wpIn_rangeFunc fun fn _ => ?_
  obtain ⟨m2, w2, mark, lc, q1, q2, q3, ⟨L, hL, rfl⟩, q5⟩ := enter fn
  have hFm := hF.mono q3.le
  have hcv' := callV_sim (P := P) hcv (evO_vr hFm hFA) (l := [.yld l']) (c := [.func (.yield L.blk) #[] #[]]) ⟨.yld _ _ hL, trivial⟩
  cases ct with
  | yld b => cases hx
  | fn g =>
    simp only [Option.map_eq_some_iff, Prod.mk.injEq] at hx
    obtain ⟨⟨h3', r⟩, hcall, rfl, rfl, rfl⟩ := hx
    obtain ⟨args, p1, p2⟩ := hcv'
    have hok := hcf _ _ _ _ _ hcall m2 w2 args q2 p1
    obtain ⟨⟨fn', c', z1, z2⟩, z3⟩ := hok
    have p2 := p2 w2
    rw [run_callFunc hN z1 z2] at p2
    have hres : resolve a.eval (rangeCall f L.blk) 0 = Deferred.ofValue (a.eval f) [Value.func (.yield L.blk) #[] #[]].toArray := by
      simp [resolve, rangeCall, Act.eval]
    rw [Sem.run_bind] at p2
    cases hrun : (Deferred.ofValue (a.eval f) [Value.func (.yield L.blk) #[] #[]].toArray).run P w2 with
    | halt hh wh => rw [hrun] at p2; cases p2
    | ok d w3 =>
      rw [hrun] at p2
      refine ⟨L.blk, mark, w2, d, w3, g, args.toArray, w2, q1, by rw [hres]; exact hrun, fun _ _ => trivial, p2, fun hd => by simp [wideR, Fence.wide] at hd, CallsIn.mono (callsIn_wideR z3) ?_⟩
      intro en w4 hen4
      cases en with
      | panicked chain => exact hen4.elim
      | outgrown => exact hen4.elim
      | returned v =>
        obtain ⟨m4, y1, y2, y3⟩ := hen4
        have hL4 := y3.le _ _ hL
        have fin : ∀ {st : LoopState} {p : Option Code} {N' : Nat} {T0 : Tr AV} {ps' : Array Tmp} {as' bd' : Code} {d' : Bn}, Tr.get l' h3'.objs = some (.loop st p N' T0 ps' as' bd' d') → st ≠ .busy → jumpE p (h3'.kill l') T D2 = .ok x h' T' D' →
            rangePost (wideR rr) n P L.blk Q { a with defers := mark ++ a.defers } (.returned v) w4 := by
          intro st p N' T0 ps' as' bd' d' hg hst hj
          obtain ⟨r0, hw0, r1, r2, r3, r4, r5, r6, r7, r8⟩ := y1.loop_at hg hL4
          obtain ⟨k1, k2⟩ := y1.put hg hL4 (o' := .loop .exhausted p N' T0 ps' as' bd' d') (ob := .loop { r0 with state := .exhausted }) ⟨rfl, r2, r3, r4, r5, r6, r7, r8⟩
          obtain ⟨k3, k4⟩ := k1.kill l'
          have hkk : (h3'.put l' (.loop .exhausted p N' T0 ps' as' bd' d')).kill l' = h3'.kill l' := by
            simp only [AHeap.put, AHeap.kill, AHeap.mk.injEq, true_and]
            generalize h3'.objs = O
            generalize (some (AObj.loop .exhausted p N' T0 ps' as' bd' d')) = o
            have set_set : ∀ (b : Bn) (O : Tr AObj) (o : Option AObj), Tr.set b none (Tr.set b o O) = Tr.set b none O := by
              intro b
              induction b with
              | xH => intro O o; cases O <;> rfl
              | xO b ih => intro O o; cases O <;> simp [Tr.set_O_leaf, Tr.set_O_node, ih]
              | xI b ih => intro O o; cases O <;> simp [Tr.set_I_leaf, Tr.set_I_node, ih]
            exact set_set _ _ _
          rw [hkk] at k3 k4
          refine ⟨r0.pending, w4.putBlock L.blk (.loop { r0 with state := .exhausted }), ?_, ?_⟩
          · have hb : ¬ r0.state = LoopState.busy := by rw [r1]; exact hst
            simp [Instr.endLoop, run_getLoop hw0, hb, run_setLoop hw0]
          · obtain ⟨j1, j2, j3, j4⟩ := jumpE_sound (P := P) (N := N) (n := n) (rr := rr) hj (a := { a with defers := mark ++ a.defers }) (w := w4.putBlock L.blk (.loop { r0 with state := .exhausted })) (Q := Q)
            rw [j1, j2, j3] at hK
            have hle := y3.le
            have hpw := j4 (hK m4 _ _ k3 (hFm.mono hle) hs (q5.mono hle) (((q3.trans y3).trans k2).trans k4))
            rw [← r2] at hpw
            exact hpw
        unfold leaveE at e
        split at e
        · rename_i hg; exact fin hg (by simp) e
        · rename_i hg; exact fin hg (by simp) e
        · cases e
end
end Go.Ev

/- Code, rounds, functions: they do what is reckoned. -/
set_option linter.unusedSimpArgs false
namespace Go.Ev

section
variable {P : Program} {dr : DrawF}

theorem exC_sound (hN : NamesOk P) (hdr : DrawOk P dr) {N : Nat} {cf : CallF} (hcf : CallOk P cf) : ∀ (c : Code) {ro : Option Bn} {h h' : AHeap} {T T' : Tr AV} {D D' : List Bn} {x : AX}
    (_ : exC P dr N c cf ro h T D = .ok x h' T' D') {m : Ren} {w : World} {a : Act} {rr : Option Nat} {n : Nat} (_ : HR m h w) (_ : FR m T a.tmps) (_ : a.tmps.size = N) (_ : DR m D a.defers) (_ : RoR m ro rr)
    {Q : Exit → Act → World → Prop} (_ : Behind N m h w h' T' D' (Q x.ex)), c.wpIn (wideR rr) n P Q a w := by
  intro c
  induction c with
  | skip =>
    intro ro h h' T T' D D' x e m w a rr n H hF hs hD hro Q hK
    have e : Rs.ok .normal h T D = .ok x h' T' D' := e
    simp only [Rs.ok.injEq] at e
    obtain ⟨rfl, rfl, rfl, rfl⟩ := e
    exact wpIn_skip (hK m w a H hF hs hD (Ext.refl _ _ _))
  | region id ops draw =>
    intro ro h h' T T' D D' x e m w a rr n H hF hs hD hro Q hK
    have out : ∀ {r : Option (AHeap × Tr AV)}, toRs D r = .ok x h' T' D' → r = some (h', T') ∧ x = .normal ∧ D' = D := by
      intro r hr
      cases r with
      | none => cases hr
      | some r =>
        simp only [toRs, Rs.ok.injEq] at hr
        obtain ⟨rfl, rfl, rfl, rfl⟩ := hr
        exact ⟨rfl, rfl, rfl⟩
    cases draw with
    | false =>
      have e : toRs D (opsE P N ops ops.toList cf h T) = .ok x h' T' D' := e
      obtain ⟨e1, rfl, rfl⟩ := out e
      refine region_wp hN hcf H hF hs e1 fun m' w' a' H' hF' hs' hd' hx => hK m' w' a' H' hF' hs' ?_ hx
      rw [hd']; exact hD.mono hx.le
    | true =>
      have e : toRs D (dr N ops cf h T) = .ok x h' T' D' := e
      obtain ⟨e1, rfl, rfl⟩ := out e
      refine hdr N ops cf h T h' T' e1 hcf rr n id m w a H hF hs Q fun m' w' a' H' hF' hs' hd' hx => hK m' w' a' H' hF' hs' ?_ hx
      rw [hd']; exact hD.mono hx.le
  | seq A B ihA ihB =>
    intro ro h h' T T' D D' x e m w a rr n H hF hs hD hro Q hK
    have e : seqE (exC P dr N A) (exC P dr N B) cf ro h T D = .ok x h' T' D' := e
    unfold seqE at e
    refine wpIn_seq ?_
    cases hA : exC P dr N A cf ro h T D with
    | no => rw [hA] at e; cases e
    | ok y h1 T1 D1 =>
      rw [hA] at e
      cases y with
      | normal =>
        simp only at e
        refine ihA hA H hF hs hD hro fun m1 w1 a1 H1 hF1 hs1 hD1 hx1 => ?_
        exact ihB e H1 hF1 hs1 hD1 (hro.mono hx1.le) (hK.trans hx1)
      | exit i =>
        simp only [Rs.ok.injEq] at e
        obtain ⟨rfl, rfl, rfl, rfl⟩ := e
        exact ihA hA H hF hs hD hro fun m1 w1 a1 H1 hF1 hs1 hD1 hx1 => hK m1 w1 a1 H1 hF1 hs1 hD1 hx1
      | goto l =>
        simp only [Rs.ok.injEq] at e
        obtain ⟨rfl, rfl, rfl, rfl⟩ := e
        exact ihA hA H hF hs hD hro fun m1 w1 a1 H1 hF1 hs1 hD1 hx1 => hK m1 w1 a1 H1 hF1 hs1 hD1 hx1
      | ret =>
        simp only [Rs.ok.injEq] at e
        obtain ⟨rfl, rfl, rfl, rfl⟩ := e
        exact ihA hA H hF hs hD hro fun m1 w1 a1 H1 hF1 hs1 hD1 hx1 => hK m1 w1 a1 H1 hF1 hs1 hD1 hx1
  | cond c A B ihA ihB =>
    intro ro h h' T T' D D' x e m w a rr n H hF hs hD hro Q hK
    have e : condE c (exC P dr N A) (exC P dr N B) cf ro h T D = .ok x h' T' D' := e
    unfold condE at e
    split at e
    · rename_i hc
      exact wpIn_cond_true (vr_bool (evO_vr hF hc)) (ihA e H hF hs hD hro hK)
    · rename_i hc
      exact wpIn_cond_false (vr_bool (evO_vr hF hc)) (ihB e H hF hs hD hro hK)
    · cases e
  | block id A ih =>
    intro ro h h' T T' D D' x e m w a rr n H hF hs hD hro Q hK
    have e : blockE id (exC P dr N A) cf ro h T D = .ok x h' T' D' := e
    unfold blockE at e
    refine wpIn_block ?_
    cases hA : exC P dr N A cf ro h T D with
    | no => rw [hA] at e; cases e
    | ok y h1 T1 D1 =>
      rw [hA] at e
      cases y with
      | exit i =>
        simp only at e
        cases hi : i.beq id with
        | true =>
          rw [hi] at e
          simp only [cond_true, Rs.ok.injEq] at e
          obtain ⟨rfl, rfl, rfl, rfl⟩ := e
          rw [Nat.beq_eq] at hi
          refine ih hA H hF hs hD hro fun m1 w1 a1 H1 hF1 hs1 hD1 hx1 => ?_
          have := hK m1 w1 a1 H1 hF1 hs1 hD1 hx1
          simp only [AX.ex, Exit.inBlock, hi, if_true]
          exact this
        | false =>
          rw [hi] at e
          simp only [cond_false, Rs.ok.injEq] at e
          obtain ⟨rfl, rfl, rfl, rfl⟩ := e
          have hi : ¬ i = id := by intro he; rw [← Nat.beq_eq, hi] at he; cases he
          refine ih hA H hF hs hD hro fun m1 w1 a1 H1 hF1 hs1 hD1 hx1 => ?_
          have := hK m1 w1 a1 H1 hF1 hs1 hD1 hx1
          simp only [AX.ex, Exit.inBlock, hi, if_false]
          exact this
      | normal =>
        simp only [Rs.ok.injEq] at e
        obtain ⟨rfl, rfl, rfl, rfl⟩ := e
        exact ih hA H hF hs hD hro fun m1 w1 a1 H1 hF1 hs1 hD1 hx1 => hK m1 w1 a1 H1 hF1 hs1 hD1 hx1
      | goto l =>
        simp only [Rs.ok.injEq] at e
        obtain ⟨rfl, rfl, rfl, rfl⟩ := e
        exact ih hA H hF hs hD hro fun m1 w1 a1 H1 hF1 hs1 hD1 hx1 => hK m1 w1 a1 H1 hF1 hs1 hD1 hx1
      | ret =>
        simp only [Rs.ok.injEq] at e
        obtain ⟨rfl, rfl, rfl, rfl⟩ := e
        exact ih hA H hF hs hD hro fun m1 w1 a1 H1 hF1 hs1 hD1 hx1 => hK m1 w1 a1 H1 hF1 hs1 hD1 hx1
  | loop A ih =>
    intro ro h h' T T' D D' x e m w a rr n H hF hs hD hro Q hK
    have e : loopE (exC P dr N A) 1000000 cf ro h T D = .ok x h' T' D' := e
    refine wpIn_loop_fuel (j := 1000000) (fun j a w => ∃ m h T D x h' T' D', loopE (exC P dr N A) j cf ro h T D = .ok x h' T' D' ∧ HR m h w ∧ FR m T a.tmps ∧ a.tmps.size = N ∧ DR m D a.defers ∧ RoR m ro rr ∧ Behind N m h w h' T' D' (Q x.ex)) ?_ ?_
      ⟨m, h, T, D, x, h', T', D', e, H, hF, hs, hD, hro, hK⟩
    · rintro a w ⟨m, h, T, D, x, h', T', D', e, _⟩
      cases e
    · rintro j a w ⟨m, h, T, D, x, h', T', D', e, H, hF, hs, hD, hro, hK⟩
      have e : (match exC P dr N A cf ro h T D with | .ok .normal h T D => loopE (exC P dr N A) j cf ro h T D | r => r) = .ok x h' T' D' := e
      cases hA : exC P dr N A cf ro h T D with
      | no => rw [hA] at e; cases e
      | ok y h1 T1 D1 =>
        rw [hA] at e
        cases y with
        | normal =>
          simp only at e
          refine ih hA H hF hs hD hro fun m1 w1 a1 H1 hF1 hs1 hD1 hx1 => ?_
          exact ⟨m1, h1, T1, D1, x, h', T', D', e, H1, hF1, hs1, hD1, hro.mono hx1.le, hK.trans hx1⟩
        | exit i =>
          simp only [Rs.ok.injEq] at e
          obtain ⟨rfl, rfl, rfl, rfl⟩ := e
          exact ih hA H hF hs hD hro fun m1 w1 a1 H1 hF1 hs1 hD1 hx1 => hK m1 w1 a1 H1 hF1 hs1 hD1 hx1
        | goto l =>
          simp only [Rs.ok.injEq] at e
          obtain ⟨rfl, rfl, rfl, rfl⟩ := e
          exact ih hA H hF hs hD hro fun m1 w1 a1 H1 hF1 hs1 hD1 hx1 => hK m1 w1 a1 H1 hF1 hs1 hD1 hx1
        | ret =>
          simp only [Rs.ok.injEq] at e
          obtain ⟨rfl, rfl, rfl, rfl⟩ := e
          exact ih hA H hF hs hD hro fun m1 w1 a1 H1 hF1 hs1 hD1 hx1 => hK m1 w1 a1 H1 hF1 hs1 hD1 hx1
  | rangeFunc f ps assign body _ _ =>
    intro ro h h' T T' D D' x e m w a rr n H hF hs hD hro Q hK
    exact rfE_sound hN hcf e H hF hs hD hro hK
  | exit i =>
    intro ro h h' T T' D D' x e m w a rr n H hF hs hD hro Q hK
    have e : Rs.ok (.exit i) h T D = .ok x h' T' D' := e
    simp only [Rs.ok.injEq] at e
    obtain ⟨rfl, rfl, rfl, rfl⟩ := e
    exact wpIn_exit (hK m w a H hF hs hD (Ext.refl _ _ _))
  | scope A _ =>
    intro ro h h' T T' D D' x e
    cases (e : Rs.no = .ok x h' T' D')
  | label l =>
    intro ro h h' T T' D D' x e m w a rr n H hF hs hD hro Q hK
    have e : Rs.ok .normal h T D = .ok x h' T' D' := e
    simp only [Rs.ok.injEq] at e
    obtain ⟨rfl, rfl, rfl, rfl⟩ := e
    exact wpIn_label (hK m w a H hF hs hD (Ext.refl _ _ _))
  | goto l =>
    intro ro h h' T T' D D' x e m w a rr n H hF hs hD hro Q hK
    have e : Rs.ok (.goto l) h T D = .ok x h' T' D' := e
    simp only [Rs.ok.injEq] at e
    obtain ⟨rfl, rfl, rfl, rfl⟩ := e
    exact wpIn_goto (hK m w a H hF hs hD (Ext.refl _ _ _))
  | ret =>
    intro ro h h' T T' D D' x e m w a rr n H hF hs hD hro Q hK
    have e : Rs.ok .ret h T D = .ok x h' T' D' := e
    simp only [Rs.ok.injEq] at e
    obtain ⟨rfl, rfl, rfl, rfl⟩ := e
    exact wpIn_ret (hK m w a H hF hs hD (Ext.refl _ _ _))
  | refuse s =>
    intro ro h h' T T' D D' x e
    cases (e : Rs.no = .ok x h' T' D')

/-- Arguments in their slots. -/
theorem laySlots_sim {N : Nat} {m : Ren} : ∀ {ts : List Tmp} {A : List AV} {T T' : Tr AV} {c : List Value} {tmps : Array Value} (_ : laySlots N ts A T = some T') (_ : VRs m A c) (_ : FR m T tmps) (_ : tmps.size = N),
    ts.length = A.length ∧ FR m T' ((ts.zip c).foldl (fun tmps (t, v) => tmps.setIfInBounds t v) tmps) ∧ ((ts.zip c).foldl (fun tmps (t, v) => tmps.setIfInBounds t v) tmps).size = N
  | [], [], T, T', c, tmps, e, hc, hF, hs => by
    simp only [laySlots, Option.some.injEq] at e; subst e
    exact ⟨rfl, hF, hs⟩
  | t :: ts, a :: A, T, T', c, tmps, e, hc, hF, hs => by
    simp only [laySlots, Option.bind_eq_some_iff] at e
    obtain ⟨T1, h1, e⟩ := e
    obtain ⟨v, c, rfl, hv, hc⟩ := hc.cons_left
    obtain ⟨p1, p2, _⟩ := put_fr (a := ⟨tmps, []⟩) h1 hF hs hv
    obtain ⟨q1, q2, q3⟩ := laySlots_sim e hc p1 p2
    exact ⟨by simp [q1], q2, q3⟩
  | [], _ :: _, _, _, _, _, e, _, _, _ => by simp [laySlots] at e
  | _ :: _, [], _, _, _, _, e, _, _, _ => by simp [laySlots] at e

theorem resE_sim {m : Ren} {h : AHeap} {w : World} (H : HR m h w) {T : Tr AV} {a : Act} (hF : FR m T a.tmps) : ∀ {rs : List ResultVar} {l : List AV} (_ : resE P h T rs = some l),
    ∃ c, VRs m l c ∧ (rs.mapM (m := Sem) fun | .tmp t => pure (a.tmps.getD t undef) | .cell b t => do loadVar t (← asAddr (a.tmps.getD b undef))).run P w = .ok c w
  | [], l, e => by simp [resE] at e; subst e; exact ⟨[], trivial, by simp⟩
  | .tmp t :: r, l, e => by
    simp only [resE, Option.bind_eq_some_iff, Option.map_eq_some_iff] at e
    obtain ⟨A, hA, l', hl', rfl⟩ := e
    obtain ⟨c, h1, h2⟩ := resE_sim H hF hl'
    have hv := evO_vr hF hA
    simp only [Act.eval] at hv
    refine ⟨_ :: c, ⟨hv, h1⟩, ?_⟩
    simp only [List.mapM_cons, Sem.run_bind, Sem.run_pure, Result.andThen_ok, h2]
  | .cell b t :: r, l, e => by
    simp only [resE, Option.bind_eq_some_iff, Option.map_eq_some_iff] at e
    obtain ⟨A, hA, l', hl', rfl⟩ := e
    obtain ⟨c, h1, h2⟩ := resE_sim H hF hl'
    have key : ∃ v, (do loadVar t (← asAddr (a.tmps.getD b undef)) : Sem Value).run P w = .ok v w ∧ VR m A v := by
      unfold xLoad at hA
      cases hg : agO P t with
      | none => simp [hg] at hA
      | some g =>
        rw [hg] at hA
        cases g with
        | none =>
          simp only [Option.bind_eq_some_iff] at hA
          obtain ⟨p, hp, hA⟩ := hA
          cases p <;> simp only [reduceCtorEq] at hA
          obtain ⟨L, hm, hv⟩ := vr_ptr (evO_vr hF hp)
          simp only [Act.eval] at hv
          obtain ⟨v, g1, g2⟩ := run_loadVar_one (P := P) H hg hA hm
          exact ⟨v, by rw [hv]; simp [asAddr, g1], g2⟩
        | some k =>
          simp only [Option.bind_eq_some_iff] at hA
          obtain ⟨p, hp, hA⟩ := hA
          cases p <;> simp only [reduceCtorEq, Option.map_eq_some_iff] at hA
          obtain ⟨l0, hl0, rfl⟩ := hA
          obtain ⟨L, hm, hv⟩ := vr_ptr (evO_vr hF hp)
          simp only [Act.eval] at hv
          obtain ⟨c0, g1, g2⟩ := run_loadVar_agg (P := P) H hg hl0 hm
          exact ⟨_, by rw [hv]; simp [asAddr, g1], vr_agg.2 ⟨c0, rfl, g2⟩⟩
    obtain ⟨v, k1, k2⟩ := key
    refine ⟨v :: c, ⟨k2, h1⟩, ?_⟩
    rw [List.mapM_cons, Sem.run_bind]
    refine (congrArg (Result.andThen · _) k1).trans ?_
    simp only [Result.andThen_ok, Sem.run_bind]
    refine (congrArg (Result.andThen · _) h2).trans ?_
    rfl
end
end Go.Ev

/- Rounds, functions, calls. -/
set_option linter.unusedSimpArgs false
namespace Go.Ev

section
variable {P : Program} {dr : DrawF}

theorem roundE_sound (hN : NamesOk P) (hdr : DrawOk P dr) {cf : CallF} (hcf : CallOk P cf) {b : Bn} {A : List AV} {h h' : AHeap} {r : AV} (e : roundE P dr cf b A h = some (h', r)) {m : Ren} {w : World} {args : List Value} (H : HR m h w) (hA : VRs m A args)
    {L : Loc} (hL : m b = some L) : ∃ l f tmps assign body, (Instr.yield L.blk args.toArray).run P w = .ok (.round l f tmps assign body) w ∧ RoundIn Fence.wide 0 P l f tmps assign body w (CPost m h w h' r) := by
  unfold roundE at e
  split at e
  case h_2 => cases e
  rename_i st p N T ps assign body d hg
  simp only [Option.bind_eq_some_iff] at e
  obtain ⟨T1, hT1, e⟩ := e
  obtain ⟨r0, hw, r1, r2, r3, r4, r5, r6, r7, r8⟩ := H.loop_at hg hL
  obtain ⟨l1, l2, l3⟩ := laySlots_sim hT1 hA r4 r3
  have hsz : args.length = ps.size := by rw [← hA.length, ← l1]; simp
  refine ⟨L.blk, r0.fn, (r0.params.zip args.toArray).foldl (fun tmps (t, a) => tmps.setIfInBounds t a) r0.tmps, assign, body, ?_, ?_⟩
  · simp [Instr.yield, run_getLoop hw, hsz, r5, r6, r7]
  · have hfold : (r0.params.zip args.toArray).foldl (fun tmps (t, a) => tmps.setIfInBounds t a) r0.tmps = (ps.toList.zip args).foldl (fun tmps (t, v) => tmps.setIfInBounds t v) r0.tmps := by
      rw [r5, ← Array.foldl_toList]
      simp
    rw [hfold]
    refine roundIn_of_wpIn trivial ?_
    have hro : RoR m (some b) (some L.blk) := ⟨L, hL, rfl⟩
    -- the assignments
    cases hAs : exC P dr N assign cf (some b) h T1 [] with
    | no => rw [hAs] at e; cases e
    | ok y h1 T2 D1 =>
      rw [hAs] at e
      cases y <;> first | (cases e; done) | skip
      simp only at e
      split at e
      case h_2 => cases e
      rename_i p1 N1 T0 ps1 as1 bd1 d1 hg1
      refine exC_sound hN hdr hcf assign hAs (rr := some L.blk) (n := 0) (a := ⟨_, []⟩) H l2 l3 trivial hro fun m1 w1 a1 H1 hF1 hs1 hD1 hx1 => ?_
      have hL1 := hx1.le _ _ hL
      obtain ⟨q0, hw1, q1, q2, q3, q4, q5, q6, q7, q8⟩ := H1.loop_at hg1 hL1
      obtain ⟨k1, k2⟩ := H1.put hg1 hL1 (o' := .loop .busy p1 N1 T0 ps1 as1 bd1 d1) (ob := .loop { q0 with state := .busy }) ⟨rfl, q2, q3, q4, q5, q6, q7, q8⟩
      refine ⟨w1.putBlock L.blk (.loop { q0 with state := .busy }), by simp [Instr.beginRound, run_getLoop hw1, run_setLoop hw1, q1], ?_⟩
      cases hB : exC P dr N body cf (some b) (h1.put b (.loop .busy p1 N1 T0 ps1 as1 bd1 d1)) T2 D1 with
      | no => rw [hB] at e; cases e
      | ok x h3 T3 D3 =>
        rw [hB] at e
        simp only at e
        split at e
        case h_2 => cases e
        rename_i st3 p3 N3 T4 ps3 as3 bd3 d3 hg3
        refine exC_sound hN hdr hcf body hB (rr := some L.blk) (n := 0) k1 hF1 hs1 hD1 ⟨L, hL1, rfl⟩ fun m3 w3 a3 H3 hF3 hs3 hD3 hx3 => ?_
        have hL3 := hx3.le _ _ hL1
        obtain ⟨s0, hw3, s1, s2, s3, s4, s5, s6, s7, s8⟩ := H3.loop_at hg3 hL3
        have fin : ∀ (j : Option Code) (st' : LoopState) (hst : st' = if j.isNone then .ready else .done), some (h3.put b (.loop st' j N3 T4 ps3 as3 bd3 d3), AV.bool j.isNone) = some (h', r) →
            ∃ v w', (Instr.endRound L.blk j).run P w3 = .ok v w' ∧ CPost m h w h' r (.returned v) w' := by
          intro j st' hst hh
          simp only [Option.some.injEq, Prod.mk.injEq] at hh
          obtain ⟨rfl, rfl⟩ := hh
          obtain ⟨g1, g2⟩ := H3.put hg3 hL3 (o' := .loop st' j N3 T4 ps3 as3 bd3 d3) (ob := .loop { s0 with state := st', pending := j }) ⟨rfl, rfl, s3, s4, s5, s6, s7, s8⟩
          refine ⟨.bool j.isNone, _, ?_, m3, g1, .bool _, ((hx1.trans k2).trans hx3).trans g2⟩
          subst hst
          simp [Instr.endRound, run_getLoop hw3, run_setLoop hw3]
        cases x with
        | normal => exact fin none .ready rfl e
        | ret => exact fin (some .ret) .done rfl e
        | exit i => exact fin (some (.exit i)) .done rfl e
        | goto l => cases e

theorem takeE_sim {fn : Func} {tmps : Array Value} {R : Ending → World → Prop} : ∀ {D : List Bn} {h h' : AHeap} (_ : takeE D h = some h') {m : Ren} {w : World} {ds : List Deferred} (_ : HR m h w) (_ : DR m D ds)
    (_ : ∀ w', HR m h' w' → Ext m h w m h' w' → ∃ v, (results fn tmps).run P w' = .ok v w' ∧ R (.returned v) w'), LeavesInM Fence.wide 0 P fn tmps R ds .returning w
  | [], h, h', e, m, w, ds, H, hD, hK => by
    simp only [takeE, Option.some.injEq] at e; subst e
    have : ds = [] := hD.nil_left
    subst this
    exact hK w H (Ext.refl _ _ _)
  | b :: D, h, h', e, m, w, ds, H, hD, hK => by
    obtain ⟨d, ds, rfl, ⟨L, hL, rfl⟩, hD2⟩ := hD.cons_left
    unfold takeE at e
    split at e
    case h_2 => cases e
    rename_i hg
    obtain ⟨L', ob, e1, hw, hO⟩ := H.obj _ _ hg
    rw [hL] at e1; cases e1
    cases ob <;> first | exact hO.elim | skip
    rename_i dd
    have hO : dd = some [] := hO
    subst hO
    obtain ⟨k1, k2⟩ := H.put hg hL (o' := .deferred false) (ob := .deferred none) rfl
    refine ⟨by simp, .inl ⟨L.blk, w.putBlock L.blk (.deferred none), rfl, ?_, takeE_sim e k1 hD2 fun w' H' hx' => hK w' H' (k2.trans hx')⟩⟩
    have h1 : (getObj L.blk).run P w = .ok (.deferred (some [])) w := by simp only [getObj, Sem.run, hw]
    have h2 : (setObj L.blk (.deferred none)).run P w = .ok () (w.putBlock L.blk (.deferred none)) := by simp only [setObj, Sem.run, hw]; rfl
    simp [Instr.takeDeferred, h1, h2]

theorem oneV_sim {m : Ren} {l : List AV} {c : List Value} (h : VRs m l c) : VR m (oneV l) (if h : c.toArray.size = 1 then c.toArray[0] else .tuple c.toArray) := by
  cases l with
  | nil => rw [h.nil_left]; exact vr_tup.2 ⟨[], rfl, trivial⟩
  | cons a l =>
    obtain ⟨v, c, rfl, hv, hc⟩ := h.cons_left
    cases l with
    | nil => rw [hc.nil_left]; exact hv
    | cons a' l =>
      obtain ⟨v', c, rfl, hv', hc⟩ := hc.cons_left
      have : ¬ (v :: v' :: c).toArray.size = 1 := by simp
      rw [dif_neg this]
      exact vr_tup.2 ⟨_, rfl, hv, hv', hc⟩

theorem run_results {m : Ren} {h : AHeap} {w : World} (H : HR m h w) {T : Tr AV} {a : Act} (hF : FR m T a.tmps) {fn : Func} {l : List AV} (e : resE P h T fn.results.toList = some l) : ∃ v, (results fn a.tmps).run P w = .ok v w ∧ VR m (oneV l) v := by
  obtain ⟨c, h1, h2⟩ := resE_sim H hF e
  refine ⟨_, ?_, oneV_sim h1⟩
  unfold results
  rw [Array.mapM_eq_mapM_toList]
  simp only [Sem.run_bind, Sem.run_map]
  refine (congrArg (fun x => Result.andThen (Result.andThen x _) _) h2).trans ?_
  rfl

theorem laySlots_lt {N : Nat} : ∀ {ts : List Tmp} {A : List AV} {T T' : Tr AV} (_ : laySlots N ts A T = some T'), ∀ t ∈ ts, t < N
  | [], _, _, _, _, t, ht => by cases ht
  | t0 :: ts, [], _, _, e, _, _ => by simp [laySlots] at e
  | t0 :: ts, a :: A, T, T', e, t, ht => by
    simp only [laySlots, Option.bind_eq_some_iff] at e
    obtain ⟨T1, h1, e⟩ := e
    cases ht with
    | head =>
      unfold putT at h1
      simp only at h1
      cases hd : t0.blt N with
      | false => rw [hd] at h1; cases h1
      | true => rw [blt_iff] at hd; exact hd
    | tail _ ht => exact laySlots_lt e t ht

theorem set_same {tmps : Array Value} : ∀ {l : List (Tmp × Value)} (_ : ∀ p ∈ l, tmps[p.1]? = some p.2), l.foldl (fun tmps (t, v) => tmps.setIfInBounds t v) tmps = tmps
  | [], _ => rfl
  | (t, v) :: l, h => by
    have h1 := h (t, v) List.mem_cons_self
    have : tmps.setIfInBounds t v = tmps := by
      apply Array.ext_getElem?
      intro k
      rw [Array.getElem?_setIfInBounds]
      by_cases hk : t = k
      · subst hk
        have hlt := (Array.getElem?_eq_some_iff.1 h1).1
        rw [if_pos rfl, if_pos hlt]; exact h1.symm
      · rw [if_neg hk]
    simp only [List.foldl_cons, this]
    exact set_same fun p hp => h p (List.mem_cons_of_mem _ hp)

theorem fnE_sound (hN : NamesOk P) (hdr : DrawOk P dr) {cf : CallF} (hcf : CallOk P cf) {g : FuncId} {A : List AV} {h h' : AHeap} {r : AV} (e : fnE P dr g cf A h = some (h', r)) {m : Ren} {w : World} {args : List Value} (H : HR m h w) (hA : VRs m A args) :
    (∃ fn c, P.funcs[g]? = some fn ∧ fn.body = some c) ∧ Calls P g args.toArray w (CPost m h w h' r) := by
  unfold fnE at e
  cases hf : P.funcs[g]? with
  | none => rw [hf] at e; cases e
  | some fn =>
    rw [hf] at e
    dsimp only at e
    cases hb : fn.body with
    | none => rw [hb] at e; cases e
    | some c =>
      rw [hb] at e
      dsimp only at e
      refine ⟨⟨fn, c, rfl, hb⟩, (callsIn_wide (n := 0)).1 ?_⟩
      simp only [Option.bind_eq_some_iff] at e
      obtain ⟨T, hT, e⟩ := e
      have hlen := hA.length
      have hle : args.length ≤ fn.ntmps := by
        cases hn : A.length with
        | zero => omega
        | succ k =>
          have : (k : Nat) < fn.ntmps := laySlots_lt hT k (by rw [hn]; simp)
          omega
      have hsz : (args.toArray ++ Array.replicate (fn.ntmps - args.toArray.size) undef).size = fn.ntmps := by simp; omega
      obtain ⟨_, hF, _⟩ := laySlots_sim hT hA (tmps := args.toArray ++ Array.replicate (fn.ntmps - args.toArray.size) undef) (fun t A' hg => by simp at hg) hsz
      rw [set_same] at hF
      · refine callsIn_of_wp_marks hf hb trivial ?_
        have fin : ∀ {x : AX} {h1 : AHeap} {T1 : Tr AV} {D1 : List Bn}, (x = .normal ∨ x = .ret) → exC P dr fn.ntmps c cf none h T [] = .ok x h1 T1 D1 → ((takeE D1 h1).bind fun h => (resE P h T1 fn.results.toList).map fun l => (h, oneV l)) = some (h', r) →
            c.wpIn Fence.wide 0 P (bodyPostM Fence.wide 0 P fn (CPost m h w h' r)) { tmps := args.toArray ++ Array.replicate (fn.ntmps - args.toArray.size) undef, defers := [] } w := by
          intro x h1 T1 D1 hx hc he
          simp only [Option.bind_eq_some_iff, Option.map_eq_some_iff, Prod.mk.injEq] at he
          obtain ⟨h2, ht, l, hl, rfl, rfl⟩ := he
          refine exC_sound hN hdr hcf c hc (rr := none) (n := 0) (a := ⟨_, []⟩) H hF hsz trivial trivial fun m1 w1 a1 H1 hF1 hs1 hD1 hx1 => ?_
          have : LeavesInM Fence.wide 0 P fn a1.tmps (CPost m h w h2 (oneV l)) a1.defers .returning w1 := by
            refine takeE_sim ht H1 hD1 fun w2 H2 hx2 => ?_
            obtain ⟨v, p1, p2⟩ := run_results H2 hF1 hl
            exact ⟨v, p1, m1, H2, p2, hx1.trans hx2⟩
          rcases hx with rfl | rfl <;> exact this
        unfold finE at e
        split at e
        · rename_i h1 T1 D1 hc; exact fin (.inl rfl) hc e
        · rename_i h1 T1 D1 hc; exact fin (.inr rfl) hc e
        · cases e
      · intro p hp
        rw [hlen] at hp
        obtain ⟨i, hi⟩ := List.getElem?_of_mem hp
        rw [List.getElem?_zip_eq_some] at hi
        obtain ⟨h1, h2⟩ := hi
        have hlt := (List.getElem?_eq_some_iff.1 h2).1
        rw [List.getElem?_range hlt] at h1
        simp only [Option.some.injEq] at h1
        rw [← h1, Array.getElem?_append_left (by simpa using hlt)]
        simpa using h2

/-- Summaries hold. -/
def SumsOk (P : Program) (S : Sums) : Prop := ∀ g s A h h' r, S g = some s → s A h = some (h', r) → ∀ m w args, HR m h w → VRs m A args →
  (∃ fn c, P.funcs[g]? = some fn ∧ fn.body = some c) ∧ Calls P g args.toArray w (CPost m h w h' r)

theorem callE_ok (hN : NamesOk P) (hdr : DrawOk P dr) {S : Sums} (hS : SumsOk P S) : ∀ d, CallOk P (callE P dr S d)
  | 0 => fun ct A h h' r e => by cases (e : (none : Option (AHeap × AV)) = some (h', r))
  | d + 1 => by
    intro ct A h h' r e m w args H hA
    have ih := callE_ok hN hdr hS d
    cases ct with
    | fn g =>
      have e : (match S g with | some s => s A h | none => fnE P dr g (callE P dr S d) A h) = some (h', r) := e
      cases hs : S g with
      | some s => rw [hs] at e; exact hS g s A h h' r hs e m w args H hA
      | none => rw [hs] at e; exact fnE_sound hN hdr ih e H hA
    | yld b =>
      have e : roundE P dr (callE P dr S d) b A h = some (h', r) := e
      intro L hL
      exact roundE_sound hN hdr ih e H hA hL

/-- The first memory: no block is spoken of. -/
def noHeap : AHeap := ⟨.xH, .leaf⟩
theorem noHeap_hr (w : World) : HR (fun _ => none) noHeap w := ⟨fun b o e => by simp [noHeap] at e, fun b b' o o' L L' e => by simp [noHeap] at e, fun _ _ => rfl⟩

/-- A run without arguments' blocks. -/
theorem calls_of_callE (hN : NamesOk P) (hdr : DrawOk P dr) {S : Sums} (hS : SumsOk P S) {d : Nat} {g : FuncId} {A : List AV} {h' : AHeap} {r : AV} (e : callE P dr S d (.fn g) A noHeap = some (h', r)) {args : List Value} (hA : VRs (fun _ => none) A args) (w : World) :
    Calls P g args.toArray w fun e w' => ∃ v m', e = .returned v ∧ VR m' r v ∧ w.heap.size ≤ w'.heap.size ∧ (∀ B, B < w.heap.size → w'.heap[B]? = w.heap[B]?) ∧ w'.tape = w.tape ∧ w'.os = w.os ∧ w'.output = w.output ∧ ∀ a, w'.frozen? a = w.frozen? a := by
  have := (callE_ok hN hdr hS d (.fn g) A noHeap h' r e _ w args (noHeap_hr w) hA).2
  have := (callsIn_wide (n := 0)).2 this
  refine (callsIn_wide (n := 0)).1 (CallsIn.mono this ?_)
  intro x w' hx
  cases x with
  | returned v =>
    obtain ⟨m', h1, h2, h3⟩ := hx
    exact ⟨v, m', rfl, h2, h3.size, fun B hB => h3.same B hB (by rintro ⟨b, o, L, e, _⟩; simp [noHeap] at e), h3.tape, h3.os, h3.output, h3.fz⟩
  | panicked chain => exact hx.elim
  | outgrown => exact hx.elim
end
end Go.Ev
