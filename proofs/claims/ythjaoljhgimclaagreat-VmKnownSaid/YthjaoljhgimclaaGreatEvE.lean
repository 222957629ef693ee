/- A verified evaluator of the model, by its parts: regions that draw their order: plans. No condition. -/
import Derived.Test.YthjaoljhgimclaaGreatEvD
import Derived.OrdersIn
set_option linter.unusedVariables false
/- An operation looks at its operands alone. -/
set_option linter.unusedSimpArgs false
namespace Go.Ev

/-- Two frames that agree where an operation looks. -/
def Agree (T T' : Tr AV) (op : Op) : Prop := ∀ x ∈ op.operands, evO x T = evO x T'

section
variable {P : Program} {T T' : Tr AV}

theorem evOs_congr : ∀ {l : List Operand} (_ : ∀ x ∈ l, evO x T = evO x T'), evOs l T = evOs l T'
  | [], _ => rfl
  | x :: l, h => by
    simp only [evOs]
    rw [h x List.mem_cons_self, evOs_congr fun y hy => h y (List.mem_cons_of_mem _ hy)]
theorem evP_congr {x : Option Operand} (h : ∀ y ∈ x, evO y T = evO y T') : evP x T = evP x T' := by
  cases x with
  | none => rfl
  | some x => simp only [evP]; rw [h x rfl]
theorem xFill_congr : ∀ {qs : List (Nat × Nat × Operand)} (_ : ∀ q ∈ qs, evO q.2.2 T = evO q.2.2 T') (cells : List AV), xFill qs T cells = xFill qs T' cells
  | [], _, _ => rfl
  | (off, sz, x) :: r, h, cells => by
    simp only [xFill]
    rw [h (off, sz, x) List.mem_cons_self]
    congr 1
    funext v
    rw [xFill_congr fun q hq => h q (List.mem_cons_of_mem _ hq)]
theorem xElems_congr : ∀ {qs : List (Nat × Operand)} (_ : ∀ q ∈ qs, evO q.2 T = evO q.2 T') (sz : Nat) (el : List (List AV)), xElems qs sz T el = xElems qs sz T' el
  | [], _, _, _ => rfl
  | (i, x) :: r, h, sz, el => by
    simp only [xElems]
    rw [h (i, x) List.mem_cons_self]
    congr 1
    funext v
    have ih : ∀ el, xElems r sz T el = xElems r sz T' el := fun el => xElems_congr (fun q hq => h q (List.mem_cons_of_mem _ hq)) sz el
    simp only [ih]
theorem places_mem {place : Nat → Option (Nat × Nat)} : ∀ {ps : List (Nat × Operand)} {qs : List (Nat × Nat × Operand)} (_ : places place ps = some qs), ∀ q ∈ qs, ∃ p ∈ ps, p.2 = q.2.2
  | [], qs, h, q, hq => by simp [places] at h; subst h; cases hq
  | (i, x) :: ps, qs, h, q, hq => by
    simp only [places, Option.bind_eq_some_iff, Option.map_eq_some_iff] at h
    obtain ⟨p, _, qs', h', rfl⟩ := h
    cases hq with
    | head => exact ⟨(i, x), List.mem_cons_self, rfl⟩
    | tail _ hq =>
      obtain ⟨p', hp', e⟩ := places_mem h' q hq
      exact ⟨p', List.mem_cons_of_mem _ hp', e⟩
theorem buildPlaces_mem {t : TypeId} {ps : List (Nat × Operand)} {qs : List (Nat × Nat × Operand)} (h : buildPlaces P t ps = some qs) : ∀ q ∈ qs, ∃ p ∈ ps, p.2 = q.2.2 := by
  unfold buildPlaces at h
  split at h
  · simp only [Option.bind_eq_some_iff] at h
    obtain ⟨pl, _, h⟩ := h
    exact places_mem h
  · simp only [Option.bind_eq_some_iff] at h
    obtain ⟨n, _, h⟩ := h
    exact places_mem h
  · cases h

theorem opq_congr {op : Op} (h : Agree T T' op) {f : Tr AV → Option AV} (hk : opK P op = .q f) : f T = f T' := by
  unfold Agree at h
  cases op with
  | move x => simp only [opK, OpK.q.injEq] at hk; subst hk; exact h x (by simp [Op.operands])
  | assign x => simp only [opK, OpK.q.injEq] at hk; subst hk; exact h x (by simp [Op.operands])
  | pick c a b =>
    simp only [opK, OpK.q.injEq] at hk; subst hk
    simp only [xPick]
    rw [h c (by simp [Op.operands]), h a (by simp [Op.operands]), h b (by simp [Op.operands])]
  | build t ps =>
    simp only [opK, OpK.q.injEq] at hk; subst hk
    simp only [xBuild]
    cases zrO P t with
    | none => rfl
    | some z =>
      cases hq : buildPlaces P t ps.toList with
      | none => rfl
      | some qs =>
        simp only [Option.bind_some]
        have : ∀ q ∈ qs, evO q.2.2 T = evO q.2.2 T' := by
          intro q hq'
          obtain ⟨p, hp, e⟩ := buildPlaces_mem hq q hq'
          rw [← e]
          exact h p.2 (by simp only [Op.operands]; simpa using ⟨p.1, by simpa using hp⟩)
        rw [xFill_congr this]
  | nilCheck x => simp only [opK, OpK.q.injEq] at hk; subst hk; dsimp only; rw [h x (by simp [Op.operands])]
  | binOp op t x y yt =>
    have hx := h x (by simp [Op.operands])
    have hy := h y (by simp [Op.operands])
    simp only [opK] at hk
    cases op <;> simp only [reduceCtorEq, OpK.q.injEq] at hk <;> subst hk <;> dsimp only <;> rw [hx, hy]
  | unOp op t x => simp only [opK, OpK.q.injEq] at hk; subst hk; dsimp only; rw [h x (by simp [Op.operands])]
  | convert s d x => simp only [opK, OpK.q.injEq] at hk; subst hk; dsimp only; rw [h x (by simp [Op.operands])]
  | makeInterface t x => simp only [opK, OpK.q.injEq] at hk; subst hk; dsimp only; rw [h x (by simp [Op.operands])]
  | makeFunc f1 l c =>
    simp only [opK, OpK.q.injEq] at hk; subst hk
    dsimp only
    rw [evOs_congr (l := l.toList) fun y hy => h y (by simp only [Op.operands, Array.mem_append]; exact .inl (by simpa using hy)),
      evOs_congr (l := c.toList) fun y hy => h y (by simp only [Op.operands, Array.mem_append]; exact .inr (by simpa using hy))]
  | fieldAddr t x i => simp only [opK, OpK.q.injEq] at hk; subst hk; dsimp only; rw [h x (by simp [Op.operands])]
  | field t x i => simp only [opK, OpK.q.injEq] at hk; subst hk; dsimp only; rw [h x (by simp [Op.operands])]
  | indexAddr t x i => simp only [opK, OpK.q.injEq] at hk; subst hk; dsimp only; rw [h x (by simp [Op.operands]), h i (by simp [Op.operands])]
  | index t x i => simp only [opK, OpK.q.injEq] at hk; subst hk; dsimp only; rw [h x (by simp [Op.operands]), h i (by simp [Op.operands])]
  | extract x i => simp only [opK, OpK.q.injEq] at hk; subst hk; dsimp only; rw [h x (by simp [Op.operands])]
  | call c =>
    simp only [opK] at hk
    cases hc : c.callee with
    | value g => simp only [hc, reduceCtorEq] at hk
    | invoke r n => simp only [hc, reduceCtorEq] at hk
    | builtin b =>
      simp only [hc] at hk
      have hall : ∀ x ∈ c.args.toList, evO x T = evO x T' := fun x hx => h x (by simp only [Op.operands, Call.operands, hc]; simpa using hx)
      unfold blK at hk
      split at hk
      case h_2 x hl =>
        split at hk
        case h_2 => cases hk
        rename_i t ht
        cases hm : isMapK (lnK P t) with
        | true => rw [hm] at hk; cases hk
        | false =>
          rw [hm] at hk
          simp only [cond_false, OpK.q.injEq] at hk
          subst hk
          dsimp only
          rw [hall x (by rw [hl]; simp)]
      case h_6 l hl => simp only [OpK.q.injEq] at hk; subst hk; dsimp only; rw [evOs_congr hall]
      case h_7 l hl => simp only [OpK.q.injEq] at hk; subst hk; dsimp only; rw [evOs_congr hall]
      all_goals (first | (cases hk; done) | (split at hk <;> cases hk; done) | (split at hk <;> first | (cases hk; done) | (revert hk; generalize isMapK _ = bb; cases bb <;> (intro hk; cases hk))))
  | makeMap t r => cases r <;> simp [opK] at hk
  | _ => simp [opK] at hk

theorem opr_congr {op : Op} (h : Agree T T' op) {f : AHeap → Tr AV → Option AV} (hk : opK P op = .r f) (g : AHeap) : f g T = f g T' := by
  unfold Agree at h
  cases op with
  | load t x =>
    simp only [opK, OpK.r.injEq] at hk; subst hk
    unfold xLoad
    rw [h x (by simp [Op.operands])]
  | binOp op t x y yt =>
    have hx := h x (by simp [Op.operands])
    have hy := h y (by simp [Op.operands])
    simp only [opK] at hk
    cases op <;> simp only [reduceCtorEq, OpK.r.injEq] at hk <;> subst hk <;> dsimp only <;> rw [hx, hy]
  | slice t x lo hi mx =>
    simp only [opK, OpK.r.injEq] at hk; subst hk
    dsimp only
    rw [h x (by simp [Op.operands]), evP_congr (x := lo) fun y hy => h y (by simp only [Option.mem_def] at hy; simp [Op.operands, hy]),
      evP_congr (x := hi) fun y hy => h y (by simp only [Option.mem_def] at hy; simp [Op.operands, hy]), evP_congr (x := mx) fun y hy => h y (by simp only [Option.mem_def] at hy; simp [Op.operands, hy])]
  | lookup t x i ok => simp only [opK, OpK.r.injEq] at hk; subst hk; dsimp only; rw [h x (by simp [Op.operands]), h i (by simp [Op.operands])]
  | call c =>
    simp only [opK] at hk
    cases hc : c.callee with
    | value g => simp only [hc, reduceCtorEq] at hk
    | invoke r n => simp only [hc, reduceCtorEq] at hk
    | builtin b =>
      simp only [hc] at hk
      have hall : ∀ x ∈ c.args.toList, evO x T = evO x T' := fun x hx => h x (by simp only [Op.operands, Call.operands, hc]; simpa using hx)
      unfold blK at hk
      split at hk
      case h_2 x hl =>
        split at hk
        case h_2 => cases hk
        rename_i t ht
        cases hm : isMapK (lnK P t) with
        | false => rw [hm] at hk; cases hk
        | true =>
          rw [hm] at hk
          simp only [cond_true, OpK.r.injEq] at hk
          subst hk
          dsimp only
          rw [hall x (by rw [hl]; simp)]
      all_goals (first | (cases hk; done) | (split at hk <;> cases hk; done) | (split at hk <;> first | (cases hk; done) | (revert hk; generalize isMapK _ = bb; cases bb <;> (intro hk; cases hk))))
  | makeMap t r => cases r <;> simp [opK] at hk
  | _ => simp [opK] at hk

theorem opa_congr {op : Op} (h : Agree T T' op) {f : Tr AV → Option (AObj × (Bn → AV))} (hk : opK P op = .a f) : f T = f T' := by
  unfold Agree at h
  cases op with
  | alloc t => simp only [opK, OpK.a.injEq] at hk; subst hk; rfl
  | box t x => simp only [opK, OpK.a.injEq] at hk; subst hk; dsimp only; rw [h x (by simp [Op.operands])]
  | buildSlice t len ps =>
    simp only [opK, OpK.a.injEq] at hk; subst hk
    simp only [bsA]
    have : ∀ sz el, xElems ps.toList sz T el = xElems ps.toList sz T' el := fun sz el => xElems_congr (fun q hq => h q.2 (by simp only [Op.operands]; simpa using ⟨q.1, by simpa using hq⟩)) sz el
    simp only [this]
  | makeMap t r =>
    cases r with
    | some r => simp [opK] at hk
    | none => simp only [opK, OpK.a.injEq] at hk; subst hk; rfl
  | makeSlice t l c => simp only [opK, OpK.a.injEq] at hk; subst hk; dsimp only; rw [h l (by simp [Op.operands]), h c (by simp [Op.operands])]
  | binOp op t x y yt => simp only [opK] at hk; cases op <;> simp at hk
  | call c =>
    simp only [opK] at hk
    cases hc : c.callee with
    | value g => simp only [hc, reduceCtorEq] at hk
    | invoke r n => simp only [hc, reduceCtorEq] at hk
    | builtin b =>
      simp only [hc] at hk
      unfold blK at hk
      split at hk
      all_goals (first | (cases hk; done) | (split at hk <;> cases hk; done) | (split at hk <;> first | (cases hk; done) | (revert hk; generalize isMapK _ = bb; cases bb <;> (intro hk; cases hk))))
  | _ => simp [opK] at hk

theorem ope_congr {op : Op} (h : Agree T T' op) {f : AHeap → Tr AV → Option (AHeap × AV)} (hk : opK P op = .e f) (g : AHeap) : f g T = f g T' := by
  unfold Agree at h
  cases op with
  | store t x y =>
    simp only [opK, OpK.e.injEq] at hk; subst hk
    dsimp only
    have : xStore (szO P t) (evO x) (evO y) g T = xStore (szO P t) (evO x) (evO y) g T' := by
      unfold xStore
      rw [h x (by simp [Op.operands]), h y (by simp [Op.operands])]
    rw [this]
  | mapUpdate t x k y => simp only [opK, OpK.e.injEq] at hk; subst hk; dsimp only; rw [h x (by simp [Op.operands]), h k (by simp [Op.operands]), h y (by simp [Op.operands])]
  | insert t x k y => simp only [opK, OpK.e.injEq] at hk; subst hk; dsimp only; rw [h x (by simp [Op.operands]), h k (by simp [Op.operands]), h y (by simp [Op.operands])]
  | binOp op t x y yt => simp only [opK] at hk; cases op <;> simp at hk
  | makeMap t r => cases r <;> simp [opK] at hk
  | call c =>
    simp only [opK] at hk
    cases hc : c.callee with
    | value g => simp only [hc, reduceCtorEq] at hk
    | invoke r n => simp only [hc, reduceCtorEq] at hk
    | builtin b =>
      simp only [hc] at hk
      have hall : ∀ x ∈ c.args.toList, evO x T = evO x T' := fun x hx => h x (by simp only [Op.operands, Call.operands, hc]; simpa using hx)
      unfold blK at hk
      split at hk
      case h_1 x y hl =>
        split at hk <;> simp only [OpK.e.injEq, reduceCtorEq] at hk
        subst hk; dsimp only; rw [hall x (by rw [hl]; simp), hall y (by rw [hl]; simp)]
      case h_3 x y hl =>
        split at hk <;> simp only [OpK.e.injEq, reduceCtorEq] at hk
        subst hk; dsimp only; rw [hall x (by rw [hl]; simp), hall y (by rw [hl]; simp)]
      case h_4 x hl =>
        split at hk <;> simp only [OpK.e.injEq, reduceCtorEq] at hk
        subst hk; dsimp only; rw [hall x (by rw [hl]; simp)]
      case h_5 x y hl =>
        split at hk <;> simp only [OpK.e.injEq, reduceCtorEq] at hk
        subst hk; dsimp only; rw [hall x (by rw [hl]; simp), hall y (by rw [hl]; simp)]
      all_goals (first | (cases hk; done) | (split at hk <;> cases hk; done) | (split at hk <;> first | (cases hk; done) | (revert hk; generalize isMapK _ = bb; cases bb <;> (intro hk; cases hk))))
  | _ => simp [opK] at hk

theorem opc_congr {op : Op} (h : Agree T T' op) {f : Tr AV → Option (CallT × List AV)} (hk : opK P op = .call f) : f T = f T' := by
  unfold Agree at h
  cases op with
  | binOp op t x y yt => simp only [opK] at hk; cases op <;> simp at hk
  | makeMap t r => cases r <;> simp [opK] at hk
  | call c =>
    simp only [opK] at hk
    cases hc : c.callee with
    | builtin b =>
      simp only [hc] at hk
      unfold blK at hk
      split at hk
      all_goals (first | (cases hk; done) | (split at hk <;> cases hk; done) | (split at hk <;> first | (cases hk; done) | (revert hk; generalize isMapK _ = bb; cases bb <;> (intro hk; cases hk))))
    | value g =>
      simp only [hc, OpK.call.injEq] at hk; subst hk
      have hall : ∀ x ∈ c.args.toList, evO x T = evO x T' := fun x hx => h x (by simp only [Op.operands, Call.operands, hc]; simp; right; simpa using hx)
      have hg : evO g T = evO g T' := h g (by simp only [Op.operands, Call.operands, hc]; simp)
      dsimp only
      rw [hg, evOs_congr hall]
    | invoke r name =>
      simp only [hc, OpK.call.injEq] at hk; subst hk
      have hall : ∀ x ∈ c.args.toList, evO x T = evO x T' := fun x hx => h x (by simp only [Op.operands, Call.operands, hc]; simp; right; simpa using hx)
      have hg : evO r T = evO r T' := h r (by simp only [Op.operands, Call.operands, hc]; simp)
      dsimp only
      rw [hg, evOs_congr hall]
  | _ => simp [opK] at hk
end
end Go.Ev

/- A region that draws its order: a plan, and what it says. -/
set_option linter.unusedSimpArgs false
namespace Go.Ev

/-! ### the same value -/
def fnEq : Fn → Fn → Bool
  | .func f, .func g => Nat.beq f g
  | _, _ => false
def capEq : ACap → ACap → Bool
  | .exact n, .exact k => n.beq k
  | .upto n, .upto k => n.beq k
  | _, _ => false
def listEq (e : AV → AV → Bool) : List AV → List AV → Bool
  | [], [] => true
  | a :: l, b :: r => e a b && listEq e l r
  | _, _ => false
def avEq : Nat → AV → AV → Bool
  | 0, _, _ => false
  | n + 1, x, y => match x, y with
    | .bool a, .bool b => a == b
    | .int k a, .int k' b => kEq k k' && eqI a b
    | .str a, .str b => bytesEq a b
    | .nilp, .nilp => true
    | .ptr b o, .ptr c p => b.beq c && o.beq p
    | .nilsl, .nilsl => true
    | .esl, .esl => true
    | .sl b o l c, .sl b' o' l' c' => b.beq b' && o.beq o' && l.beq l' && capEq c c'
    | .nilmap, .nilmap => true
    | .map b, .map c => b.beq c
    | .fn f l c, .fn f' l' c' => fnEq f f' && listEq (avEq n) l l' && listEq (avEq n) c c'
    | .yld b, .yld c => b.beq c
    | .nilf, .nilf => true
    | .ifc t v, .ifc t' v' => Nat.beq t t' && avEq n v v'
    | .nili, .nili => true
    | .agg l, .agg l' => listEq (avEq n) l l'
    | .tup l, .tup l' => listEq (avEq n) l l'
    | _, _ => false
theorem listEq_spec {e : AV → AV → Bool} (he : ∀ a b, e a b = true → a = b) : ∀ {l r : List AV}, listEq e l r = true → l = r
  | [], [], _ => rfl
  | a :: l, b :: r, h => by
    simp only [listEq, Bool.and_eq_true] at h
    rw [he _ _ h.1, listEq_spec he h.2]
  | [], _ :: _, h => by cases h
  | _ :: _, [], h => by cases h
theorem natBeq {a b : Nat} (h : a.beq b = true) : a = b := by rw [Nat.beq_eq] at h; exact h
theorem fnEq_spec {f g : Fn} (h : fnEq f g = true) : f = g := by
  cases f <;> cases g <;> first | (cases h; done) | skip
  rw [natBeq h]
theorem capEq_spec {a b : ACap} (h : capEq a b = true) : a = b := by
  cases a <;> cases b <;> first | (cases h; done) | (rw [natBeq h])
theorem avEq_spec : ∀ {n : Nat} {x y : AV}, avEq n x y = true → x = y
  | 0, _, _, h => by cases h
  | n + 1, x, y, h => by
    have ih : ∀ a b, avEq n a b = true → a = b := fun a b => avEq_spec
    unfold avEq at h
    split at h <;> first | rfl | (cases h; done) | skip
    · simpa using h
    · rw [Bool.and_eq_true, kEq_eq, eqI_eq] at h
      rw [h.1]; congr 1; simpa using h.2
    · rw [bytesEq_eq] at h; congr 1; simpa using h
    · rw [Bool.and_eq_true, Bn.beq_eq] at h; rw [h.1, natBeq h.2]
    · simp only [Bool.and_eq_true, Bn.beq_eq] at h
      rw [h.1.1.1, natBeq h.1.1.2, natBeq h.1.2, capEq_spec h.2]
    · rw [Bn.beq_eq] at h; rw [h]
    · simp only [Bool.and_eq_true] at h
      rw [fnEq_spec h.1.1, listEq_spec ih h.1.2, listEq_spec ih h.2]
    · rw [Bn.beq_eq] at h; rw [h]
    · rw [Bool.and_eq_true] at h; rw [natBeq h.1, ih _ _ h.2]
    · rw [listEq_spec ih h]
    · rw [listEq_spec ih h]

/-! ### ancestors -/
noncomputable def maskL (t : Tr Nat) : List Edge → Nat → Nat
  | [], s => s
  | e :: l, s => maskL t l (bif Region.binds .any e then s ||| (2 ^ e.on ||| (Tr.get (Bn.slot e.on) t).getD 0) else s)
noncomputable def ancT : List Oper → Nat → Tr Nat → Tr Nat
  | [], _, t => t
  | o :: l, i, t => ancT l (i + 1) (Tr.set (Bn.slot i) (some (maskL t o.after.toList 0)) t)
noncomputable def ancO (ops : Array Oper) : Tr Nat := ancT ops.toList 0 .leaf
noncomputable def anc (t : Tr Nat) (i : Nat) : Nat := (Tr.get (Bn.slot i) t).getD 0

theorem maskL_spec {t : Tr Nat} {j : Nat} : ∀ {l : List Edge} {s : Nat} (_ : (maskL t l s).testBit j = true), s.testBit j = true ∨ ∃ e ∈ l, Region.binds .any e = true ∧ (e.on = j ∨ (anc t e.on).testBit j = true)
  | [], s, h => .inl h
  | e :: l, s, h => by
    simp only [maskL] at h
    rcases maskL_spec h with h | ⟨e', he', h⟩
    · cases hb : Region.binds .any e with
      | false => rw [hb] at h; exact .inl h
      | true =>
        rw [hb] at h
        simp only [cond_true, Nat.testBit_or, Bool.or_eq_true] at h
        rcases h with h | h | h
        · exact .inl h
        · refine .inr ⟨e, List.mem_cons_self, hb, .inl ?_⟩
          rw [Nat.testBit_two_pow] at h
          simpa using h
        · exact .inr ⟨e, List.mem_cons_self, hb, .inr h⟩
    · exact .inr ⟨e', List.mem_cons_of_mem _ he', h⟩

/-- What stands in a tree that grows. -/
theorem ancT_old : ∀ {l : List Oper} {i : Nat} {t : Tr Nat} {k : Nat} (_ : k < i), Tr.get (Bn.slot k) (ancT l i t) = Tr.get (Bn.slot k) t
  | [], _, _, _, _ => rfl
  | o :: l, i, t, k, h => by
    simp only [ancT]
    rw [ancT_old (by omega), Tr.get_set_ne (Bn.slot_ne (by omega))]
theorem ancT_at : ∀ {l : List Oper} {i : Nat} {t : Tr Nat} (_ : ∀ k, i ≤ k → Tr.get (Bn.slot k) t = none) {k : Nat} {o : Oper} (_ : l[k]? = some o) {j : Nat} (_ : (anc (ancT l i t) (i + k)).testBit j = true),
    ∃ e ∈ o.after.toList, Region.binds .any e = true ∧ (e.on = j ∨ (anc (ancT l i t) e.on).testBit j = true)
  | [], _, _, _, k, o, h, _, _ => by simp at h
  | x :: l, i, t, hn, 0, o, h, j, hj => by
    simp only [List.getElem?_cons_zero, Option.some.injEq] at h
    subst h
    simp only [ancT, Nat.add_zero, anc] at hj
    rw [ancT_old (by omega), Tr.get_set_same] at hj
    rcases maskL_spec hj with h | ⟨e, he, hb, h⟩
    · simp at h
    · refine ⟨e, he, hb, h.imp id fun h => ?_⟩
      by_cases hlt : e.on < i
      · simp only [ancT, anc]
        rw [ancT_old (by omega), Tr.get_set_ne (Bn.slot_ne (by omega))]
        exact h
      · simp only [anc, hn e.on (by omega)] at h
        simp at h
  | x :: l, i, t, hn, k + 1, o, h, j, hj => by
    have hn' : ∀ q, i + 1 ≤ q → Tr.get (Bn.slot q) (Tr.set (Bn.slot i) (some (maskL t x.after.toList 0)) t) = none := fun q hq => by
      rw [Tr.get_set_ne (Bn.slot_ne (by omega))]; exact hn q (by omega)
    simp only [ancT] at hj ⊢
    rw [show i + (k + 1) = i + 1 + k by omega] at hj
    exact ancT_at hn' (by simpa using h) hj
theorem anc_spec {ops : Array Oper} {i j : Nat} {o : Oper} (ho : ops[i]? = some o) (h : (anc (ancO ops) i).testBit j = true) : ∃ e ∈ o.after.toList, Region.binds .any e = true ∧ (e.on = j ∨ (anc (ancO ops) e.on).testBit j = true) := by
  have := ancT_at (l := ops.toList) (i := 0) (t := .leaf) (fun k _ => by simp) (k := i) (o := o) (by simpa using ho) (j := j) (by rw [Nat.zero_add]; exact h)
  exact this

/-! ### map literals -/
def isIns (t : TypeId) (d : Tmp) (o : Oper) : Bool := match o.op with
  | .insert t' (.tmp x) _ _ => Nat.beq t' t && (Nat.beq x d && (o.guard.isNone && o.dst.isNone))
  | _ => false
def isMk (t : TypeId) (d : Tmp) (o : Oper) : Bool := match o.op with
  | .makeMap t' none => Nat.beq t' t && (o.guard.isNone && (match o.dst with | some x => Nat.beq x d | none => false))
  | _ => false
/-- Among the first n0, the insertions into the map of a slot. -/
def insIx (ops : Array Oper) (n0 : Nat) (t : TypeId) (d : Tmp) : List Nat := (List.range n0).filter fun i => match ops[i]? with | some o => isIns t d o | none => false
def hasMk (ops : Array Oper) (n0 : Nat) (t : TypeId) (d : Tmp) : Bool := (List.range n0).any fun i => match ops[i]? with | some o => isMk t d o | none => false
/-- The insertions of a literal. -/
def litIx (ops : Array Oper) (n0 : Nat) (o : Oper) : List Nat := match o.op with
  | .makeMap t none => (match o.dst, o.guard with | some d, none => insIx ops n0 t d | _, _ => [])
  | _ => []
def litT (o : Oper) : TypeId := match o.op with | .makeMap t none => t | _ => 0
/-- An insertion of a literal. -/
def litI (ops : Array Oper) (n0 : Nat) (o : Oper) : Bool := match o.op with
  | .insert t (.tmp d) _ _ => o.guard.isNone && (o.dst.isNone && hasMk ops n0 t d)
  | _ => false
noncomputable def entO (ops : Array Oper) (T : Tr AV) (i : Nat) : Option (AV × AV) := (ops[i]?).bind fun o => match o.op with
  | .insert _ _ k v => (evO k T).bind fun k => (evO v T).map fun v => (k, v)
  | _ => none
def isFalse : Option Bool → Bool
  | some false => true
  | _ => false
noncomputable def litA (ko : KeyO) (ops : Array Oper) (T : Tr AV) : List Nat → Option (List (AV × AV))
  | [] => some []
  | i :: r => (entO ops T i).bind fun p => (litA ko ops T r).bind fun l => bif ko.ck p.1 && l.all fun q => isFalse (ko.eq p.1 q.1) && isFalse (ko.eq q.1 p.1) then some (p :: l) else none
/-- An operation's kind, in its region. -/
noncomputable def opL (P : Program) (ops : Array Oper) (n0 : Nat) (o : Oper) : OpK := match litIx ops n0 o with
  | i :: r => .a fun T => (keyO P (litT o)).bind fun ko => (litA ko.1 ops T (i :: r)).map fun l => (.map l, fun b => .map b)
  | [] => bif litI ops n0 o then .q fun _ => some undefA else opK P o.op

/-! ### the plan -/
inductive Stp where
  | early (i : Nat)
  | pre (i : Nat)
  | eff (i : Nat) (chk : List Nat)

section
variable (P : Program) (N : Nat) (ops : Array Oper) (n0 : Nat)
noncomputable def wantA (o : Oper) (T : Tr AV) : Option Bool := match o.guard with
  | none => some true
  | some (j, want) => guardA (slotO ops j) want T
noncomputable def valQR (o : Oper) (g : AHeap) (T : Tr AV) : Option AV := (wantA ops o T).bind fun b => bif b then (match opL P ops n0 o with
  | .q f => f T
  | .r f => f g T
  | _ => none) else some undefA
noncomputable def preA (o : Oper) (g : AHeap) (T : Tr AV) : Option (AHeap × AV) := (wantA ops o T).bind fun b => bif b then (match opL P ops n0 o with
  | .a f => (f T).map fun r => (g.new r.1, r.2 g.next)
  | .q f => (f T).map fun r => (g, r)
  | _ => none) else some (g, undefA)
noncomputable def effA (o : Oper) (cf : CallF) (g : AHeap) (T : Tr AV) : Option (AHeap × AV) := (wantA ops o T).bind fun b => bif b then (match opL P ops n0 o with
  | .e f => f g T
  | .call f => (f T).bind fun c => cf c.1 c.2 g
  | _ => none) else some (g, undefA)
noncomputable def dstA (o : Oper) (T : Tr AV) : Option AV := match o.dst with
  | some d => Tr.get (Bn.slot d) T
  | none => some undefA
noncomputable def chkA (i : Nat) (g : AHeap) (T : Tr AV) : Bool := match ops[i]? with
  | some o => (match o.dst with
    | some d => (match valQR P ops n0 o g T, Tr.get (Bn.slot d) T with
      | some r, some q => avEq 64 r q
      | _, _ => false)
    | none => (valQR P ops n0 o g T).isSome)
  | none => false
noncomputable def stpA (s : Stp) : CallF → AHeap → Tr AV → Option (AHeap × Tr AV) := match s with
  | .early i => match ops[i]? with
    | some o => fun _ g T => (valQR P ops n0 o g T).bind fun r => (putT N o.dst r T).map fun T => (g, T)
    | none => fun _ _ _ => none
  | .pre i => match ops[i]? with
    | some o => fun _ g T => (preA P ops n0 o g T).bind fun r => (putT N o.dst r.2 T).map fun T => (r.1, T)
    | none => fun _ _ _ => none
  | .eff i chk => match ops[i]? with
    | some o => fun cf g T => (effA P ops n0 o cf g T).bind fun r => (putT N o.dst r.2 T).bind fun T => bif chk.all (fun j => chkA P ops n0 j r.1 T) && Nat.ble g.next.toNat r.1.next.toNat then some (r.1, T) else none
    | none => fun _ _ _ => none
noncomputable def stpsA : List Stp → CallF → AHeap → Tr AV → Option (AHeap × Tr AV)
  | [] => fun _ g T => some (g, T)
  | s :: l => fun cf g T => (stpA P N ops n0 s cf g T).bind fun r => stpsA l cf r.1 r.2
end
def Stp.i : Stp → Nat
  | .early i => i
  | .pre i => i
  | .eff i _ => i
end Go.Ev

/- A plan, checked: what it says, in the last frame's words. -/
set_option linter.unusedSimpArgs false
namespace Go.Ev

def bitsO : List Operand → Nat → Nat
  | [], s => s
  | .tmp t :: l, s => bitsO l (s ||| 2 ^ t)
  | _ :: l, s => bitsO l s
theorem bitsO_mono : ∀ {l : List Operand} {s t : Nat}, s.testBit t = true → (bitsO l s).testBit t = true
  | [], _, _, h => h
  | x :: l, s, t, h => by cases x <;> simp only [bitsO] <;> refine bitsO_mono ?_ <;> simp [h]
theorem bitsO_mem : ∀ {l : List Operand} {s t : Nat}, .tmp t ∈ l → (bitsO l s).testBit t = true
  | x :: l, s, t, h => by
    cases h with
    | head => simp only [bitsO]; refine bitsO_mono ?_; rw [Nat.testBit_or, Nat.testBit_two_pow]; simp
    | tail _ h => cases x <;> simp only [bitsO] <;> exact bitsO_mem h

section
variable (P : Program) (N : Nat) (ops : Array Oper)
/-- The slots at which an operation looks. -/
def looksM (o : Oper) : Nat :=
  match o.guard with
  | none => bitsO o.op.operands.toList 0
  | some (j, _) => match slotO ops j with
    | some s => bitsO o.op.operands.toList (2 ^ s)
    | none => bitsO o.op.operands.toList 0
/-- The keys and values of insertions. -/
def insM : List Nat → Nat
  | [] => 0
  | i :: r => (match ops[i]? with | some o => (match o.op with | .insert _ _ k v => bitsO [k, v] 0 | _ => 0) | none => 0) ||| insM r
variable (n0 : Nat)
/-- The slots out of which a step comes. -/
def looksL (o : Oper) : Nat := match litIx ops n0 o with
  | i :: r => insM ops (i :: r)
  | [] => bif litI ops n0 o then 0 else looksM ops o
def litO (i : Nat) : List Nat := match ops[i]? with | some o => litIx ops n0 o | none => []
def dstM (i : Nat) : Nat := match (ops[i]?).bind (·.dst) with | some d => 2 ^ d | none => 0
/-- The slots that are laid. -/
def dmask : List Stp → Nat
  | [] => 0
  | s :: l => dstM ops s.i ||| dmask l
/-- Which kind: 0 pure, 1 reads, 2 lays a block, 3 writes or calls, 4 none of these, 5 an insertion of a literal. -/
noncomputable def clsO (i : Nat) : Nat := match ops[i]? with
  | some o => bif litI ops n0 o then 5 else (match opL P ops n0 o with | .q _ => 0 | .r _ => 1 | .a _ => 2 | .e _ => 3 | .call _ => 3 | .bad => 4)
  | none => 4
def nextE : List Stp → Option Nat
  | [] => none
  | .eff i _ :: _ => some i
  | _ :: l => nextE l
def lookOk (l : List Stp) (i : Nat) : Bool := match ops[i]? with
  | some o => Nat.beq (looksL ops n0 o &&& (dstM ops i ||| dmask ops l)) 0 && Nat.beq (dstM ops i &&& dmask ops l) 0
  | none => false
noncomputable def ckP (t : Tr Nat) : List Stp → Nat → Nat → List Nat → Bool
  | [], done, _, _ => (List.range n0).all fun i => done.testBit i
  | .early i :: l, done, effs, rs => Nat.blt i n0 && !done.testBit i && Nat.beq (effs &&& anc t i) effs && Nat.ble (clsO P ops n0 i) 1 && lookOk ops n0 l i &&
      ckP t l (done ||| 2 ^ i) effs (bif Nat.beq (clsO P ops n0 i) 1 then i :: rs else rs)
  | .pre i :: l, done, effs, rs => Nat.blt i n0 && !done.testBit i && (match nextE l with | some e => (anc t e).testBit i | none => true) && (Nat.beq (clsO P ops n0 i) 0 || (Nat.beq (clsO P ops n0 i) 2 || Nat.beq (clsO P ops n0 i) 5)) && lookOk ops n0 l i && (litO ops n0 i).all (fun j => match nextE l with | some e => (anc t e).testBit j | none => true) &&
      ckP t l (done ||| 2 ^ i) effs rs
  | .eff i chk :: l, done, effs, rs => Nat.blt i n0 && !done.testBit i && Nat.beq (effs &&& anc t i) effs && Nat.beq (clsO P ops n0 i) 3 && lookOk ops n0 l i && rs.all (fun j => (anc t i).testBit j || chk.any (Nat.beq j)) && chk.all (fun j => rs.any (Nat.beq j)) &&
      ckP t l (done ||| 2 ^ i) (effs ||| 2 ^ i) (rs.filter fun j => !(anc t i).testBit j)

/-! making one -/
noncomputable def pickE (t : Tr Nat) (eM aM effs : Nat) : List Nat → Nat → List Nat
  | [], _ => []
  | i :: l, d => bif !d.testBit i && Nat.ble (clsO P ops n0 i) 1 && Nat.beq (anc t i &&& eM) effs && Nat.beq (anc t i &&& d) (anc t i) then i :: pickE t eM aM effs l (d ||| 2 ^ i) else pickE t eM aM effs l d
def maskN : List Nat → Nat → Nat
  | [], s => s
  | i :: l, s => maskN l (s ||| 2 ^ i)
/-- A literal stands just ahead of its last insertion. -/
def lastOf (i : Nat) : List Nat → Bool
  | [] => false
  | [j] => Nat.beq i j
  | _ :: r => lastOf i r
def mkOf (i : Nat) : List Nat → List Nat
  | [] => []
  | k :: r => bif lastOf i (litO ops n0 k) then [k] else mkOf i r
def preL (idx : List Nat) : List Nat → List Stp
  | [] => []
  | i :: r => bif (litO ops n0 i).isEmpty then (mkOf ops n0 i idx).map .pre ++ .pre i :: preL idx r else preL idx r
noncomputable def phases (t : Tr Nat) (eM aM : Nat) (idx : List Nat) : List Nat → Nat → Nat → List Nat → List Stp
  | [], done, effs, _ =>
    let es := pickE P ops n0 t eM aM effs idx done
    let done := maskN es done
    es.map .early ++ preL ops n0 idx (idx.filter fun i => !done.testBit i)
  | e :: l, done, effs, rs =>
    let es := pickE P ops n0 t eM aM effs idx done
    let done := maskN es done
    let rs := es.filter (fun i => Nat.beq (clsO P ops n0 i) 1) ++ rs
    let pre := idx.filter fun i => !done.testBit i && (anc t e).testBit i
    let need := rs.filter fun j => !(anc t e).testBit j
    es.map .early ++ (preL ops n0 idx pre ++ .eff e need :: phases t eM aM idx l (maskN pre done ||| 2 ^ e) (effs ||| 2 ^ e) need)
noncomputable def mkPlan (t : Tr Nat) : List Stp :=
  let idx := List.range n0
  let es := idx.filter fun i => Nat.beq (clsO P ops n0 i) 3
  let as := idx.filter fun i => Nat.beq (clsO P ops n0 i) 2
  phases P ops n0 t (maskN es 0) (maskN as 0) idx es 0 0 []
/-- Where the tail begins: from there on every operation comes behind all that are ahead of it. -/
noncomputable def tailO (t : Tr Nat) : List Nat → Nat → Nat
  | [], s => s
  | i :: l, s => tailO t l (bif Nat.beq (anc t i) (2 ^ i - 1) then s else i + 1)
noncomputable def tailOk (t : Tr Nat) : Bool := (List.range ops.size).all fun i => Nat.blt i n0 || Nat.beq (anc t i) (2 ^ i - 1)
/-- What is laid by those that are no ancestors. -/
noncomputable def nonM (t : Tr Nat) (i : Nat) : List Nat → Nat
  | [] => 0
  | j :: l => bif (anc t i).testBit j then nonM t i l else dstM ops j ||| nonM t i l
def apartO : List Nat → Nat → Bool
  | [], _ => true
  | i :: l, s => Nat.beq (dstM ops i &&& s) 0 && apartO l (dstM ops i ||| s)
/-- Whoever looks comes behind whoever lays; no slot is laid twice. -/
noncomputable def wfO (t : Tr Nat) : Bool := (List.range n0).all (fun i => match ops[i]? with | some o => Nat.beq (looksM ops o &&& nonM ops t i (List.range n0)) 0 | none => false) && apartO ops (List.range n0) 0
/-- The drawn region. -/
noncomputable def drawB (t : Tr Nat) (n0 : Nat) : DrawF := fun N ops => bif ckP P ops n0 t (mkPlan P ops n0 t) 0 0 [] && Nat.ble n0 ops.size && tailOk ops n0 t && wfO ops n0 t then
    fun cf h T => (stpsA P N ops n0 (mkPlan P ops n0 t) cf h T).bind fun r => opsE P N ops (ops.toList.drop n0) cf r.1 r.2
  else fun _ _ _ => none
noncomputable def drawA : DrawF := fun N ops => drawB P (ancO ops) (tailO (ancO ops) (List.range ops.size) 0) N ops
end

section
variable {P : Program} {N : Nat} {ops : Array Oper} {n0 : Nat}

theorem dstM_bit {i : Nat} {o : Oper} {d : Tmp} (ho : ops[i]? = some o) (hd : o.dst = some d) : (dstM ops i).testBit d = true := by
  simp [dstM, ho, hd, Nat.testBit_two_pow]
theorem putT_keep {dst : Option Tmp} {r : AV} {T T' : Tr AV} (e : putT N dst r T = some T') {t : Tmp} (ht : dst ≠ some t) : Tr.get (Bn.slot t) T' = Tr.get (Bn.slot t) T := by
  unfold putT at e
  cases dst with
  | none => simp only [Option.some.injEq] at e; subst e; rfl
  | some d =>
    simp only at e
    cases hd : d.blt N with
    | false => rw [hd] at e; cases e
    | true =>
      rw [hd] at e
      simp only [cond_true, Option.some.injEq] at e
      subst e
      rw [Tr.get_set_ne (Bn.slot_ne fun h => ht (by rw [h]))]
theorem putT_same {d : Tmp} {r : AV} {T T' : Tr AV} (e : putT N (some d) r T = some T') : Tr.get (Bn.slot d) T' = some r ∧ d < N := by
  unfold putT at e
  simp only at e
  cases hd : d.blt N with
  | false => rw [hd] at e; cases e
  | true =>
    rw [hd] at e
    simp only [cond_true, Option.some.injEq] at e
    subst e
    rw [blt_iff] at hd
    exact ⟨Tr.get_set_same _ _ _, hd⟩

theorem stpA_keep {s : Stp} {cf : CallF} {g g' : AHeap} {T T' : Tr AV} (e : stpA P N ops n0 s cf g T = some (g', T')) {t : Tmp} (ht : (dstM ops s.i).testBit t = false) : Tr.get (Bn.slot t) T' = Tr.get (Bn.slot t) T := by
  have key : ∀ {o : Oper} {r : AV} {T1 : Tr AV}, ops[s.i]? = some o → putT N o.dst r T = some T1 → Tr.get (Bn.slot t) T1 = Tr.get (Bn.slot t) T := by
    intro o r T1 ho hp
    refine putT_keep hp fun hd => ?_
    rw [dstM_bit ho hd] at ht; cases ht
  cases s with
  | early i =>
    cases ho : ops[i]? with
    | none => simp [stpA, ho] at e
    | some o =>
      simp only [stpA, ho, Option.bind_eq_some_iff, Option.map_eq_some_iff, Prod.mk.injEq] at e
      obtain ⟨r, _, T1, hp, _, rfl⟩ := e
      exact key ho hp
  | pre i =>
    cases ho : ops[i]? with
    | none => simp [stpA, ho] at e
    | some o =>
      simp only [stpA, ho, Option.bind_eq_some_iff, Option.map_eq_some_iff, Prod.mk.injEq] at e
      obtain ⟨r, _, T1, hp, _, rfl⟩ := e
      exact key ho hp
  | eff i chk =>
    cases ho : ops[i]? with
    | none => simp [stpA, ho] at e
    | some o =>
      simp only [stpA, ho, Option.bind_eq_some_iff] at e
      obtain ⟨r, _, T1, hp, e⟩ := e
      obtain ⟨_, e⟩ := cond_some.1 e
      simp only [Prod.mk.injEq] at e
      obtain ⟨_, rfl⟩ := e
      exact key ho hp
theorem stpsA_keep : ∀ {l : List Stp} {cf : CallF} {g g' : AHeap} {T T' : Tr AV} (_ : stpsA P N ops n0 l cf g T = some (g', T')) {t : Tmp} (_ : (dmask ops l).testBit t = false), Tr.get (Bn.slot t) T' = Tr.get (Bn.slot t) T
  | [], cf, g, g', T, T', e, t, _ => by simp only [stpsA, Option.some.injEq, Prod.mk.injEq] at e; rw [e.2]
  | s :: l, cf, g, g', T, T', e, t, ht => by
    simp only [stpsA, Option.bind_eq_some_iff] at e
    obtain ⟨⟨g1, T1⟩, h1, e⟩ := e
    simp only [dmask, Nat.testBit_or, Bool.or_eq_false_iff] at ht
    rw [stpsA_keep e ht.2, stpA_keep h1 ht.1]

theorem litIx_spec {o : Oper} {i : Nat} {r : List Nat} (h : litIx ops n0 o = i :: r) : ∃ t d, o.op = .makeMap t none ∧ o.dst = some d ∧ o.guard = none ∧ insIx ops n0 t d = i :: r ∧ litT o = t := by
  unfold litIx at h
  split at h
  · rename_i t ht
    split at h
    · rename_i d hd hg
      exact ⟨t, d, ht, hd, hg, h, by simp [litT, ht]⟩
    · cases h
  · cases h
theorem litI_spec {o : Oper} (h : litI ops n0 o = true) : ∃ t d k v, o.op = .insert t (.tmp d) k v ∧ o.guard = none ∧ o.dst = none ∧ hasMk ops n0 t d = true := by
  unfold litI at h
  split at h
  · rename_i t d k v ho
    simp only [Bool.and_eq_true, Option.isNone_iff_eq_none] at h
    exact ⟨t, d, k, v, ho, h.1, h.2.1, h.2.2⟩
  · cases h
theorem opL_lit {o : Oper} {i : Nat} {r : List Nat} (h : litIx ops n0 o = i :: r) : opL P ops n0 o = .a fun T => (keyO P (litT o)).bind fun ko => (litA ko.1 ops T (i :: r)).map fun l => (.map l, fun b => .map b) := by
  unfold opL; rw [h]
theorem opL_ins {o : Oper} (h : litI ops n0 o = true) : opL P ops n0 o = .q fun _ => some undefA := by
  obtain ⟨t, d, k, v, ho, _⟩ := litI_spec h
  have : litIx ops n0 o = [] := by simp [litIx, ho]
  unfold opL; rw [this, h]; rfl
theorem opL_reg {o : Oper} (h : litIx ops n0 o = []) (h' : litI ops n0 o = false) : opL P ops n0 o = opK P o.op := by
  unfold opL; rw [h, h']; rfl
theorem opL_cases (o : Oper) : (∃ i r, litIx ops n0 o = i :: r) ∨ litI ops n0 o = true ∨ (litIx ops n0 o = [] ∧ litI ops n0 o = false) := by
  cases h : litIx ops n0 o with
  | cons i r => exact .inl ⟨i, r, rfl⟩
  | nil =>
    cases h' : litI ops n0 o with
    | true => exact .inr (.inl rfl)
    | false => exact .inr (.inr ⟨rfl, rfl⟩)
theorem looksL_reg {o : Oper} (h : litIx ops n0 o = []) (h' : litI ops n0 o = false) : looksL ops n0 o = looksM ops o := by
  unfold looksL; rw [h, h']; rfl

/-- Agreement at all that a step comes out of. -/
def AgreeO (ops : Array Oper) (n0 : Nat) (T T' : Tr AV) (o : Oper) : Prop := ∀ t : Nat, (looksL ops n0 o).testBit t = true → Tr.get (Bn.slot t) T = Tr.get (Bn.slot t) T'
theorem agree_ops {T T' : Tr AV} {l : List Operand} (h : ∀ t : Nat, (bitsO l 0).testBit t = true → Tr.get (Bn.slot t) T = Tr.get (Bn.slot t) T') : ∀ x ∈ l, evO x T = evO x T' := by
  intro x hx
  cases x with
  | tmp t => exact h t (bitsO_mem hx)
  | const v => rfl
  | func f => rfl
  | global g => rfl
theorem AgreeO.op {T T' : Tr AV} {o : Oper} (h : AgreeO ops n0 T T' o) (hr : litIx ops n0 o = []) (hi : litI ops n0 o = false) : Agree T T' o.op := by
  unfold AgreeO at h
  rw [looksL_reg hr hi] at h
  intro x hx
  cases x with
  | tmp t =>
    refine h t ?_
    have hx : Operand.tmp t ∈ o.op.operands.toList := by simpa using hx
    unfold looksM
    split
    · exact bitsO_mem hx
    · split <;> exact bitsO_mem hx
  | const v => rfl
  | func f => rfl
  | global g => rfl
theorem AgreeO.want {T T' : Tr AV} {o : Oper} (h : AgreeO ops n0 T T' o) : wantA ops o T = wantA ops o T' := by
  rcases opL_cases (ops := ops) (n0 := n0) o with ⟨i, r, hl⟩ | hl | ⟨hr, hi⟩
  · obtain ⟨_, _, _, _, hg, _⟩ := litIx_spec hl
    unfold wantA; rw [hg]
  · obtain ⟨_, _, _, _, _, hg, _⟩ := litI_spec hl
    unfold wantA; rw [hg]
  · unfold AgreeO at h
    rw [looksL_reg hr hi] at h
    unfold wantA
    cases hg : o.guard with
    | none => rfl
    | some jw =>
      obtain ⟨j, want⟩ := jw
      simp only
      unfold guardA
      cases hs : slotO ops j with
      | none => rfl
      | some s =>
        simp only
        rw [h s (by
          unfold looksM
          simp only [hg, hs]
          refine bitsO_mono ?_
          rw [Nat.testBit_two_pow]; simp)]
theorem entO_congr {T T' : Tr AV} : ∀ {l : List Nat} (_ : ∀ t : Nat, (insM ops l).testBit t = true → Tr.get (Bn.slot t) T = Tr.get (Bn.slot t) T'), ∀ i ∈ l, entO ops T i = entO ops T' i
  | j :: l, h, i, hi => by
    simp only [insM, Nat.testBit_or, Bool.or_eq_true] at h
    cases hi with
    | tail _ hi => exact entO_congr (fun t ht => h t (.inr ht)) i hi
    | head =>
      unfold entO
      cases ho : ops[j]? with
      | none => rfl
      | some o =>
        simp only [Option.bind_some]
        rw [ho] at h
        cases hop : o.op <;> simp only
        rename_i t m k v
        simp only [hop] at h
        have h2 := agree_ops (l := [k, v]) (T := T) (T' := T') fun t ht => h t (.inl ht)
        rw [h2 k (by simp), h2 v (by simp)]
theorem litA_congr {T T' : Tr AV} {ko : KeyO} : ∀ {l : List Nat} (_ : ∀ i ∈ l, entO ops T i = entO ops T' i), litA ko ops T l = litA ko ops T' l
  | [], _ => rfl
  | i :: r, h => by
    simp only [litA]
    rw [h i List.mem_cons_self, litA_congr fun j hj => h j (List.mem_cons_of_mem _ hj)]
theorem opLa_congr {T T' : Tr AV} {o : Oper} (h : AgreeO ops n0 T T' o) {f : Tr AV → Option (AObj × (Bn → AV))} (hk : opL P ops n0 o = .a f) : f T = f T' := by
  rcases opL_cases (ops := ops) (n0 := n0) o with ⟨i, r, hl⟩ | hl | ⟨hr, hi⟩
  · rw [opL_lit hl, OpK.a.injEq] at hk
    subst hk
    unfold AgreeO looksL at h
    rw [hl] at h
    simp only
    congr 1
    funext ko
    rw [litA_congr (entO_congr h)]
  · rw [opL_ins hl] at hk; cases hk
  · rw [opL_reg hr hi] at hk
    exact opa_congr (h.op hr hi) hk
theorem opLq_congr {T T' : Tr AV} {o : Oper} (h : AgreeO ops n0 T T' o) {f : Tr AV → Option AV} (hk : opL P ops n0 o = .q f) : f T = f T' := by
  rcases opL_cases (ops := ops) (n0 := n0) o with ⟨i, r, hl⟩ | hl | ⟨hr, hi⟩
  · rw [opL_lit hl] at hk; cases hk
  · rw [opL_ins hl, OpK.q.injEq] at hk
    subst hk; rfl
  · rw [opL_reg hr hi] at hk
    exact opq_congr (h.op hr hi) hk
theorem opL_plain {o : Oper} (h : ∀ f, opL P ops n0 o ≠ .a f) (h' : ∀ f, opL P ops n0 o ≠ .q f) : litIx ops n0 o = [] ∧ litI ops n0 o = false := by
  rcases opL_cases (ops := ops) (n0 := n0) o with ⟨i, r, hl⟩ | hl | ⟨hr, hi⟩
  · exact absurd (opL_lit hl) (h _)
  · exact absurd (opL_ins hl) (h' _)
  · exact ⟨hr, hi⟩
theorem valQR_congr {T T' : Tr AV} {o : Oper} (h : AgreeO ops n0 T T' o) (g : AHeap) : valQR P ops n0 o g T = valQR P ops n0 o g T' := by
  unfold valQR
  rw [h.want]
  congr 1
  funext b
  cases hk : opL P ops n0 o <;> simp only
  · rw [opLq_congr h hk]
  · obtain ⟨hr, hi⟩ := opL_plain (P := P) (ops := ops) (n0 := n0) (o := o) (by simp [hk]) (by simp [hk])
    rw [opL_reg hr hi] at hk
    rw [opr_congr (h.op hr hi) hk]
theorem preA_congr {T T' : Tr AV} {o : Oper} (h : AgreeO ops n0 T T' o) (g : AHeap) : preA P ops n0 o g T = preA P ops n0 o g T' := by
  unfold preA
  rw [h.want]
  congr 1
  funext b
  cases hk : opL P ops n0 o <;> simp only
  · rw [opLq_congr h hk]
  · rw [opLa_congr h hk]
theorem effA_congr {T T' : Tr AV} {o : Oper} (h : AgreeO ops n0 T T' o) (cf : CallF) (g : AHeap) : effA P ops n0 o cf g T = effA P ops n0 o cf g T' := by
  unfold effA
  rw [h.want]
  congr 1
  funext b
  cases hk : opL P ops n0 o <;> simp only
  · obtain ⟨hr, hi⟩ := opL_plain (P := P) (ops := ops) (n0 := n0) (o := o) (by simp [hk]) (by simp [hk])
    rw [opL_reg hr hi] at hk
    rw [ope_congr (h.op hr hi) hk]
  · obtain ⟨hr, hi⟩ := opL_plain (P := P) (ops := ops) (n0 := n0) (o := o) (by simp [hk]) (by simp [hk])
    rw [opL_reg hr hi] at hk
    rw [opc_congr (h.op hr hi) hk]

/-! ### facts -/
def DstIs (N : Nat) (T : Tr AV) (o : Oper) (r : AV) : Prop := ∀ d, o.dst = some d → Tr.get (Bn.slot d) T = some r ∧ d < N
def QRF (P : Program) (N : Nat) (ops : Array Oper) (n0 : Nat) (T : Tr AV) (g : AHeap) (i : Nat) : Prop := ∃ o r, ops[i]? = some o ∧ valQR P ops n0 o g T = some r ∧ DstIs N T o r
def Fct (P : Program) (N : Nat) (ops : Array Oper) (n0 : Nat) (cf : CallF) (T : Tr AV) (g' : AHeap) : List Stp → AHeap → Prop
  | [], g => g = g'
  | .early i :: l, g => QRF P N ops n0 T g i ∧ Fct P N ops n0 cf T g' l g
  | .pre i :: l, g => ∃ o r g1, ops[i]? = some o ∧ preA P ops n0 o g T = some (g1, r) ∧ DstIs N T o r ∧ Fct P N ops n0 cf T g' l g1
  | .eff i chk :: l, g => ∃ o r g1, ops[i]? = some o ∧ effA P ops n0 o cf g T = some (g1, r) ∧ DstIs N T o r ∧ (∀ j ∈ chk, QRF P N ops n0 T g1 j) ∧ g.next.toNat ≤ g1.next.toNat ∧ Fct P N ops n0 cf T g' l g1
end
end Go.Ev

/- What a checked plan says. -/
set_option linter.unusedSimpArgs false
namespace Go.Ev

section
variable {P : Program} {N : Nat} {ops : Array Oper} {n0 : Nat}

theorem bit_and_zero {a b : Nat} (h : Nat.beq (a &&& b) 0 = true) {t : Nat} (ht : a.testBit t = true) : b.testBit t = false := by
  have h := Nat.beq_eq.mp h
  have := congrArg (fun x => x.testBit t) h
  simp only [Nat.testBit_and, ht, Bool.true_and, Nat.zero_testBit] at this
  exact this

/-- An operation's look is free of what the steps lay. -/
def Free (ops : Array Oper) (n0 : Nat) (l : List Stp) (i : Nat) : Prop := ∀ o, ops[i]? = some o → (∀ t : Nat, (looksL ops n0 o).testBit t = true → (dmask ops l).testBit t = false) ∧ (∀ d, o.dst = some d → (dmask ops l).testBit d = false)
theorem lookOk_spec {l : List Stp} {i : Nat} (h : lookOk ops n0 l i = true) : ∃ o, ops[i]? = some o ∧ (∀ t : Nat, (looksL ops n0 o).testBit t = true → (dstM ops i).testBit t = false ∧ (dmask ops l).testBit t = false) ∧ (∀ d, o.dst = some d → (dmask ops l).testBit d = false) := by
  unfold lookOk at h
  cases ho : ops[i]? with
  | none => rw [ho] at h; cases h
  | some o =>
    rw [ho] at h
    simp only [Bool.and_eq_true] at h
    refine ⟨o, rfl, fun t ht => ?_, fun d hd => bit_and_zero h.2 (dstM_bit ho hd)⟩
    have := bit_and_zero h.1 ht
    simpa [Nat.testBit_or] using this
theorem Free.tail {s : Stp} {l : List Stp} {i : Nat} (h : Free ops n0 (s :: l) i) : Free ops n0 l i := by
  intro o ho
  obtain ⟨h1, h2⟩ := h o ho
  simp only [dmask, Nat.testBit_or, Bool.or_eq_false_iff] at h1 h2
  exact ⟨fun t ht => (h1 t ht).2, fun d hd => (h2 d hd).2⟩

theorem chkA_spec {i : Nat} {g : AHeap} {T : Tr AV} (h : chkA P ops n0 i g T = true) : ∃ o r, ops[i]? = some o ∧ valQR P ops n0 o g T = some r ∧ ∀ d, o.dst = some d → Tr.get (Bn.slot d) T = some r := by
  unfold chkA at h
  cases ho : ops[i]? with
  | none => rw [ho] at h; cases h
  | some o =>
    rw [ho] at h
    simp only at h
    cases hd : o.dst with
    | none =>
      rw [hd] at h
      simp only [Option.isSome_iff_exists] at h
      obtain ⟨r, hr⟩ := h
      exact ⟨o, r, rfl, hr, fun d hd' => by rw [hd] at hd'; cases hd'⟩
    | some d =>
      rw [hd] at h
      simp only at h
      cases hv : valQR P ops n0 o g T with
      | none => rw [hv] at h; cases h
      | some r =>
        cases hq : Tr.get (Bn.slot d) T with
        | none => rw [hv, hq] at h; cases h
        | some q =>
          rw [hv, hq] at h
          have := avEq_spec h
          subst this
          refine ⟨o, r, rfl, hv, fun d' hd' => ?_⟩
          rw [hd] at hd'; cases hd'; exact hq

/-- **What a plan that is checked, and done, says in the last frame's words.** -/
theorem fct_of {t : Tr Nat} {cf : CallF} {g' : AHeap} {Tf : Tr AV} : ∀ {l : List Stp} {done effs : Nat} {rs : List Nat} {g : AHeap} {T : Tr AV} (_ : ckP P ops n0 t l done effs rs = true) (_ : stpsA P N ops n0 l cf g T = some (g', Tf))
    (_ : ∀ i ∈ rs, Free ops n0 l i ∧ ∀ o d, ops[i]? = some o → o.dst = some d → d < N), Fct P N ops n0 cf Tf g' l g
  | [], done, effs, rs, g, T, _, e, _ => by
    simp only [stpsA, Option.some.injEq, Prod.mk.injEq] at e
    exact e.1
  | s :: l, done, effs, rs, g, T, hc, e, hr => by
    simp only [stpsA, Option.bind_eq_some_iff] at e
    obtain ⟨⟨g1, T1⟩, h1, e⟩ := e
    -- the frame at this step agrees with the last one wherever the operation looks
    have agree : ∀ {i : Nat} {o : Oper}, s.i = i → lookOk ops n0 l i = true → ops[i]? = some o → AgreeO ops n0 T Tf o ∧ (∀ {r : AV}, putT N o.dst r T = some T1 → DstIs N Tf o r) ∧ Free ops n0 l i := by
      intro i o hi hl ho
      obtain ⟨o', ho', f1, f2⟩ := lookOk_spec hl
      rw [ho] at ho'; cases ho'
      refine ⟨fun q hq => ?_, fun {r} hp d hd => ?_, fun o'' ho'' => ?_⟩
      · obtain ⟨a1, a2⟩ := f1 q hq
        rw [stpsA_keep e a2, stpA_keep h1 (by rw [hi]; exact a1)]
      · rw [hd] at hp
        obtain ⟨b1, b2⟩ := putT_same hp
        exact ⟨by rw [stpsA_keep e (f2 d hd)]; exact b1, b2⟩
      · rw [ho] at ho''; cases ho''
        exact ⟨fun q hq => (f1 q hq).2, f2⟩
    have keep : ∀ i ∈ rs, Free ops n0 l i ∧ ∀ o d, ops[i]? = some o → o.dst = some d → d < N := fun i hi => ⟨(hr i hi).1.tail, (hr i hi).2⟩
    cases s with
    | early i =>
      simp only [ckP, Bool.and_eq_true] at hc
      obtain ⟨⟨⟨⟨⟨c0, c1⟩, c2⟩, c3⟩, c4⟩, c5⟩ := hc
      cases ho : ops[i]? with
      | none => simp [stpA, ho] at h1
      | some o =>
        simp only [stpA, ho, Option.bind_eq_some_iff, Option.map_eq_some_iff, Prod.mk.injEq] at h1
        obtain ⟨r, hv, T2, hp, rfl, rfl⟩ := h1
        obtain ⟨a1, a2, a3⟩ := agree rfl c4 ho
        rw [valQR_congr a1] at hv
        refine ⟨⟨o, r, ho, hv, a2 hp⟩, fct_of c5 e ?_⟩
        intro j hj
        cases hcl : Nat.beq (clsO P ops n0 i) 1 with
        | false => rw [hcl] at hj; exact keep j hj
        | true =>
          rw [hcl] at hj
          simp only [cond_true] at hj
          cases hj with
          | head =>
            refine ⟨a3, fun o' d ho' hd => ?_⟩
            rw [ho] at ho'; cases ho'
            exact (a2 hp d hd).2
          | tail _ hj => exact keep j hj
    | pre i =>
      simp only [ckP, Bool.and_eq_true] at hc
      obtain ⟨⟨⟨⟨⟨⟨c0, c1⟩, c2⟩, c3⟩, c4⟩, c6⟩, c5⟩ := hc
      cases ho : ops[i]? with
      | none => simp [stpA, ho] at h1
      | some o =>
        simp only [stpA, ho, Option.bind_eq_some_iff, Option.map_eq_some_iff, Prod.mk.injEq] at h1
        obtain ⟨⟨g2, r⟩, hv, T2, hp, rfl, rfl⟩ := h1
        obtain ⟨a1, a2, a3⟩ := agree rfl c4 ho
        rw [preA_congr a1] at hv
        exact ⟨o, r, g2, ho, hv, a2 hp, fct_of c5 e keep⟩
    | eff i chk =>
      simp only [ckP, Bool.and_eq_true] at hc
      obtain ⟨⟨⟨⟨⟨⟨⟨c0, c1⟩, c2⟩, c3⟩, c4⟩, c5⟩, c6⟩, c7⟩ := hc
      cases ho : ops[i]? with
      | none => simp [stpA, ho] at h1
      | some o =>
        simp only [stpA, ho, Option.bind_eq_some_iff] at h1
        obtain ⟨⟨g2, r⟩, hv, T2, hp, h1⟩ := h1
        obtain ⟨hck, h1⟩ := cond_some.1 h1
        rw [Bool.and_eq_true] at hck
        obtain ⟨hck, hnx⟩ := hck
        rw [Nat.ble_eq] at hnx
        simp only [Prod.mk.injEq] at h1
        obtain ⟨rfl, rfl⟩ := h1
        obtain ⟨a1, a2, a3⟩ := agree rfl c4 ho
        rw [effA_congr a1] at hv
        refine ⟨o, r, g2, ho, hv, a2 hp, fun j hj => ?_, hnx, fct_of c7 e fun j hj => keep j (List.mem_filter.1 hj).1⟩
        have hjr : j ∈ rs := by
          have := List.all_eq_true.1 c6 j hj
          obtain ⟨k, hk, hkj⟩ := List.any_eq_true.1 this
          rw [natBeq hkj]; exact hk
        obtain ⟨k1, k2⟩ := keep j hjr
        obtain ⟨oj, rj, hoj, hvj, hdj⟩ := chkA_spec (List.all_eq_true.1 hck j hj)
        obtain ⟨m1, m2⟩ := k1 oj hoj
        have hag : AgreeO ops n0 T2 Tf oj := fun q hq => (stpsA_keep e (m1 q hq)).symm
        rw [valQR_congr hag] at hvj
        refine ⟨oj, rj, hoj, hvj, fun d hd => ⟨?_, k2 oj d hoj hd⟩⟩
        rw [stpsA_keep e (m2 d hd)]
        exact hdj d hd
end
end Go.Ev

/- A block that is there already is spoken of. -/
set_option linter.unusedSimpArgs false
namespace Go.Ev

section
variable {P : Program} {m : Ren} {h : AHeap} {w : World}

theorem HR.adopt (H : HR m h w) {o : AObj} {ob : Obj} {L : Loc} (hw : w.heap[L.blk]? = some ob) (hi : ¬ Im m h L.blk) (hO : OR (m.set h.next L) L o ob) :
    HR (m.set h.next L) (h.new o) w ∧ ∀ B, B ≠ L.blk → ¬ Im m h B → ¬ Im (m.set h.next L) (h.new o) B := by
  have hn := H.next_none
  have hle := Ren.le_set hn L
  have mn : (m.set h.next L) h.next = some L := by simp [Ren.set]
  have mo : ∀ {x : Bn}, x ≠ h.next → (m.set h.next L) x = m x := by intro x hx; simp [Ren.set, hx]
  have old : ∀ {x : Bn} {y : AObj}, Tr.get x (h.new o).objs = some y → x ≠ h.next → Tr.get x h.objs = some y := by
    intro x y hg hx
    simpa only [AHeap.new, Tr.get_set, if_neg hx] using hg
  have new : ∀ {y : AObj}, Tr.get h.next (h.new o).objs = some y → y = o := by
    intro y hg
    simp only [AHeap.new, Tr.get_set, if_true] at hg
    exact (Option.some.inj hg).symm
  refine ⟨⟨?_, ?_, ?_⟩, ?_⟩
  · intro x y hg
    by_cases hx : x = h.next
    · subst hx
      rw [new hg]
      exact ⟨L, ob, mn, hw, hO⟩
    · obtain ⟨L1, ob1, h1, h2, h3⟩ := H.obj x y (old hg hx)
      exact ⟨L1, ob1, by rw [mo hx]; exact h1, h2, h3.mono hle⟩
  · intro b1 b2 o1 o2 L1 L2 g1 g2 e1 e2 he
    by_cases x1 : b1 = h.next
    · by_cases x2 : b2 = h.next
      · rw [x1, x2]
      · exfalso
        rw [mo x2] at e2
        rw [x1, mn] at e1; cases e1
        exact hi ⟨b2, o2, L2, old g2 x2, e2, he.symm⟩
    · rw [mo x1] at e1
      by_cases x2 : b2 = h.next
      · exfalso
        rw [x2, mn] at e2; cases e2
        exact hi ⟨b1, o1, L1, old g1 x1, e1, he⟩
      · rw [mo x2] at e2
        exact H.inj _ _ _ _ _ _ (old g1 x1) (old g2 x2) e1 e2 he
  · intro x hx
    simp only [AHeap.new, Bn.toNat_succ] at hx
    have : x ≠ h.next := by rintro rfl; omega
    rw [mo this]
    exact H.fresh x (by omega)
  · rintro B hB hi' ⟨x, y, L1, hg, hm1, he⟩
    by_cases hx : x = h.next
    · subst hx
      rw [mn] at hm1; cases hm1
      exact hB he.symm
    · rw [mo hx] at hm1
      exact hi' ⟨x, y, L1, old hg hx, hm1, he⟩

theorem Bn.ge_next (H : HR m h w) {b : Bn} {L : Loc} (hm : m b = some L) : b.toNat < h.next.toNat := by
  rcases Nat.lt_or_ge b.toNat h.next.toNat with h1 | h1
  · exact h1
  · rw [H.fresh b h1] at hm; cases hm
end
end Go.Ev

/- Whatever order: the frame that an operation sees. -/
set_option linter.unusedSimpArgs false
namespace Go.Ev

section
variable {P : Program} {N : Nat} {ops : Array Oper}

/-- Some slots forgotten. -/
noncomputable def forget : List Tmp → Tr AV → Tr AV
  | [], T => T
  | d :: l, T => forget l (Tr.set (Bn.slot d) none T)
theorem forget_in : ∀ {l : List Tmp} {T : Tr AV} {d : Tmp}, d ∈ l → Tr.get (Bn.slot d) (forget l T) = none
  | d' :: l, T, d, h => by
    simp only [forget]
    by_cases hl : d ∈ l
    · exact forget_in hl
    · have hd : d = d' := by
        cases h with
        | head => rfl
        | tail _ h => exact absurd h hl
      subst hd
      have : ∀ {l : List Tmp} {T : Tr AV}, d ∉ l → Tr.get (Bn.slot d) (forget l T) = Tr.get (Bn.slot d) T := by
        intro l
        induction l with
        | nil => intro T _; rfl
        | cons x l ih =>
          intro T hx
          simp only [forget]
          rw [ih (fun h => hx (List.mem_cons_of_mem _ h)), Tr.get_set_ne (Bn.slot_ne fun h => hx (by rw [h]; exact List.mem_cons_self))]
      rw [this hl, Tr.get_set_same]
theorem forget_out : ∀ {l : List Tmp} {T : Tr AV} {d : Tmp}, d ∉ l → Tr.get (Bn.slot d) (forget l T) = Tr.get (Bn.slot d) T
  | [], _, _, _ => rfl
  | x :: l, T, d, h => by
    simp only [forget]
    rw [forget_out (fun hl => h (List.mem_cons_of_mem _ hl)), Tr.get_set_ne (Bn.slot_ne fun he => h (by rw [he]; exact List.mem_cons_self))]

/-- A slot as the last frame has it. -/
def SlotR (ops : Array Oper) (Tf : Tr AV) (m : Ren) (i : Nat) (a : Act) : Prop := ∀ o d, ops[i]? = some o → o.dst = some d → ∃ A v, Tr.get (Bn.slot d) Tf = some A ∧ a.tmps[d]? = some v ∧ VR m A v
/-- The slots that none of the first operations lays. -/
def ExtR (ops : Array Oper) (n0 : Nat) (Tf : Tr AV) (m : Ren) (a : Act) : Prop := ∀ t A, (∀ i o, i < n0 → ops[i]? = some o → o.dst ≠ some t) → Tr.get (Bn.slot t) Tf = some A → ∃ v, a.tmps[t]? = some v ∧ VR m A v

theorem nonM_bit {t : Tr Nat} {i : Nat} : ∀ {l : List Nat} {j : Nat} (_ : j ∈ l) (_ : (anc t i).testBit j = false) {d : Nat} (_ : (dstM ops j).testBit d = true), (nonM ops t i l).testBit d = true
  | k :: l, j, h, ha, d, hd => by
    simp only [nonM]
    cases h with
    | head => rw [ha]; simp [Nat.testBit_or, hd]
    | tail _ h =>
      have ih := nonM_bit h ha hd
      cases (anc t i).testBit k with
      | true => exact ih
      | false => simp [Nat.testBit_or, ih]
theorem dstM_bit_iff {i d : Nat} (h : (dstM ops i).testBit d = true) : ∃ o, ops[i]? = some o ∧ o.dst = some d := by
  unfold dstM at h
  cases ho : ops[i]? with
  | none => simp [ho] at h
  | some o =>
    cases hd : o.dst with
    | none => simp [ho, hd] at h
    | some d' =>
      simp only [ho, hd, Option.bind_some, Nat.testBit_two_pow, decide_eq_true_eq] at h
      exact ⟨o, rfl, by rw [hd, h]⟩

/-- Whoever looks comes behind whoever lays. -/
theorem wf_lay {t : Tr Nat} {n0 : Nat} (h : wfO ops n0 t = true) {i : Nat} (hi : i < n0) {o : Oper} (ho : ops[i]? = some o) {d : Nat} (hd : (looksM ops o).testBit d = true) {j : Nat} (hj : j < n0) (hl : (dstM ops j).testBit d = true) : (anc t i).testBit j = true := by
  simp only [wfO, Bool.and_eq_true, List.all_eq_true] at h
  have := h.1 i (by simpa using hi)
  rw [ho] at this
  cases ha : (anc t i).testBit j with
  | true => rfl
  | false =>
    have h1 := nonM_bit (ops := ops) (t := t) (i := i) (l := List.range n0) (j := j) (by simpa using hj) ha hl
    rw [bit_and_zero this hd] at h1; cases h1

/-- A frame for what is looked at. -/
theorem opFrame3 {n0 mask : Nat} {Tf : Tr AV} {m : Ren} {a : Act} (hE : ExtR ops n0 Tf m a)
    (hS : ∀ j, j < n0 → ∀ d : Nat, (dstM ops j).testBit d = true → mask.testBit d = true → SlotR ops Tf m j a) : ∃ T', FR m T' a.tmps ∧ ∀ t : Nat, mask.testBit t = true → Tr.get (Bn.slot t) T' = Tr.get (Bn.slot t) Tf := by
  refine ⟨forget ((List.range n0).filterMap fun j => ((ops[j]?).bind (·.dst)).filter fun d => !(mask.testBit d)) Tf, ?_, ?_⟩
  · intro s A hg
    by_cases hin : s ∈ (List.range n0).filterMap fun j => ((ops[j]?).bind (·.dst)).filter fun d => !(mask.testBit d)
    · rw [forget_in hin] at hg; cases hg
    · rw [forget_out hin] at hg
      by_cases hex : ∃ j o', j < n0 ∧ ops[j]? = some o' ∧ o'.dst = some s
      · obtain ⟨j, o', hj, ho', hd⟩ := hex
        cases ha : mask.testBit s with
        | false => exact absurd (List.mem_filterMap.2 ⟨j, by simpa using hj, by simp [ho', hd, Option.filter, ha]⟩) hin
        | true =>
          obtain ⟨A', v, h1, h2, h3⟩ := hS j hj s (dstM_bit ho' hd) ha o' s ho' hd
          rw [hg] at h1; cases h1
          exact ⟨v, h2, h3⟩
      · exact hE s A (fun j o' hj ho' hd => hex ⟨j, o', hj, ho', hd⟩) hg
  · intro s hs
    refine forget_out fun hin => ?_
    obtain ⟨j, hj, hd⟩ := List.mem_filterMap.1 hin
    rw [Option.filter_eq_some_iff] at hd
    rw [hs] at hd
    cases hd.2
end
end Go.Ev

/- Whatever order: one operation is done. -/
set_option linter.unusedSimpArgs false
namespace Go.Ev

section
variable {P : Program} {N : Nat} {ops : Array Oper} {n0 : Nat}

theorem wantA_sim {m : Ren} {T : Tr AV} {a : Act} (hF : FR m T a.tmps) {o : Oper} {b : Bool} (e : wantA ops o T = some b) : Region.wanted o (yielded ops a.tmps) = b := by
  unfold wantA at e
  cases hg : o.guard with
  | none => rw [hg] at e; simp only [Option.some.injEq] at e; subst e; simp [Region.wanted, hg]
  | some jw =>
    obtain ⟨j, want⟩ := jw
    rw [hg] at e
    have := guardA_sim hF e
    simp only [Region.wanted, hg]
    exact this

/-- What needs no memory, or reads it: one step. -/
theorem valQR_wp {m : Ren} {h : AHeap} {w : World} (H : HR m h w) {T : Tr AV} {a : Act} (hF : FR m T a.tmps) {o : Oper} {r : AV} (hni : litI ops n0 o = false) (e : valQR P ops n0 o h T = some r) {ro : Option Nat} {n : Nat} {K : Act → World → Prop} {Q : Exit → Act → World → Prop}
    (hK : ∀ v, VR m r v → K (a.put o.dst v) w) : opWp (wideR ro) n P ops o a w K Q := by
  unfold valQR at e
  simp only [Option.bind_eq_some_iff] at e
  obtain ⟨b, hb, e⟩ := e
  unfold opWp
  rw [wantA_sim hF hb]
  cases b with
  | false =>
    simp only [cond_false, Option.some.injEq] at e; subst e
    rw [if_neg (by simp)]
    exact ⟨fun _ _ => trivial, hK _ (vr_undef m)⟩
  | true =>
    rw [if_pos rfl]
    refine ⟨fun _ _ => trivial, ?_⟩
    simp only [cond_true] at e
    have hreg : opL P ops n0 o = opK P o.op := by
      rcases opL_cases (ops := ops) (n0 := n0) o with ⟨i, r', hl⟩ | hl | ⟨hr, hi⟩
      · rw [opL_lit hl] at e; cases e
      · rw [hl] at hni; cases hni
      · exact opL_reg hr hi
    rw [hreg] at e
    cases hk : opK P o.op <;> rw [hk] at e <;> first | (cases e; done) | skip
    · rw [semAt_op _ hk (by simp)]
      obtain ⟨v, h1, h2⟩ := opq_sim hF hk e
      rw [h1 w]
      exact hK v h2
    · rw [semAt_op _ hk (by simp)]
      obtain ⟨v, h1, h2⟩ := opr_sim H hF hk e
      rw [h1]
      exact hK v h2

/-- What writes, or calls: one step. -/
theorem effA_wp (hN : NamesOk P) {cf : CallF} (hcf : CallOk P cf) {m : Ren} {h h' : AHeap} {w : World} (H : HR m h w) {T : Tr AV} {a : Act} (hF : FR m T a.tmps) {o : Oper} {r : AV} (e : effA P ops n0 o cf h T = some (h', r)) {ro : Option Nat} {n : Nat}
    {K : Act → World → Prop} {Q : Exit → Act → World → Prop} (hK : ∀ m' w' v, HR m' h' w' → VR m' r v → Ext m h w m' h' w' → K (a.put o.dst v) w') : opWp (wideR ro) n P ops o a w K Q := by
  unfold effA at e
  simp only [Option.bind_eq_some_iff] at e
  obtain ⟨b, hb, e⟩ := e
  unfold opWp
  rw [wantA_sim hF hb]
  cases b with
  | false =>
    simp only [cond_false, Option.some.injEq, Prod.mk.injEq] at e
    obtain ⟨rfl, rfl⟩ := e
    rw [if_neg (by simp)]
    exact ⟨fun _ _ => trivial, hK m w _ H (vr_undef m) (Ext.refl _ _ _)⟩
  | true =>
    rw [if_pos rfl]
    refine ⟨fun _ _ => trivial, ?_⟩
    simp only [cond_true] at e
    have hreg : opL P ops n0 o = opK P o.op := by
      rcases opL_cases (ops := ops) (n0 := n0) o with ⟨i, r', hl⟩ | hl | ⟨hr, hi⟩
      · rw [opL_lit hl] at e; cases e
      · rw [opL_ins hl] at e; cases e
      · exact opL_reg hr hi
    rw [hreg] at e
    cases hk : opK P o.op <;> rw [hk] at e <;> first | (cases e; done) | skip
    · rw [semAt_op _ hk (by simp)]
      obtain ⟨m', w', nx, h1, h2, h3, h4⟩ := ope_sim H hF hk e
      rw [h1]
      rcases h2 with ⟨rfl, h2⟩ | ⟨v, rfl, h2⟩
      · have h2 : r = undefA := h2
        subst h2
        exact hK m' w' _ h3 (vr_undef m') h4
      · exact hK m' w' v h3 h2 h4
    · simp only [Option.bind_eq_some_iff] at e
      obtain ⟨⟨ct, A⟩, hc, hr⟩ := e
      rw [semAt_op _ hk (by simp)]
      have hs1 := opc_sim hF hk hc
      have hok := hcf _ _ _ _ _ hr
      cases ct with
      | fn g =>
        obtain ⟨args, p1, p2⟩ := hs1
        obtain ⟨⟨fn, c, q1, q2⟩, q3⟩ := hok m w args H p1
        rw [p2 w, run_callFunc hN q1 q2, Oper.uponIn_enter]
        refine ⟨fun hd => by simp [wideR, Fence.wide] at hd, CallsIn.mono (callsIn_wideR q3) ?_⟩
        intro x w' hx
        cases x with
        | returned v => obtain ⟨m', x1, x2, x3⟩ := hx; exact hK m' w' v x1 x2 x3
        | panicked chain => exact hx.elim
        | outgrown => exact hx.elim
      | yld b =>
        obtain ⟨L, args, p0, p1, p2⟩ := hs1
        obtain ⟨l, f', tmps, assign, body, q1, q2⟩ := hok m w args H p1 L p0
        rw [p2 w, q1, Oper.uponIn_round]
        refine ⟨fun hd => by simp [wideR, Fence.wide] at hd, RoundIn.mono (roundIn_wideR q2) ?_⟩
        intro x w' hx
        cases x with
        | returned v => obtain ⟨m', x1, x2, x3⟩ := hx; exact hK m' w' v x1 x2 x3
        | panicked chain => exact hx.elim
        | outgrown => exact hx.elim

/-- The ways of a step that may come late. -/
theorem preA_cases {g g1 : AHeap} {T : Tr AV} {o : Oper} {r : AV} (e : preA P ops n0 o g T = some (g1, r)) :
    (g1 = g ∧ ((wantA ops o T = some false ∧ r = undefA) ∨ (wantA ops o T = some true ∧ ∃ f, opL P ops n0 o = .q f ∧ f T = some r))) ∨
    (wantA ops o T = some true ∧ ∃ f ob k, opL P ops n0 o = .a f ∧ f T = some (ob, k) ∧ g1 = g.new ob ∧ r = k g.next) := by
  unfold preA at e
  simp only [Option.bind_eq_some_iff] at e
  obtain ⟨b, hb, e⟩ := e
  cases b with
  | false =>
    simp only [cond_false, Option.some.injEq, Prod.mk.injEq] at e
    exact .inl ⟨e.1.symm, .inl ⟨hb, e.2.symm⟩⟩
  | true =>
    simp only [cond_true] at e
    cases hk : opL P ops n0 o <;> rw [hk] at e <;> first | (cases e; done) | skip
    · simp only [Option.map_eq_some_iff, Prod.mk.injEq] at e
      obtain ⟨r', hr, rfl, rfl⟩ := e
      exact .inl ⟨rfl, .inr ⟨hb, _, rfl, hr⟩⟩
    · simp only [Option.map_eq_some_iff, Prod.mk.injEq] at e
      obtain ⟨⟨ob, k⟩, hr, rfl, rfl⟩ := e
      exact .inr ⟨hb, _, ob, k, rfl, hr, rfl, rfl⟩

/-- What needs no memory, done early: one step. -/
theorem preQ_wp {M : Ren} {w : World} {g : AHeap} {T : Tr AV} {a : Act} (hF : FR M T a.tmps) {o : Oper} {r : AV} (hni : litI ops n0 o = false) (e : preA P ops n0 o g T = some (g, r)) (hna : ∀ f, opL P ops n0 o ≠ .a f) {ro : Option Nat} {n : Nat} {K : Act → World → Prop} {Q : Exit → Act → World → Prop}
    (hK : ∀ v, VR M r v → K (a.put o.dst v) w) : opWp (wideR ro) n P ops o a w K Q := by
  unfold opWp
  rcases preA_cases e with ⟨_, ⟨hb, rfl⟩ | ⟨hb, f, hk, hf⟩⟩ | ⟨_, f, _, _, hk, _⟩
  · rw [wantA_sim hF hb, if_neg (by simp)]
    exact ⟨fun _ _ => trivial, hK _ (vr_undef M)⟩
  · rw [wantA_sim hF hb, if_pos rfl]
    refine ⟨fun _ _ => trivial, ?_⟩
    have hreg : opL P ops n0 o = opK P o.op := by
      rcases opL_cases (ops := ops) (n0 := n0) o with ⟨i, r', hl⟩ | hl | ⟨hr, hi⟩
      · rw [opL_lit hl] at hk; cases hk
      · rw [hl] at hni; cases hni
      · exact opL_reg hr hi
    rw [hreg] at hk
    rw [semAt_op _ hk (by simp)]
    obtain ⟨v, h1, h2⟩ := opq_sim hF hk hf
    rw [h1 w]
    exact hK v h2
  · exact absurd hk (hna f)
/-- A new block, laid early: one step. -/
theorem preN_wp {M : Ren} {w : World} {T : Tr AV} {a : Act} (hF : FR M T a.tmps) {o : Oper} (hb : wantA ops o T = some true) {f : Tr AV → Option (AObj × (Bn → AV))} (hk : opK P o.op = .a f) {ob : AObj} {k : Bn → AV} (hf : f T = some (ob, k))
    {ro : Option Nat} {n : Nat} {K : Act → World → Prop} {Q : Exit → Act → World → Prop}
    (hK : ∀ (obj : Obj) (cap : Nat) (vv : Nat → Value), cap = capO ob → (∀ w : World, (execOp a.eval o).run P w = .ok (.value (vv w.heap.size)) (w.alloc obj)) → (∀ B, OR M ⟨B, 0, cap⟩ ob obj) → (∀ (m' : Ren) b B, m' b = some ⟨B, 0, cap⟩ → VR m' (k b) (vv B)) →
      K (a.put o.dst (vv w.heap.size)) (w.alloc obj)) : opWp (wideR ro) n P ops o a w K Q := by
  unfold opWp
  rw [wantA_sim hF hb, if_pos rfl]
  refine ⟨fun _ _ => trivial, ?_⟩
  rw [semAt_op _ hk (by simp)]
  obtain ⟨obj, cap, vv, h0, h1, h2, h3⟩ := opa_sim hF hk hf
  rw [h1 w]
  exact hK obj cap vv h0 h1 h2 h3
end
end Go.Ev

/- Whatever order: what may come next. -/
set_option linter.unusedSimpArgs false
namespace Go.Ev

section
variable {P : Program} {N : Nat} {ops : Array Oper}

def On (listed : Array Bool) (i : Nat) : Prop := listed.getD i false = true
def Closed (t : Tr Nat) (listed : Array Bool) : Prop := ∀ i, On listed i → ∀ j, (anc t i).testBit j = true → On listed j

theorem ready_spec {listed : Array Bool} (hsz : listed.size = ops.size) {i : Nat} (h : i ∈ Region.ready .any ops listed) : i < ops.size ∧ ¬ On listed i ∧ ∃ o, ops[i]? = some o ∧ ∀ e ∈ o.after.toList, Region.binds .any e = true → On listed e.on := by
  simp only [Region.ready, List.mem_filter, List.mem_range, Bool.and_eq_true, Bool.not_eq_true'] at h
  obtain ⟨h1, h2, h3⟩ := h
  refine ⟨h1, ?_, ?_⟩
  · intro hon
    have hlt : i < listed.size := by omega
    simp only [On, Array.getD_eq_getD_getElem?, Array.getElem?_eq_getElem hlt, Option.getD_some] at hon
    simp only [Array.getD_eq_getD_getElem?, Array.getElem?_eq_getElem hlt, Option.getD_some] at h2
    rw [hon] at h2; cases h2
  · rw [Array.getElem?_eq_getElem h1] at h3 ⊢
    refine ⟨_, rfl, ?_⟩
    simp only [Option.map_some, Option.getD_some] at h3
    rw [Array.all_eq_true_iff_forall_mem] at h3
    intro e he hb
    have := h3 e (by simpa using he)
    rw [hb] at this
    simpa [On] using this
theorem ready_anc {listed : Array Bool} (hsz : listed.size = ops.size) (hc : Closed (ancO ops) listed) {i : Nat} (h : i ∈ Region.ready .any ops listed) : ∀ j, (anc (ancO ops) i).testBit j = true → On listed j := by
  obtain ⟨h1, h2, o, ho, h3⟩ := ready_spec hsz h
  intro j hj
  obtain ⟨e, he, hb, h4⟩ := anc_spec ho hj
  rcases h4 with rfl | h4
  · exact h3 e he hb
  · exact hc _ (h3 e he hb) j h4
theorem on_set {listed : Array Bool} {i j : Nat} (hi : i < listed.size) : On (listed.setIfInBounds i true) j ↔ j = i ∨ On listed j := by
  simp only [On, Array.getD_eq_getD_getElem?, Array.getElem?_setIfInBounds]
  by_cases h : i = j
  · subst h; simp [hi]
  · simp [h]; intro e; exact absurd e.symm h
theorem closed_set {listed : Array Bool} (hsz : listed.size = ops.size) (hc : Closed (ancO ops) listed) {i : Nat} (h : i ∈ Region.ready .any ops listed) : Closed (ancO ops) (listed.setIfInBounds i true) := by
  have hi : i < listed.size := by rw [hsz]; exact (ready_spec hsz h).1
  intro k hk j hj
  rw [on_set hi] at hk ⊢
  rcases hk with rfl | hk
  · exact .inr (ready_anc hsz hc h j hj)
  · exact .inr (hc k hk j hj)
end
end Go.Ev
