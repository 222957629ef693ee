/- A verified evaluator of the model, by its parts: regions that draw their order: whatever order is drawn. No condition. -/
import Derived.Test.YthjaoljhgimclaaGreatEvE
set_option linter.unusedVariables false
/- Whatever order: the state between two operations. -/
set_option linter.unusedSimpArgs false
namespace Go.Ev

section
variable {P : Program} {N : Nat} {ops : Array Oper} {n0 : Nat}

/-- Step pre k of the plan lays a block, and gives it this number. -/
def LateAt (P : Program) (ops : Array Oper) (n0 : Nat) (cf : CallF) (Tf : Tr AV) : List Stp → AHeap → Nat → Bn → Prop
  | [], _, _, _ => False
  | .early _ :: l, g, k, b => LateAt P ops n0 cf Tf l g k b
  | .pre i :: l, g, k, b => ∃ o g1 r, ops[i]? = some o ∧ preA P ops n0 o g Tf = some (g1, r) ∧ ((i = k ∧ (∃ f, opL P ops n0 o = .a f) ∧ wantA ops o Tf = some true ∧ b = g.next) ∨ (i ≠ k ∧ LateAt P ops n0 cf Tf l g1 k b))
  | .eff i _ :: l, g, k, b => ∃ o g1 r, ops[i]? = some o ∧ effA P ops n0 o cf g Tf = some (g1, r) ∧ LateAt P ops n0 cf Tf l g1 k b

theorem preA_next {g g1 : AHeap} {T : Tr AV} {o : Oper} {r : AV} (e : preA P ops n0 o g T = some (g1, r)) : g.next.toNat ≤ g1.next.toNat ∧ ((∃ f, opL P ops n0 o = .a f) → wantA ops o T = some true → g1.next.toNat = g.next.toNat + 1) := by
  rcases preA_cases e with ⟨rfl, h⟩ | ⟨_, f, ob, k, _, _, rfl, _⟩
  · refine ⟨Nat.le_refl _, fun ⟨f, hf⟩ hw => ?_⟩
    rcases h with ⟨hb, _⟩ | ⟨_, f', hk, _⟩
    · rw [hb] at hw; cases hw
    · rw [hf] at hk; cases hk
  · simp only [AHeap.new, Bn.toNat_succ]
    exact ⟨by omega, fun _ _ => by trivial⟩

theorem LateAt.ge {cf : CallF} {Tf : Tr AV} {g' : AHeap} : ∀ {l : List Stp} {g : AHeap} {k : Nat} {b : Bn} (_ : Fct P N ops n0 cf Tf g' l g) (_ : LateAt P ops n0 cf Tf l g k b), g.next.toNat ≤ b.toNat
  | [], _, _, _, _, h => h.elim
  | .early _ :: l, g, k, b, hf, h => LateAt.ge hf.2 h
  | .pre i :: l, g, k, b, hf, h => by
    obtain ⟨o, g1, r, ho, he, h⟩ := h
    obtain ⟨o', r', g1', ho', he', _, hf⟩ := hf
    rw [ho] at ho'; cases ho'
    rw [he] at he'; cases he'
    rcases h with ⟨_, _, _, rfl⟩ | ⟨_, h⟩
    · exact Nat.le_refl _
    · exact Nat.le_trans (preA_next he).1 (LateAt.ge hf h)
  | .eff i chk :: l, g, k, b, hf, h => by
    obtain ⟨o, g1, r, ho, he, h⟩ := h
    obtain ⟨o', r', g1', ho', he', _, _, hn, hf⟩ := hf
    rw [ho] at ho'; cases ho'
    rw [he] at he'; cases he'
    exact Nat.le_trans hn (LateAt.ge hf h)

theorem LateAt.uniq {cf : CallF} {Tf : Tr AV} {g' : AHeap} : ∀ {l : List Stp} {g : AHeap} {k k' : Nat} {b b' : Bn} (_ : Fct P N ops n0 cf Tf g' l g) (_ : LateAt P ops n0 cf Tf l g k b) (_ : LateAt P ops n0 cf Tf l g k' b'), (k = k' ↔ b = b')
  | [], _, _, _, _, _, _, h, _ => h.elim
  | .early _ :: l, g, k, k', b, b', hf, h, h' => LateAt.uniq hf.2 h h'
  | .pre i :: l, g, k, k', b, b', hf, h, h' => by
    obtain ⟨o, g1, r, ho, he, h⟩ := h
    obtain ⟨o', g1', r', ho', he', h'⟩ := h'
    rw [ho] at ho'; cases ho'
    rw [he] at he'; cases he'
    obtain ⟨o'', r'', g1'', ho'', he'', _, hf⟩ := hf
    rw [ho] at ho''; cases ho''
    rw [he] at he''; cases he''
    have hnx := preA_next he
    rcases h with ⟨rfl, ha, hw, rfl⟩ | ⟨hne, h⟩
    · rcases h' with ⟨rfl, _, _, rfl⟩ | ⟨hne', h'⟩
      · simp
      · have h1 := hnx.2 ha hw
        have h2 := LateAt.ge hf h'
        constructor
        · intro e; exact absurd e hne'
        · intro e; rw [← e] at h2; omega
    · rcases h' with ⟨rfl, ha', hw', rfl⟩ | ⟨hne', h'⟩
      · have h1 := hnx.2 ha' hw'
        have h2 := LateAt.ge hf h
        constructor
        · intro e; exact absurd e.symm hne
        · intro e; rw [e] at h2; omega
      · exact LateAt.uniq hf h h'
  | .eff i chk :: l, g, k, k', b, b', hf, h, h' => by
    obtain ⟨o, g1, r, ho, he, h⟩ := h
    obtain ⟨o', g1', r', ho', he', h'⟩ := h'
    rw [ho] at ho'; cases ho'
    rw [he] at he'; cases he'
    obtain ⟨o'', r'', g1'', ho'', he'', _, _, hn, hf⟩ := hf
    rw [ho] at ho''; cases ho''
    rw [he] at he''; cases he''
    exact LateAt.uniq hf h h'
end
end Go.Ev

/- Whatever order: two renamings at once. -/
set_option linter.unusedSimpArgs false
namespace Go.Ev

def Ren.or (m M : Ren) : Ren := fun b => match m b with | some L => some L | none => M b
theorem Ren.le_or (m M : Ren) : m.le (m.or M) := fun b L h => by simp [Ren.or, h]
theorem Ren.or_le {m m' M : Ren} (hm : m.le m') (hM : ∀ b L, M b = some L → m b = some L ∨ m' b = none) : M.le (m'.or M) := by
  intro b L h
  rcases hM b L h with h1 | h1
  · simp [Ren.or, hm _ _ h1]
  · simp [Ren.or, h1, h]
theorem Ren.or_some {m M : Ren} {b : Bn} {L : Loc} (h : (m.or M) b = some L) : m b = some L ∨ (m b = none ∧ M b = some L) := by
  simp only [Ren.or] at h
  cases hm : m b with
  | some L' => rw [hm] at h; simp only [Option.some.injEq] at h; exact .inl (by rw [h])
  | none => rw [hm] at h; exact .inr ⟨rfl, h⟩

section
variable {ops : Array Oper} {Tf : Tr AV} {m m' : Ren}
theorem SlotR.mono (hm : m.le m') {i : Nat} {a : Act} (h : SlotR ops Tf m i a) : SlotR ops Tf m' i a := fun o d ho hd => let ⟨A, v, h1, h2, h3⟩ := h o d ho hd; ⟨A, v, h1, h2, h3.mono hm⟩
theorem ExtR.mono (hm : m.le m') {n0 : Nat} {a : Act} (h : ExtR ops n0 Tf m a) : ExtR ops n0 Tf m' a := fun t A ht hg => let ⟨v, h1, h2⟩ := h t A ht hg; ⟨v, h1, h2.mono hm⟩
end
end Go.Ev

/- Whatever order: slots are laid. -/
set_option linter.unusedSimpArgs false
namespace Go.Ev

section
variable {N : Nat} {ops : Array Oper} {Tf : Tr AV} {m : Ren}

theorem apartO_spec : ∀ {l : List Nat} {s : Nat} (_ : apartO ops l s = true) {i : Nat} (_ : i ∈ l) {d : Nat} (_ : (dstM ops i).testBit d = true), s.testBit d = false
  | k :: l, s, h, i, hi, d, hd => by
    simp only [apartO, Bool.and_eq_true] at h
    cases hi with
    | head => exact bit_and_zero h.1 hd
    | tail _ hi =>
      have := apartO_spec h.2 hi hd
      simp only [Nat.testBit_or, Bool.or_eq_false_iff] at this
      exact this.2
theorem apartO_ne : ∀ {l : List Nat} {s : Nat} (_ : apartO ops l s = true) (_ : l.Nodup) {i k : Nat} (_ : i ∈ l) (_ : k ∈ l) (_ : i ≠ k) {d : Nat} (_ : (dstM ops i).testBit d = true), (dstM ops k).testBit d = false
  | x :: l, s, h, hn, i, k, hi, hk, hne, d, hd => by
    simp only [apartO, Bool.and_eq_true] at h
    rw [List.nodup_cons] at hn
    cases hi with
    | head =>
      cases hk with
      | head => exact absurd rfl hne
      | tail _ hk =>
        cases hb : (dstM ops k).testBit d with
        | false => rfl
        | true =>
          have := apartO_spec h.2 hk hb
          simp [Nat.testBit_or, hd] at this
    | tail _ hi =>
      cases hk with
      | head =>
        have := apartO_spec h.2 hi hd
        simp only [Nat.testBit_or, Bool.or_eq_false_iff] at this
        exact this.1
      | tail _ hk => exact apartO_ne h.2 hn.2 hi hk hne hd
theorem dst_ne {n0 : Nat} (h : apartO ops (List.range n0) 0 = true) {i k : Nat} (hi : i < n0) (hk : k < n0) (hne : i ≠ k) {o o' : Oper} (ho : ops[i]? = some o) (ho' : ops[k]? = some o') {d : Tmp} (hd : o.dst = some d) : o'.dst ≠ some d := by
  intro hd'
  have := apartO_ne h List.nodup_range (by simpa using hi) (by simpa using hk) hne (dstM_bit ho hd)
  rw [dstM_bit ho' hd'] at this; cases this

theorem put_other {a : Act} {dst : Option Tmp} {v : Value} {d : Tmp} (h : dst ≠ some d) : (a.put dst v).tmps[d]? = a.tmps[d]? := by
  cases dst with
  | none => rfl
  | some d' =>
    simp only [Act.put]
    rw [Array.getElem?_setIfInBounds, if_neg fun e => h (by rw [e])]
theorem SlotR.put {i : Nat} {a : Act} (h : SlotR ops Tf m i a) {dst : Option Tmp} {v : Value} (hne : ∀ o d, ops[i]? = some o → o.dst = some d → dst ≠ some d) : SlotR ops Tf m i (a.put dst v) := by
  intro o d ho hd
  obtain ⟨A, u, h1, h2, h3⟩ := h o d ho hd
  exact ⟨A, u, h1, by rw [put_other (hne o d ho hd)]; exact h2, h3⟩
theorem SlotR.self {i : Nat} {a : Act} {o : Oper} (ho : ops[i]? = some o) {r : AV} (hd : DstIs N Tf o r) (hs : a.tmps.size = N) {v : Value} (hv : VR m r v) : SlotR ops Tf m i (a.put o.dst v) := by
  intro o' d ho' hd'
  rw [ho] at ho'; cases ho'
  obtain ⟨h1, h2⟩ := hd d hd'
  refine ⟨r, v, h1, ?_, hv⟩
  have h2 : (d : Nat) < a.tmps.size := by rw [hs]; exact h2
  simp [Act.put, hd', h2]
theorem ExtR.put {n0 : Nat} {a : Act} (h : ExtR ops n0 Tf m a) {i : Nat} (hi : i < n0) {o : Oper} (ho : ops[i]? = some o) {v : Value} : ExtR ops n0 Tf m (a.put o.dst v) := by
  intro t A ht hg
  obtain ⟨u, h1, h2⟩ := h t A ht hg
  exact ⟨u, by rw [put_other (ht i o hi ho)]; exact h1, h2⟩
theorem put_size {a : Act} {dst : Option Tmp} {v : Value} : (a.put dst v).tmps.size = a.tmps.size ∧ (a.put dst v).defers = a.defers := by
  cases dst <;> simp [Act.put]
end
end Go.Ev

/- Whatever order: what a smaller renaming knows. -/
set_option linter.unusedSimpArgs false
namespace Go.Ev

section
variable {m M : Ren}

/-- What a value stands for, in a smaller renaming that knows its blocks. -/
theorem VR.back (hm : m.le M) {a : AV} {v v' : Value} (h : VR m a v') (h' : VR M a v) : VR m a v := by
  induction h generalizing v with
  | bool b => rw [vr_bool h']; exact .bool b
  | int k n => rw [vr_int h']; exact .int k n
  | str s => rw [vr_str h']; exact .str s
  | nilp => rw [vr_nilp h']; exact .nilp
  | ptr b off L h =>
    cases h' with
    | ptr _ _ L' h' => rw [hm _ _ h] at h'; cases h'; exact .ptr b off L h
  | nilsl => rw [vr_nilsl h']; exact .nilsl
  | esl a c => obtain ⟨a', c', rfl⟩ := vr_esl h'; exact .esl a' c'
  | sl b off len cp c L h hc =>
    obtain ⟨L', c', h2, hc', rfl⟩ := vr_sl h'
    rw [hm _ _ h] at h2; cases h2
    exact .sl b off len cp c' L h hc'
  | nilmap => rw [vr_nilmap h']; exact .nilmap
  | map b L h =>
    obtain ⟨L', h2, rfl⟩ := vr_map h'
    rw [hm _ _ h] at h2; cases h2
    exact .map b L h
  | fn f l l' c c' hf hl _ hl' _ ih ih' =>
    obtain ⟨d, d', rfl, _, h1, h2⟩ := vr_fn.1 h'
    have h1 := all2_index.1 h1
    have h2 := all2_index.1 h2
    exact .fn f l l' d d' hf h1.1 (fun i x y => ih i x (by omega) (h1.2 i x y)) h2.1 (fun i x y => ih' i x (by omega) (h2.2 i x y))
  | yld b L h =>
    obtain ⟨L', h2, rfl⟩ := vr_yld h'
    rw [hm _ _ h] at h2; cases h2
    exact .yld b L h
  | nilf => rw [vr_nilf h']; exact .nilf
  | ifc t a v _ ih =>
    obtain ⟨x, rfl, hx⟩ := vr_ifc h'
    exact .ifc t a x (ih hx)
  | nili => rw [vr_nili h']; exact .nili
  | agg l c hl _ ih =>
    obtain ⟨d, rfl, h1⟩ := vr_agg.1 h'
    have h1 := all2_index.1 h1
    exact .agg l d h1.1 (fun i x y => ih i x (by omega) (h1.2 i x y))
  | tup l c hl _ ih =>
    obtain ⟨d, rfl, h1⟩ := vr_tup.1 h'
    have h1 := all2_index.1 h1
    exact .tup l d h1.1 (fun i x y => ih i x (by omega) (h1.2 i x y))
theorem VRs.back (hm : m.le M) : ∀ {l : List AV} {c c' : List Value}, VRs m l c' → VRs M l c → VRs m l c
  | [], [], _, _, _ => trivial
  | a :: l, x :: c, y :: c', h, h' => ⟨VR.back hm h.1 h'.1, VRs.back hm h.2 h'.2⟩
  | [], _ :: _, _, _, h => h.elim
  | _ :: _, [], _, _, h => h.elim
  | _ :: _, _ :: _, [], h, _ => h.elim
theorem MapR.back (hm : m.le M) {l : List (AV × AV)} {es es' : List MapEntry} (h : MapR m l es') (h' : MapR M l es) : MapR m l es := by
  obtain ⟨x, hx, hax⟩ := h
  obtain ⟨y, hy, hay⟩ := h'
  refine ⟨y, hy, ?_⟩
  clear hx hy
  induction l generalizing x y with
  | nil => rw [hay.nil_left]; trivial
  | cons p l ih =>
    obtain ⟨e, x, rfl, h1, h2⟩ := hax.cons_left
    obtain ⟨e', y, rfl, h1', h2'⟩ := hay.cons_left
    exact ⟨⟨VR.back hm h1.1 h1'.1, VR.back hm h1.2 h1'.2⟩, ih _ h2 _ h2'⟩
/-- Blocks that operations lay. -/
def Laid : AObj → Prop
  | .cells .. => True
  | .map _ => True
  | _ => False
theorem OR.back (hm : m.le M) {L : Loc} {o : AObj} {ob ob' : Obj} (hl : Laid o) (h : OR m L o ob') (h' : OR M L o ob) : OR m L o ob := by
  cases o with
  | cells esz el =>
    cases ob <;> first | exact h'.elim | skip
    cases ob' <;> first | exact h.elim | skip
    exact ⟨h'.1, h'.2.1, h'.2.2.1, h'.2.2.2.1, h'.2.2.2.2.1, VRs.back hm h.2.2.2.2.2 h'.2.2.2.2.2⟩
  | map l =>
    cases ob <;> first | exact h'.elim | skip
    cases ob' <;> first | exact h.elim | skip
    exact MapR.back hm h h'
  | loop => exact hl.elim
  | deferred => exact hl.elim
end

section
variable {P : Program}
theorem opa_laid {op : Op} {f : Tr AV → Option (AObj × (Bn → AV))} (hk : opK P op = .a f) {T : Tr AV} {ob : AObj} {k : Bn → AV} (e : f T = some (ob, k)) : Laid ob := by
  cases op with
  | alloc t =>
    simp only [opK, OpK.a.injEq] at hk; subst hk
    simp only [Option.bind_eq_some_iff] at e
    obtain ⟨z, hz, e⟩ := e
    rw [(oneA_spec e).2.1]; trivial
  | box t x =>
    simp only [opK, OpK.a.injEq] at hk; subst hk
    simp only [Option.bind_eq_some_iff] at e
    obtain ⟨z, hz, e⟩ := e
    rw [(oneA_spec e).2.1]; trivial
  | buildSlice t len ps =>
    simp only [opK, OpK.a.injEq] at hk; subst hk
    simp only [bsA, Option.bind_eq_some_iff] at e
    obtain ⟨sz, _, z, _, e⟩ := e
    obtain ⟨_, e⟩ := cond_bind.1 e
    simp only [Option.bind_eq_some_iff, Option.some.injEq, Prod.mk.injEq] at e
    obtain ⟨el, _, rfl, _⟩ := e
    trivial
  | makeMap t r =>
    cases r with
    | some r => simp [opK] at hk
    | none =>
      simp only [opK, OpK.a.injEq] at hk; subst hk
      simp only [Option.some.injEq, Prod.mk.injEq] at e
      rw [← e.1]; trivial
  | makeSlice t l c =>
    simp only [opK, OpK.a.injEq] at hk; subst hk
    simp only [Option.bind_eq_some_iff] at e
    obtain ⟨A, hA, B, hB, e⟩ := e
    simp only [msA, Option.bind_eq_some_iff] at e
    obtain ⟨sz, _, by_, _, z, _, e⟩ := e
    split at e
    case h_2 => cases e
    obtain ⟨_, e⟩ := cond_some.1 e
    simp only [Prod.mk.injEq] at e
    rw [← e.1]; trivial
  | binOp op t x y yt => simp only [opK] at hk; cases op <;> simp at hk
  | call c =>
    simp only [opK] at hk
    cases hc : c.callee with
    | value g => simp only [hc, reduceCtorEq] at hk
    | invoke r n => simp only [hc, reduceCtorEq] at hk
    | builtin b =>
      simp only [hc] at hk
      unfold blK at hk
      split at hk
      all_goals (first | (cases hk; done) | (split at hk <;> cases hk; done) | (split at hk <;> first | (cases hk; done) | (revert hk; generalize isMapK _ = bb; cases bb <;> (intro hk; cases hk))))
  | _ => simp [opK] at hk
end
end Go.Ev

/- Whatever order: the state between two operations. -/
set_option linter.unusedSimpArgs false
namespace Go.Ev

/-- No early step just behind one that may come late. -/
def noEP : List Stp → Bool
  | .pre _ :: .early _ :: _ => false
  | _ :: l => noEP l
  | [] => true
theorem noEP_tail {s : Stp} {l : List Stp} (h : noEP (s :: l) = true) : noEP l = true := by
  cases s <;> cases l <;> first | rfl | skip
  all_goals (rename_i s' l'; cases s' <;> first | exact h | (cases h; done) | skip)

section
variable {P : Program} {N : Nat} {ops : Array Oper} {n0 : Nat}

theorem bit_or_self {d i : Nat} : (d ||| 2 ^ i).testBit i = true := by rw [Nat.testBit_or, Nat.testBit_two_pow]; simp
theorem bit_or_ne {d i j : Nat} (h : i ≠ j) : (d ||| 2 ^ i).testBit j = d.testBit j := by
  rw [Nat.testBit_or, Nat.testBit_two_pow]; simp [h]
theorem bit_or_iff {d i j : Nat} : (d ||| 2 ^ i).testBit j = true ↔ j = i ∨ d.testBit j = true := by
  by_cases h : i = j
  · subst h; simp [bit_or_self]
  · rw [bit_or_ne h]; constructor
    · exact .inr
    · rintro (e | e); exact absurd e.symm h; exact e
theorem sub_bit {a b : Nat} (h : Nat.beq (a &&& b) a = true) {i : Nat} (hi : a.testBit i = true) : b.testBit i = true := by
  have h := Nat.beq_eq.mp h
  have := congrArg (fun x => x.testBit i) h
  simp only [Nat.testBit_and, hi, Bool.true_and] at this
  exact this

/-- What a checked plan says of its first step. -/
theorem ck_head {t : Tr Nat} {done effs : Nat} {rs : List Nat} {s : Stp} {l : List Stp} (h : ckP P ops n0 t (s :: l) done effs rs = true) :
    s.i < n0 ∧ done.testBit s.i = false ∧ lookOk ops n0 l s.i = true ∧ ∃ effs' rs', ckP P ops n0 t l (done ||| 2 ^ s.i) effs' rs' = true ∧ (∀ i, effs.testBit i = true → effs'.testBit i = true) := by
  cases s with
  | early i =>
    simp only [ckP, Bool.and_eq_true, blt_iff, Bool.not_eq_true'] at h
    obtain ⟨⟨⟨⟨⟨c0, c1⟩, c2⟩, c3⟩, c4⟩, c5⟩ := h
    exact ⟨c0, c1, c4, _, _, c5, fun _ h => h⟩
  | pre i =>
    simp only [ckP, Bool.and_eq_true, blt_iff, Bool.not_eq_true'] at h
    obtain ⟨⟨⟨⟨⟨⟨c0, c1⟩, c2⟩, c3⟩, c4⟩, c6⟩, c5⟩ := h
    exact ⟨c0, c1, c4, _, _, c5, fun _ h => h⟩
  | eff i chk =>
    simp only [ckP, Bool.and_eq_true, blt_iff, Bool.not_eq_true'] at h
    obtain ⟨⟨⟨⟨⟨⟨⟨c0, c1⟩, c2⟩, c3⟩, c4⟩, c5⟩, c6⟩, c7⟩ := h
    exact ⟨c0, c1, c4, _, _, c7, fun i h => by rw [Nat.testBit_or, h]; rfl⟩
/-- Steps are of operations that are not done. -/
theorem ck_mem {t : Tr Nat} : ∀ {l : List Stp} {done effs : Nat} {rs : List Nat} (_ : ckP P ops n0 t l done effs rs = true) {s : Stp} (_ : s ∈ l), s.i < n0 ∧ done.testBit s.i = false
  | s' :: l, done, effs, rs, h, s, hs => by
    obtain ⟨h1, h2, _, e', r', h3, _⟩ := ck_head h
    cases hs with
    | head => exact ⟨h1, h2⟩
    | tail _ hs =>
      obtain ⟨g1, g2⟩ := ck_mem h3 hs
      refine ⟨g1, ?_⟩
      cases hd : done.testBit s.i with
      | false => rfl
      | true => rw [bit_or_iff.2 (.inr hd)] at g2; cases g2
/-- No operation has two steps. -/
theorem ck_once {t : Tr Nat} {done effs : Nat} {rs : List Nat} {s s' : Stp} {l : List Stp} (h : ckP P ops n0 t (s :: l) done effs rs = true) (hs : s' ∈ l) : s'.i ≠ s.i := by
  obtain ⟨_, _, _, e', r', h3, _⟩ := ck_head h
  obtain ⟨_, g2⟩ := ck_mem h3 hs
  intro e
  rw [e, bit_or_self] at g2; cases g2
/-- Whoever is not done has a step. -/
theorem ck_all {t : Tr Nat} : ∀ {l : List Stp} {done effs : Nat} {rs : List Nat} (_ : ckP P ops n0 t l done effs rs = true) {i : Nat} (_ : i < n0), done.testBit i = true ∨ ∃ s ∈ l, s.i = i
  | [], done, effs, rs, h, i, hi => by
    simp only [ckP, List.all_eq_true] at h
    exact .inl (h i (by simpa using hi))
  | s :: l, done, effs, rs, h, i, hi => by
    obtain ⟨_, _, _, e', r', h3, _⟩ := ck_head h
    rcases ck_all h3 hi with h | ⟨s', hs, e⟩
    · rcases bit_or_iff.1 h with rfl | h
      · exact .inr ⟨s, List.mem_cons_self, rfl⟩
      · exact .inl h
    · exact .inr ⟨s', List.mem_cons_of_mem _ hs, e⟩
/-- What writes comes behind all that wrote. -/
theorem ck_effs {t : Tr Nat} : ∀ {l : List Stp} {done effs : Nat} {rs : List Nat} (_ : ckP P ops n0 t l done effs rs = true) {i : Nat} (_ : .early i ∈ l ∨ ∃ c, .eff i c ∈ l) {e : Nat} (_ : effs.testBit e = true), (anc t i).testBit e = true
  | s :: l, done, effs, rs, h, i, hi, e, he => by
    have rest : (.early i ∈ l ∨ ∃ c, .eff i c ∈ l) → (anc t i).testBit e = true := by
      intro hl
      obtain ⟨_, _, _, e', r', h3, h4⟩ := ck_head h
      exact ck_effs h3 hl (h4 e he)
    rcases hi with hi | ⟨c, hi⟩
    · cases hi with
      | head =>
        simp only [ckP, Bool.and_eq_true, blt_iff, Bool.not_eq_true'] at h
        exact sub_bit h.1.1.1.2 he
      | tail _ hi => exact rest (.inl hi)
    · cases hi with
      | head =>
        simp only [ckP, Bool.and_eq_true, blt_iff, Bool.not_eq_true'] at h
        exact sub_bit h.1.1.1.1.1.2 he
      | tail _ hi => exact rest (.inr ⟨c, hi⟩)
/-- What a step looks at is laid by none of the steps from it on. -/
theorem ck_look {t : Tr Nat} : ∀ {l : List Stp} {done effs : Nat} {rs : List Nat} (_ : ckP P ops n0 t l done effs rs = true) {i : Nat} (_ : ∃ s ∈ l, s.i = i), ∃ o, ops[i]? = some o
  | s :: l, done, effs, rs, h, i, hi => by
    obtain ⟨s', hs, rfl⟩ := hi
    obtain ⟨_, _, h2, e', r', h3, _⟩ := ck_head h
    cases hs with
    | head => obtain ⟨o, ho, _⟩ := lookOk_spec h2; exact ⟨o, ho⟩
    | tail _ hs => exact ck_look h3 ⟨s', hs, rfl⟩

theorem LateAt.mem {cf : CallF} {Tf : Tr AV} : ∀ {l : List Stp} {g : AHeap} {k : Nat} {b : Bn} (_ : LateAt P ops n0 cf Tf l g k b), .pre k ∈ l ∧ ∃ o f, ops[k]? = some o ∧ opL P ops n0 o = .a f ∧ wantA ops o Tf = some true
  | [], _, _, _, h => h.elim
  | .early _ :: l, g, k, b, h => ⟨List.mem_cons_of_mem _ (LateAt.mem (l := l) h).1, (LateAt.mem (l := l) h).2⟩
  | .pre i :: l, g, k, b, h => by
    obtain ⟨o, g1, r, ho, he, h⟩ := h
    rcases h with ⟨rfl, ⟨f, hf⟩, hw, _⟩ | ⟨_, h⟩
    · exact ⟨List.mem_cons_self, o, f, ho, hf, hw⟩
    · exact ⟨List.mem_cons_of_mem _ (LateAt.mem h).1, (LateAt.mem h).2⟩
  | .eff i chk :: l, g, k, b, h => by
    obtain ⟨o, g1, r, ho, he, h⟩ := h
    exact ⟨List.mem_cons_of_mem _ (LateAt.mem h).1, (LateAt.mem h).2⟩
/-- A step that lays a block has its number. -/
theorem LateAt.ex {cf : CallF} {Tf : Tr AV} {g' : AHeap} {k : Nat} {o : Oper} (ho : ops[k]? = some o) {f : Tr AV → Option (AObj × (Bn → AV))} (hk : opL P ops n0 o = .a f) (hw : wantA ops o Tf = some true) : ∀ {l : List Stp} {g : AHeap} (_ : Fct P N ops n0 cf Tf g' l g) (_ : .pre k ∈ l),
    ∃ b ob kk, LateAt P ops n0 cf Tf l g k b ∧ f Tf = some (ob, kk) ∧ DstIs N Tf o (kk b)
  | .early i :: l, g, hf, h => by
    cases h with
    | tail _ h => exact LateAt.ex ho hk hw (l := l) hf.2 h
  | .pre i :: l, g, hf, h => by
    obtain ⟨o', r, g1, ho', hp, hd, hf⟩ := hf
    by_cases hik : i = k
    · subst hik
      rw [ho] at ho'; cases ho'
      rcases preA_cases hp with ⟨_, ⟨hb, _⟩ | ⟨_, f', hk', _⟩⟩ | ⟨hb, f', ob, kk, hk', hf', rfl, rfl⟩
      · rw [hb] at hw; cases hw
      · rw [hk] at hk'; cases hk'
      · rw [hk] at hk'; cases hk'
        exact ⟨g.next, ob, kk, ⟨o, _, _, ho, hp, .inl ⟨rfl, ⟨f, hk⟩, hb, rfl⟩⟩, hf', hd⟩
    · cases h with
      | head => exact absurd rfl hik
      | tail _ h =>
        obtain ⟨b, ob, kk, h1, h2, h3⟩ := LateAt.ex ho hk hw hf h
        exact ⟨b, ob, kk, ⟨o', g1, r, ho', hp, .inr ⟨hik, h1⟩⟩, h2, h3⟩
  | .eff i c :: l, g, hf, h => by
    obtain ⟨o', r, g1, ho', hp, hd, _, _, hf⟩ := hf
    cases h with
    | tail _ h =>
      obtain ⟨b, ob, kk, h1, h2, h3⟩ := LateAt.ex ho hk hw hf h
      exact ⟨b, ob, kk, ⟨o', g1, r, ho', hp, h1⟩, h2, h3⟩
/-- What a plan says of a step that may come late. -/
theorem fct_pre {cf : CallF} {Tf : Tr AV} {g' : AHeap} {k : Nat} : ∀ {l : List Stp} {g : AHeap} (_ : Fct P N ops n0 cf Tf g' l g) (_ : .pre k ∈ l), ∃ o r g1 g2, ops[k]? = some o ∧ preA P ops n0 o g1 Tf = some (g2, r) ∧ DstIs N Tf o r
  | .early i :: l, g, hf, h => by
    cases h with
    | tail _ h => exact fct_pre (l := l) hf.2 h
  | .pre i :: l, g, hf, h => by
    obtain ⟨o', r, g1, ho', hp, hd, hf⟩ := hf
    cases h with
    | head => exact ⟨o', r, g, g1, ho', hp, hd⟩
    | tail _ h => exact fct_pre hf h
  | .eff i c :: l, g, hf, h => by
    obtain ⟨o', r, g1, ho', hp, hd, _, _, hf⟩ := hf
    cases h with
    | tail _ h => exact fct_pre hf h
theorem ck_uniq {t : Tr Nat} : ∀ {l : List Stp} {done effs : Nat} {rs : List Nat} (_ : ckP P ops n0 t l done effs rs = true) {s s' : Stp} (_ : s ∈ l) (_ : s' ∈ l) (_ : s.i = s'.i), s = s'
  | x :: l, done, effs, rs, h, s, s', hs, hs', e => by
    obtain ⟨_, _, _, e', r', h3, _⟩ := ck_head h
    cases hs with
    | head =>
      cases hs' with
      | head => rfl
      | tail _ hs' => exact absurd e.symm (ck_once h hs')
    | tail _ hs =>
      cases hs' with
      | head => exact absurd e (ck_once h hs)
      | tail _ hs' => exact ck_uniq h3 hs hs' e
theorem dmask_mem : ∀ {l : List Stp} {s : Stp} (_ : s ∈ l) {d : Nat} (_ : (dstM ops s.i).testBit d = true), (dmask ops l).testBit d = true
  | x :: l, s, hs, d, hd => by
    simp only [dmask, Nat.testBit_or, Bool.or_eq_true]
    cases hs with
    | head => exact .inl hd
    | tail _ hs => exact .inr (dmask_mem hs hd)

/-- What is in a literal's map. -/
noncomputable def partL (ops : Array Oper) (n0 : Nat) (Tf : Tr AV) (listed : Array Bool) (o : Oper) : List (AV × AV) := ((litIx ops n0 o).filter fun i => listed.getD i false).filterMap (entO ops Tf)
/-- What stands in a block that came late. -/
def LObj (P : Program) (ops : Array Oper) (n0 : Nat) (Tf : Tr AV) (listed : Array Bool) (M : Ren) (k : Nat) (L : Loc) (obj : Obj) : Prop :=
  ∀ o f ob kk, ops[k]? = some o → opL P ops n0 o = .a f → f Tf = some (ob, kk) → L.d = 0 ∧ L.cap = capO ob ∧ (litIx ops n0 o = [] → OR M L ob obj) ∧ (litIx ops n0 o ≠ [] → ∃ es ck, obj = .map es ck ∧ MapR M (partL ops n0 Tf listed o) es.toList)
theorem LObj.mono {Tf : Tr AV} {listed : Array Bool} {M M' : Ren} (hM : M.le M') {k : Nat} {L : Loc} {obj : Obj} (h : LObj P ops n0 Tf listed M k L obj) : LObj P ops n0 Tf listed M' k L obj := by
  intro o f ob kk h1 h2 h3
  obtain ⟨a, b, c, d⟩ := h o f ob kk h1 h2 h3
  exact ⟨a, b, fun e => (c e).mono hM, fun e => let ⟨es, ck, x, y⟩ := d e; ⟨es, ck, x, y.mono hM⟩⟩
/-- Whoever is no insertion of the literal changes nothing in it. -/
theorem partL_same {Tf : Tr AV} {listed : Array Bool} {o : Oper} {i : Nat} (h : ∀ j ∈ litIx ops n0 o, j ≠ i) : partL ops n0 Tf (listed.setIfInBounds i true) o = partL ops n0 Tf listed o := by
  unfold partL
  congr 1
  refine List.filter_congr fun j hj => ?_
  have hne : ¬ i = j := fun e => h j hj e.symm
  simp only [Array.getD_eq_getD_getElem?, Array.getElem?_setIfInBounds, if_neg hne]
theorem LObj.same {Tf : Tr AV} {listed : Array Bool} {M : Ren} {k i : Nat} {L : Loc} {obj : Obj} (hi : ∀ o, ops[k]? = some o → ∀ j ∈ litIx ops n0 o, j ≠ i) (h : LObj P ops n0 Tf listed M k L obj) : LObj P ops n0 Tf (listed.setIfInBounds i true) M k L obj := by
  intro o f ob kk h1 h2 h3
  obtain ⟨a, b, c, d⟩ := h o f ob kk h1 h2 h3
  exact ⟨a, b, c, by rw [partL_same (hi o h1)]; exact d⟩

/-- **The state between two operations.** -/
structure St (P : Program) (N : Nat) (ops : Array Oper) (n0 : Nat) (cf : CallF) (Tf : Tr AV) (g' : AHeap) (m0 : Ren) (h0 : AHeap) (w0 : World) (ds : List Deferred) (R : Prop) (l : List Stp) (done effs : Nat) (rs : List Nat) (g : AHeap) (m M : Ren) (listed : Array Bool) (a : Act) (w : World) : Prop where
  H : HR m g w
  le : m.le M
  sz : a.tmps.size = N
  dfr : a.defers = ds
  ext : ExtR ops n0 Tf m a
  lsz : listed.size = ops.size
  cl : Closed (ancO ops) listed
  fct : Fct P N ops n0 cf Tf g' l g
  ck : ckP P ops n0 (ancO ops) l done effs rs = true
  np : noEP l = true
  x0 : Ext m0 h0 w0 m g w
  low : ∀ i, On listed i → i < n0
  dn : ∀ i, i < n0 → done.testBit i = true → (On listed i → SlotR ops Tf m i a) ∧ (¬ On listed i → (R ∨ clsO P ops n0 i = 0 → QRF P N ops n0 Tf g i) ∧ Free ops n0 l i ∧ clsO P ops n0 i ≤ 1 ∧ (clsO P ops n0 i = 1 → i ∈ rs))
  lt : ∀ i, .pre i ∈ l → On listed i → SlotR ops Tf M i a
  no : ∀ i, (.early i ∈ l ∨ ∃ c, .eff i c ∈ l) → ¬ On listed i
  dom : ∀ b L, M b = some L → m b = some L ∨ ∃ k, On listed k ∧ LateAt P ops n0 cf Tf l g k b
  li : ∀ k b, LateAt P ops n0 cf Tf l g k b → On listed k → ∃ L obj, M b = some L ∧ w.heap[L.blk]? = some obj ∧ ¬ Im m g L.blk ∧ w0.heap.size ≤ L.blk ∧
    LObj P ops n0 Tf listed M k L obj
  lits : ∀ k j, done.testBit k = true → j ∈ litO ops n0 k → On listed j
  ld : ∀ k b k' b' L L', LateAt P ops n0 cf Tf l g k b → On listed k → LateAt P ops n0 cf Tf l g k' b' → On listed k' → M b = some L → M b' = some L' → L.blk = L'.blk → b = b'
end
end Go.Ev

/- Whatever order: steps are passed, blocks are released. -/
set_option linter.unusedSimpArgs false
namespace Go.Ev

section
variable {P : Program} {N : Nat} {ops : Array Oper} {n0 : Nat}

theorem qrf_pure {Tf : Tr AV} {g g1 : AHeap} {i : Nat} (hc : clsO P ops n0 i = 0) (h : QRF P N ops n0 Tf g i) : QRF P N ops n0 Tf g1 i := by
  obtain ⟨o, r, ho, hv, hd⟩ := h
  refine ⟨o, r, ho, ?_, hd⟩
  unfold clsO at hc
  rw [ho] at hc
  simp only at hc
  cases hl : litI ops n0 o with
  | true => rw [hl] at hc; cases hc
  | false =>
    rw [hl] at hc
    simp only [cond_false] at hc
    unfold valQR at hv ⊢
    cases hk : opL P ops n0 o <;> rw [hk] at hv hc <;> first | (cases hc; done) | exact hv
theorem lit_cls {i : Nat} (h : clsO P ops n0 i ≠ 2) : litO ops n0 i = [] := by
  unfold litO
  cases ho : ops[i]? with
  | none => rfl
  | some o =>
    simp only
    cases hl : litIx ops n0 o with
    | nil => rfl
    | cons j r =>
      exfalso
      obtain ⟨t, d, hop, _⟩ := litIx_spec hl
      have h1 : litI ops n0 o = false := by simp [litI, hop]
      refine h ?_
      unfold clsO
      rw [ho]
      simp only [h1, cond_false, opL_lit hl]
theorem bitsO_back : ∀ {l : List Operand} {s t : Nat}, (bitsO l s).testBit t = true → s.testBit t = true ∨ .tmp t ∈ l
  | [], s, t, h => .inl h
  | x :: l, s, t, h => by
    cases x with
    | tmp u =>
      simp only [bitsO] at h
      rcases bitsO_back h with h | h
      · rw [Nat.testBit_or, Nat.testBit_two_pow, Bool.or_eq_true, decide_eq_true_eq] at h
        rcases h with h | rfl
        · exact .inl h
        · exact .inr List.mem_cons_self
      · exact .inr (List.mem_cons_of_mem _ h)
    | const v => simp only [bitsO] at h; exact (bitsO_back h).imp id fun h => List.mem_cons_of_mem _ h
    | func f => simp only [bitsO] at h; exact (bitsO_back h).imp id fun h => List.mem_cons_of_mem _ h
    | global g => simp only [bitsO] at h; exact (bitsO_back h).imp id fun h => List.mem_cons_of_mem _ h
theorem looksM_mem {o : Oper} {d : Nat} (h : .tmp d ∈ o.op.operands.toList) : (looksM ops o).testBit d = true := by
  unfold looksM
  split
  · exact bitsO_mem h
  · split <;> exact bitsO_mem h
theorem insM_bit : ∀ {l : List Nat} {d : Nat} (_ : (insM ops l).testBit d = true), ∃ i ∈ l, ∃ o, ops[i]? = some o ∧ (looksM ops o).testBit d = true
  | [], d, h => by simp [insM] at h
  | i :: l, d, h => by
    simp only [insM, Nat.testBit_or, Bool.or_eq_true] at h
    rcases h with h | h
    · cases ho : ops[i]? with
      | none => rw [ho] at h; simp at h
      | some o =>
        rw [ho] at h
        cases hop : o.op <;> simp only [hop, Nat.zero_testBit, Bool.false_eq_true] at h
        rename_i t m k v
        rcases bitsO_back h with h | h
        · simp at h
        · exact ⟨i, List.mem_cons_self, o, ho, looksM_mem (by
            simp only [hop, Op.operands]
            simp at h ⊢
            rcases h with h | h
            · exact .inr (.inl h)
            · exact .inr (.inr h))⟩
    · obtain ⟨j, hj, h⟩ := insM_bit h
      exact ⟨j, List.mem_cons_of_mem _ hj, h⟩
theorem insIx_mem {t : TypeId} {d : Tmp} {i : Nat} (h : i ∈ insIx ops n0 t d) : i < n0 ∧ ∃ o, ops[i]? = some o ∧ isIns t d o = true := by
  simp only [insIx, List.mem_filter, List.mem_range] at h
  refine ⟨h.1, ?_⟩
  cases ho : ops[i]? with
  | none => rw [ho] at h; cases h.2
  | some o => rw [ho] at h; exact ⟨o, rfl, h.2⟩
theorem litIx_mem {o : Oper} {i : Nat} (h : i ∈ litIx ops n0 o) : i < n0 ∧ ∃ t d, o.op = .makeMap t none ∧ o.dst = some d ∧ o.guard = none ∧ ∃ o', ops[i]? = some o' ∧ isIns t d o' = true := by
  cases hl : litIx ops n0 o with
  | nil => rw [hl] at h; cases h
  | cons j r =>
    obtain ⟨t, d, h1, h2, h3, h4, _⟩ := litIx_spec hl
    rw [hl, ← h4] at h
    obtain ⟨g1, g2⟩ := insIx_mem h
    exact ⟨g1, t, d, h1, h2, h3, g2⟩
theorem partL_full {Tf : Tr AV} {listed : Array Bool} {o : Oper} (h : ∀ j ∈ litIx ops n0 o, On listed j) {ko : KeyO} {l : List (AV × AV)} (e : litA ko ops Tf (litIx ops n0 o) = some l) : partL ops n0 Tf listed o = l := by
  unfold partL
  rw [List.filter_eq_self.2 h]
  clear h
  generalize litIx ops n0 o = ix at e
  induction ix generalizing l with
  | nil => simp only [litA, Option.some.injEq] at e; subst e; rfl
  | cons i r ih =>
    simp only [litA, Option.bind_eq_some_iff] at e
    obtain ⟨p, hp, l', hl', e⟩ := e
    obtain ⟨_, rfl⟩ := cond_some.1 e
    rw [List.filterMap_cons, hp]
    simp only
    rw [ih hl']
theorem litA_vr {m : Ren} {T : Tr AV} {a : Act} (hF : FR m T a.tmps) {ko : KeyO} : ∀ {ix : List Nat} {l : List (AV × AV)} (_ : litA ko ops T ix = some l), ∃ es : List MapEntry, All2 (fun p e => VR m p.1 e.key ∧ VR m p.2 e.val) l es
  | [], l, e => by simp only [litA, Option.some.injEq] at e; subst e; exact ⟨[], trivial⟩
  | i :: r, l, e => by
    simp only [litA, Option.bind_eq_some_iff] at e
    obtain ⟨p, hp, l', hl', e⟩ := e
    obtain ⟨_, rfl⟩ := cond_some.1 e
    obtain ⟨es, hes⟩ := litA_vr hF hl'
    simp only [entO, Option.bind_eq_some_iff] at hp
    obtain ⟨o, _, hp⟩ := hp
    split at hp
    · simp only [Option.bind_eq_some_iff, Option.map_eq_some_iff] at hp
      obtain ⟨K, hK, V, hV, rfl⟩ := hp
      exact ⟨{ key := _, val := _, born := 0 } :: es, ⟨evO_vr hF hK, evO_vr hF hV⟩, hes⟩
    · cases hp

theorem HR.alloc {m : Ren} {h : AHeap} {w : World} (H : HR m h w) {ob : Obj} (hu : Unfz ob) : HR m h (w.alloc ob) ∧ Ext m h w m h (w.alloc ob) := by
  have hheap : (w.alloc ob).heap = w.heap.push ob := rfl
  refine ⟨⟨fun b o hg => ?_, H.inj, H.fresh⟩, m.le_refl, by simp, fun B hB _ => ?_, fun _ _ hi => hi, rfl, rfl, rfl, frozen_alloc hu⟩
  · obtain ⟨L, ob', h1, h2, h3⟩ := H.obj b o hg
    refine ⟨L, ob', h1, ?_, h3⟩
    have := (Array.getElem?_eq_some_iff.1 h2).1
    rw [hheap, Array.getElem?_push, if_neg (by omega), h2]
  · rw [hheap, Array.getElem?_push, if_neg (by omega)]

variable {cf : CallF} {Tf : Tr AV} {g' : AHeap} {m0 : Ren} {h0 : AHeap} {w0 : World} {ds : List Deferred} {R : Prop} {l : List Stp} {done effs : Nat} {rs : List Nat} {g : AHeap} {m M : Ren} {listed : Array Bool} {a : Act} {w : World}

/-- A step that is done in any case is passed. -/
theorem St.drop {i : Nat} (s : St P N ops n0 cf Tf g' m0 h0 w0 ds True (.early i :: l) done effs rs g m M listed a w) :
    ∃ rs', St P N ops n0 cf Tf g' m0 h0 w0 ds True l (done ||| 2 ^ i) effs rs' g m M listed a w := by
  have hc := s.ck
  simp only [ckP, Bool.and_eq_true, blt_iff, Bool.not_eq_true'] at hc
  obtain ⟨⟨⟨⟨⟨c0, c1⟩, c2⟩, c3⟩, c4⟩, c5⟩ := hc
  rw [Nat.ble_eq] at c3
  have hsub : ∀ j, j ∈ rs → j ∈ (bif Nat.beq (clsO P ops n0 i) 1 then i :: rs else rs) := by
    intro j hj
    cases Nat.beq (clsO P ops n0 i) 1 with
    | true => exact List.mem_cons_of_mem _ hj
    | false => exact hj
  refine ⟨_, { s with fct := s.fct.2, ck := c5, np := noEP_tail s.np, dn := ?_, lits := ?_, lt := ?_, no := ?_ }⟩
  · intro j hj hd
    rcases bit_or_iff.1 hd with rfl | hd
    · have hn := s.no j (.inl List.mem_cons_self)
      refine ⟨fun h => absurd h hn, fun _ => ⟨fun _ => s.fct.1, ?_, c3, fun h1 => ?_⟩⟩
      · obtain ⟨o, ho, f1, f2⟩ := lookOk_spec c4
        intro o' ho'
        rw [ho] at ho'; cases ho'
        exact ⟨fun t ht => (f1 t ht).2, f2⟩
      · rw [h1]; exact List.mem_cons_self
    · obtain ⟨h1, h2⟩ := s.dn j hj hd
      exact ⟨h1, fun hn => ⟨(h2 hn).1, (h2 hn).2.1.tail, (h2 hn).2.2.1, fun h => hsub j ((h2 hn).2.2.2 h)⟩⟩
  · exact fun j hj => s.lt j (List.mem_cons_of_mem _ hj)
  · exact fun j hj => s.no j (hj.imp (fun h => List.mem_cons_of_mem _ h) fun ⟨c, h⟩ => ⟨c, List.mem_cons_of_mem _ h⟩)
  · intro k j hk hj
    rcases bit_or_iff.1 hk with rfl | hk
    · rw [lit_cls (P := P) (by omega)] at hj; cases hj
    · exact s.lits k j hk hj

/-- What the first step's operation sees. -/
theorem St.sees {x : Stp} (s : St P N ops n0 cf Tf g' m0 h0 w0 ds R (x :: l) done effs rs g m M listed a w) {o : Oper} (ho : ops[x.i]? = some o)
    (hon : ∀ j, j < n0 → ∀ d : Nat, (dstM ops j).testBit d = true → (looksL ops n0 o).testBit d = true → On listed j) : ∃ T', FR m T' a.tmps ∧ AgreeO ops n0 T' Tf o := by
  obtain ⟨c0, c1, c4, _⟩ := ck_head s.ck
  refine opFrame3 s.ext fun j hj d hdd hl => ?_
  cases hd : done.testBit j with
  | true => exact (s.dn j hj hd).1 (hon j hj d hdd hl)
  | false =>
    exfalso
    obtain ⟨o', ho', f1, f2⟩ := lookOk_spec c4
    rw [ho] at ho'; cases ho'
    obtain ⟨g1, g2⟩ := f1 d hl
    rcases ck_all s.ck hj with h | ⟨y, hy, rfl⟩
    · rw [h] at hd; cases hd
    · cases hy with
      | head => rw [hdd] at g1; cases g1
      | tail _ hy => rw [dmask_mem hy hdd] at g2; cases g2
theorem lay_reg (hwf : wfO ops n0 (ancO ops) = true) {i : Nat} (hi : i < n0) {o : Oper} (ho : ops[i]? = some o) (h : litIx ops n0 o = []) (hon : ∀ j, (anc (ancO ops) i).testBit j = true → On listed j) :
    ∀ j, j < n0 → ∀ d : Nat, (dstM ops j).testBit d = true → (looksL ops n0 o).testBit d = true → On listed j := by
  intro j hj d hdd hl
  cases h' : litI ops n0 o with
  | false =>
    rw [looksL_reg h h'] at hl
    exact hon j (wf_lay hwf hi ho hl hj hdd)
  | true =>
    unfold looksL at hl
    rw [h, h'] at hl
    simp at hl
theorem lay_lit (hwf : wfO ops n0 (ancO ops) = true) (hcl : Closed (ancO ops) listed) {o : Oper} {i : Nat} {r : List Nat} (h : litIx ops n0 o = i :: r) (hon : ∀ j ∈ litIx ops n0 o, On listed j) :
    ∀ j, j < n0 → ∀ d : Nat, (dstM ops j).testBit d = true → (looksL ops n0 o).testBit d = true → On listed j := by
  intro j hj d hdd hl
  unfold looksL at hl
  rw [h] at hl
  simp only at hl
  obtain ⟨k, hk, o', ho', hb⟩ := insM_bit hl
  rw [← h] at hk
  exact hcl k (hon k hk) j (wf_lay hwf (litIx_mem hk).1 ho' hb hj hdd)

/-- A step that came late is passed: its block is released. -/
theorem St.release {i : Nat} (s : St P N ops n0 cf Tf g' m0 h0 w0 ds R (.pre i :: l) done effs rs g m M listed a w) (hwf : wfO ops n0 (ancO ops) = true) (hi : On listed i) (his : ∀ j ∈ litO ops n0 i, On listed j) :
    ∃ g1 m1, m.le m1 ∧ St P N ops n0 cf Tf g' m0 h0 w0 ds False l (done ||| 2 ^ i) effs rs g1 m1 M listed a w := by
  have hc := s.ck
  simp only [ckP, Bool.and_eq_true, blt_iff, Bool.not_eq_true'] at hc
  obtain ⟨⟨⟨⟨⟨⟨c0, c1⟩, c2⟩, c3⟩, c4⟩, c6⟩, c5⟩ := hc
  obtain ⟨o, r, g1, ho, hp, hd, hf⟩ := s.fct
  have his' : ∀ j ∈ litIx ops n0 o, On listed j := by
    intro j hj
    exact his j (by unfold litO; rw [ho]; exact hj)
  obtain ⟨T', hF, hA⟩ := s.sees (x := .pre i) ho (by
    cases hl : litIx ops n0 o with
    | nil => exact lay_reg hwf c0 ho hl (s.cl i hi)
    | cons j r => exact lay_lit hwf s.cl hl his')
  have hslot := s.lt i List.mem_cons_self hi
  -- the rest, out of the new renaming
  have fin : ∀ {m1 : Ren}, m.le m1 → m1.le M → HR m1 g1 w → Ext m0 h0 w0 m1 g1 w → SlotR ops Tf m1 i a →
      (∀ b L, M b = some L → (∃ f, opL P ops n0 o = .a f) → wantA ops o Tf = some true → b = g.next → m1 b = some L) →
      (∀ B, (∀ L b, LateAt P ops n0 cf Tf (.pre i :: l) g i b → M b = some L → L.blk ≠ B) → ¬ Im m g B → ¬ Im m1 g1 B) →
      ∃ g1 m1, m.le m1 ∧ St P N ops n0 cf Tf g' m0 h0 w0 ds False l (done ||| 2 ^ i) effs rs g1 m1 M listed a w := by
    intro m1 hle hle2 H1 hx hs hdom him
    have up : ∀ {k b}, LateAt P ops n0 cf Tf l g1 k b → LateAt P ops n0 cf Tf (.pre i :: l) g k b := by
      intro k b h
      exact ⟨o, g1, r, ho, hp, .inr ⟨fun e => ck_once s.ck h.mem.1 e.symm, h⟩⟩
    refine ⟨g1, m1, hle, { s with H := H1, le := hle2, ext := s.ext.mono hle, fct := hf, ck := c5, np := noEP_tail s.np, x0 := hx, dn := ?_, lits := ?_, lt := ?_, no := ?_, dom := ?_, li := ?_, ld := ?_ }⟩
    · intro j hj hdj
      rcases bit_or_iff.1 hdj with rfl | hdj
      · exact ⟨fun _ => hs, fun h => absurd hi h⟩
      · obtain ⟨h1, h2⟩ := s.dn j hj hdj
        refine ⟨fun h => (h1 h).mono hle, fun hn => ⟨?_, (h2 hn).2.1.tail, (h2 hn).2.2.1, (h2 hn).2.2.2⟩⟩
        rintro (h | h)
        · exact h.elim
        · exact qrf_pure h ((h2 hn).1 (.inr h))
    · exact fun j hj => s.lt j (List.mem_cons_of_mem _ hj)
    · exact fun j hj => s.no j (hj.imp (fun h => List.mem_cons_of_mem _ h) fun ⟨c, h⟩ => ⟨c, List.mem_cons_of_mem _ h⟩)
    · intro b L hb
      rcases s.dom b L hb with h | ⟨k, hk, o2, g2, r2, ho2, hp2, h⟩
      · exact .inl (hle _ _ h)
      · rw [ho] at ho2; cases ho2
        rw [hp] at hp2; cases hp2
        rcases h with ⟨_, ha, hw, hbn⟩ | ⟨_, h⟩
        · exact .inl (hdom b L hb ha hw hbn)
        · exact .inr ⟨k, hk, h⟩
    · intro k b h hk
      obtain ⟨L, obj, h1, h2, h3, h4, h5⟩ := s.li k b (up h) hk
      refine ⟨L, obj, h1, h2, him _ ?_ h3, h4, h5⟩
      intro L' b' hl hb' he
      have := s.ld i b' k b L' L hl hi (up h) hk hb' h1 he
      subst this
      have := (LateAt.uniq s.fct hl (up h)).2 rfl
      exact ck_once s.ck h.mem.1 this.symm
    · intro k j hk hj
      rcases bit_or_iff.1 hk with rfl | hk
      · exact his j hj
      · exact s.lits k j hk hj
    · intro k b k' b' L L' h hk h' hk'
      exact s.ld k b k' b' L L' (up h) hk (up h') hk'
  rcases preA_cases hp with ⟨rfl, h⟩ | ⟨hb, f, ob, kk, hk, hfT, rfl, rfl⟩
  · have hv : ∃ v, VR m r v := by
      rcases h with ⟨_, rfl⟩ | ⟨_, f, hk, hfT⟩
      · exact ⟨_, vr_undef m⟩
      · rcases opL_cases (ops := ops) (n0 := n0) o with ⟨j, r', hl⟩ | hl | ⟨hr, hni⟩
        · rw [opL_lit hl] at hk; cases hk
        · rw [opL_ins hl, OpK.q.injEq] at hk
          subst hk
          simp only [Option.some.injEq] at hfT
          subst hfT
          exact ⟨_, vr_undef m⟩
        · rw [opL_reg hr hni] at hk
          rw [← opq_congr (hA.op hr hni) hk] at hfT
          obtain ⟨v, _, hv⟩ := opq_sim hF hk hfT
          exact ⟨v, hv⟩
    obtain ⟨v, hv⟩ := hv
    refine fin m.le_refl s.le s.H s.x0 ?_ ?_ (fun B _ h => h)
    · intro o' d ho' hd'
      rw [ho] at ho'; cases ho'
      obtain ⟨A, u, h1, h2, h3⟩ := hslot o d ho hd'
      rw [(hd d hd').1] at h1; cases h1
      exact ⟨r, u, (hd d hd').1, h2, VR.back s.le hv h3⟩
    · intro b L _ hka hw _
      exfalso
      rcases h with ⟨h, _⟩ | ⟨_, f, hk, _⟩
      · rw [h] at hw; cases hw
      · obtain ⟨f', hk'⟩ := hka
        rw [hk] at hk'; cases hk'
  · have hfT' := hfT
    rw [← opLa_congr hA hk] at hfT'
    have hlate : LateAt P ops n0 cf Tf (.pre i :: l) g i g.next := ⟨o, _, _, ho, hp, .inl ⟨rfl, ⟨f, hk⟩, hb, rfl⟩⟩
    obtain ⟨L, obj, e1, e2, e3, e4, e5⟩ := s.li i g.next hlate hi
    obtain ⟨e5, e6, e7, e8⟩ := e5 o f ob kk ho hk hfT
    have hn := s.H.next_none
    have hle := Ren.le_set hn L
    have hle2 : (m.set g.next L).le M := by
      intro b L' hb
      simp only [Ren.set] at hb
      by_cases e : b = g.next
      · rw [if_pos e] at hb; cases hb; rw [e]; exact e1
      · rw [if_neg e] at hb; exact s.le b L' hb
    have hsame : (m.set g.next L) g.next = some L := by simp [Ren.set]
    have hOv : OR (m.set g.next L) L ob obj ∧ ∃ v, VR (m.set g.next L) (kk g.next) v := by
      rcases opL_cases (ops := ops) (n0 := n0) o with ⟨j, r', hl⟩ | hl | ⟨hr, hni⟩
      · rw [opL_lit hl, OpK.a.injEq] at hk
        subst hk
        simp only [Option.bind_eq_some_iff, Option.map_eq_some_iff, Prod.mk.injEq] at hfT hfT'
        obtain ⟨ko, hko, l1, hl1, rfl, rfl⟩ := hfT
        obtain ⟨ko', hko', l2, hl2, hh, _⟩ := hfT'
        rw [hko] at hko'; cases hko'
        simp only [AObj.map.injEq] at hh
        subst hh
        obtain ⟨es, ck, rfl, hR⟩ := e8 (by rw [hl]; simp)
        rw [← hl] at hl1
        rw [partL_full his' hl1] at hR
        obtain ⟨es', hes'⟩ := litA_vr hF hl2
        have hR' : MapR (m.set g.next L) l2 es' := MapR.mono hle ⟨es', .refl _, hes'⟩
        exact ⟨MapR.back hle2 hR' hR, _, .map g.next L hsame⟩
      · rw [opL_ins hl] at hk; cases hk
      · have hk' := hk
        rw [opL_reg hr hni] at hk'
        obtain ⟨ob', cap, vv, hcap, _, g2, g3⟩ := opa_sim hF hk' hfT'
        have hL : L = ⟨L.blk, 0, cap⟩ := by rw [hcap, ← e6, ← e5]
        refine ⟨OR.back hle2 (opa_laid hk' hfT) (ob' := ob') ?_ (e7 hr), _, g3 _ g.next L.blk (by rw [← hL]; exact hsame)⟩
        rw [hL]
        rw [hL] at hle
        exact (g2 L.blk).mono hle
    obtain ⟨hO, v0, hv0⟩ := hOv
    obtain ⟨k1, k2⟩ := s.H.adopt e2 e3 hO
    refine fin hle hle2 k1 ?_ ?_ ?_ ?_
    · refine ⟨Ren.le_trans s.x0.le hle, s.x0.size, s.x0.same, fun B hB hi => k2 B (by omega) (s.x0.im B hB hi), s.x0.tape, s.x0.os, s.x0.output, s.x0.fz⟩
    · intro o' d ho' hd'
      rw [ho] at ho'; cases ho'
      obtain ⟨A, u, h1, h2, h3⟩ := hslot o d ho hd'
      rw [(hd d hd').1] at h1; cases h1
      exact ⟨_, u, (hd d hd').1, h2, VR.back hle2 hv0 h3⟩
    · rintro b L' hb _ _ rfl
      rw [e1] at hb; cases hb
      exact hsame
    · intro B hB hB2
      exact k2 B (fun e => hB L g.next hlate e1 e.symm) hB2
end
end Go.Ev

/- Whatever order: one operation is taken. -/
set_option linter.unusedSimpArgs false
namespace Go.Ev

section
variable {P : Program} {N : Nat} {ops : Array Oper} {n0 : Nat}
variable {cf : CallF} {Tf : Tr AV} {g' : AHeap} {m0 : Ren} {h0 : AHeap} {w0 : World} {ds : List Deferred} {R : Prop} {l : List Stp} {done effs : Nat} {rs : List Nat} {g : AHeap} {m M : Ren} {listed : Array Bool} {a : Act} {w : World}

theorem wf_apart (h : wfO ops n0 (ancO ops) = true) : apartO ops (List.range n0) 0 = true := by
  simp only [wfO, Bool.and_eq_true] at h; exact h.2
theorem isIns_spec {t : TypeId} {d : Tmp} {o : Oper} (h : isIns t d o = true) : ∃ k v, o.op = .insert t (.tmp d) k v ∧ o.guard = none ∧ o.dst = none := by
  unfold isIns at h
  split at h
  · rename_i t' x k v ho
    simp only [Bool.and_eq_true, Option.isNone_iff_eq_none] at h
    exact ⟨k, v, by rw [ho, natBeq h.1, natBeq h.2.1], h.2.2.1, h.2.2.2⟩
  · cases h
theorem isMk_spec {t : TypeId} {d : Tmp} {o : Oper} (h : isMk t d o = true) : o.op = .makeMap t none ∧ o.guard = none ∧ o.dst = some d := by
  unfold isMk at h
  split at h
  · rename_i t' ho
    simp only [Bool.and_eq_true, Option.isNone_iff_eq_none] at h
    refine ⟨by rw [ho, natBeq h.1], h.2.1, ?_⟩
    cases hd : o.dst with
    | none => rw [hd] at h; cases h.2.2
    | some x => rw [hd] at h; rw [natBeq h.2.2]
  · cases h
theorem isMk_of {t : TypeId} {d : Tmp} {o : Oper} (h : o.op = .makeMap t none) (hg : o.guard = none) (hd : o.dst = some d) : isMk t d o = true := by
  simp [isMk, h, hg, hd]
theorem isIns_of {t : TypeId} {d : Tmp} {o : Oper} {k v : Operand} (h : o.op = .insert t (.tmp d) k v) (hg : o.guard = none) (hd : o.dst = none) : isIns t d o = true := by
  simp [isIns, h, hg, hd]
/-- An insertion of a literal is of the class 5. -/
theorem litIx_ins {k i : Nat} {o o' : Oper} (hk : k < n0) (ho : ops[k]? = some o) (hi : i ∈ litIx ops n0 o) (ho' : ops[i]? = some o') : litI ops n0 o' = true := by
  obtain ⟨_, t, d, h1, h2, h3, o2, ho2, h4⟩ := litIx_mem hi
  rw [ho'] at ho2; cases ho2
  obtain ⟨kx, vx, g1, g2, g3⟩ := isIns_spec h4
  unfold litI
  rw [g1]
  simp only [g2, g3, Option.isNone_none, Bool.true_and]
  unfold hasMk
  refine List.any_eq_true.2 ⟨k, by simpa using hk, ?_⟩
  rw [ho]
  exact isMk_of h1 h3 h2
theorem litI_cls {i : Nat} {o : Oper} (ho : ops[i]? = some o) (h : litI ops n0 o = true) : clsO P ops n0 i = 5 := by
  unfold clsO; rw [ho]; simp only [h, cond_true]
theorem cls_litI {i : Nat} {o : Oper} (ho : ops[i]? = some o) (h : clsO P ops n0 i ≠ 5) : litI ops n0 o = false := by
  cases hl : litI ops n0 o with
  | false => rfl
  | true => exact absurd (litI_cls ho hl) h

theorem All2.perm_left {α β : Type} {R : α → β → Prop} {l l2 : List α} (h : l.Perm l2) : ∀ {c : List β}, All2 R l c → ∃ c', c'.Perm c ∧ All2 R l2 c' := by
  induction h with
  | nil => intro c hc; exact ⟨c, .refl _, hc⟩
  | cons x _ ih =>
    intro c hc
    obtain ⟨y, c1, rfl, h1, h2⟩ := hc.cons_left
    obtain ⟨c2, h3, h4⟩ := ih h2
    exact ⟨y :: c2, h3.cons y, h1, h4⟩
  | swap x y l =>
    intro c hc
    obtain ⟨a, c1, rfl, h1, h2⟩ := hc.cons_left
    obtain ⟨b, c2, rfl, h3, h4⟩ := h2.cons_left
    exact ⟨b :: a :: c2, .swap _ _ _, h3, h1, h4⟩
  | trans _ _ ih1 ih2 =>
    intro c hc
    obtain ⟨c1, h1, h2⟩ := ih1 hc
    obtain ⟨c2, h3, h4⟩ := ih2 h2
    exact ⟨c2, h3.trans h1, h4⟩
theorem MapR.perm {m : Ren} {l l2 : List (AV × AV)} (hp : l.Perm l2) {es : List MapEntry} (h : MapR m l es) : MapR m l2 es := by
  obtain ⟨x, h1, h2⟩ := h
  obtain ⟨y, h3, h4⟩ := All2.perm_left hp h2
  exact ⟨y, h3.trans h1, h4⟩
theorem filter_set {p : Nat → Bool} {i : Nat} (hp : p i = false) : ∀ {l : List Nat} (_ : l.Nodup) (_ : i ∈ l), (l.filter fun j => Nat.beq j i || p j).Perm (i :: l.filter p)
  | x :: l, hn, hi => by
    rw [List.nodup_cons] at hn
    by_cases hx : x = i
    · subst hx
      have : l.filter (fun j => Nat.beq j x || p j) = l.filter p := by
        refine List.filter_congr fun j hj => ?_
        have : Nat.beq j x = false := by
          cases hb : Nat.beq j x with
          | false => rfl
          | true => have := natBeq hb; subst this; exact absurd hj hn.1
        rw [this, Bool.false_or]
      rw [List.filter_cons, List.filter_cons, this, hp]
      simp
    · have hi : i ∈ l := by
        cases hi with
        | head => exact absurd rfl hx
        | tail _ h => exact h
      have ih := filter_set hp hn.2 hi
      have hb : Nat.beq x i = false := by
        cases hb : Nat.beq x i with
        | false => rfl
        | true => exact absurd (natBeq hb) hx
      rw [List.filter_cons, List.filter_cons, hb, Bool.false_or]
      cases p x with
      | false => simpa using ih
      | true => simp only [if_true]; exact (ih.cons x).trans (.swap _ _ _)
theorem partL_new {Tf : Tr AV} {listed : Array Bool} {o : Oper} {i : Nat} (hi : i ∈ litIx ops n0 o) (hs : i < listed.size) (hn : ¬ On listed i) {p : AV × AV} (hp : entO ops Tf i = some p) :
    (p :: partL ops n0 Tf listed o).Perm (partL ops n0 Tf (listed.setIfInBounds i true) o) := by
  have hnd : (litIx ops n0 o).Nodup := by
    cases hl : litIx ops n0 o with
    | nil => exact List.nodup_nil
    | cons j r =>
      obtain ⟨t, d, _, _, _, h4, _⟩ := litIx_spec hl
      rw [← h4]
      exact List.Pairwise.filter _ List.nodup_range
  have h1 : (litIx ops n0 o).filter (fun j => (listed.setIfInBounds i true).getD j false) = (litIx ops n0 o).filter fun j => Nat.beq j i || listed.getD j false := by
    refine List.filter_congr fun j _ => ?_
    by_cases h : i = j
    · subst h
      simp only [Array.getD_eq_getD_getElem?, Array.getElem?_setIfInBounds, if_true, if_pos hs, Option.getD_some]
      have : Nat.beq i i = true := by rw [Nat.beq_eq]
      rw [this, Bool.true_or]
    · simp only [Array.getD_eq_getD_getElem?, Array.getElem?_setIfInBounds, if_neg h]
      have : Nat.beq j i = false := by
        cases hb : Nat.beq j i with
        | false => rfl
        | true => exact absurd (natBeq hb).symm h
      rw [this, Bool.false_or]
  have h2 : listed.getD i false = false := by
    cases hb : listed.getD i false with
    | false => rfl
    | true => exact absurd hb hn
  have h3 := (filter_set (p := fun j => listed.getD j false) h2 hnd hi).filterMap (entO ops Tf)
  unfold partL
  rw [h1]
  rw [List.filterMap_cons, hp] at h3
  exact h3.symm
theorem isFalse_spec {x : Option Bool} (h : isFalse x = true) : x = some false := by
  unfold isFalse at h
  split at h
  · rfl
  · cases h
/-- What a literal's keys are. -/
theorem litA_keys {T : Tr AV} {ko : KeyO} : ∀ {ix : List Nat} {l : List (AV × AV)} (_ : litA ko ops T ix = some l) {i : Nat} (_ : i ∈ ix), ∃ p, entO ops T i = some p ∧ p ∈ l ∧ ko.ck p.1 = true ∧ ∀ j ∈ ix, j ≠ i → ∀ q, entO ops T j = some q → ko.eq p.1 q.1 = some false
  | x :: r, l, e, i, hi => by
    simp only [litA, Option.bind_eq_some_iff] at e
    obtain ⟨p, hp, l', hl', e⟩ := e
    obtain ⟨hc, rfl⟩ := cond_some.1 e
    rw [Bool.and_eq_true, List.all_eq_true] at hc
    have hall : ∀ q ∈ l', ko.eq p.1 q.1 = some false ∧ ko.eq q.1 p.1 = some false := by
      intro q hq
      have := hc.2 q hq
      rw [Bool.and_eq_true] at this
      exact ⟨isFalse_spec this.1, isFalse_spec this.2⟩
    by_cases hx : i = x
    · subst hx
      refine ⟨p, hp, List.mem_cons_self, hc.1, fun j hj hne q hq => ?_⟩
      cases hj with
      | head => exact absurd rfl hne
      | tail _ hj =>
        obtain ⟨q', hq', hm, _⟩ := litA_keys hl' hj
        rw [hq] at hq'; cases hq'
        exact (hall q hm).1
    · have hi : i ∈ r := by
        cases hi with
        | head => exact absurd rfl hx
        | tail _ h => exact h
      obtain ⟨p', hp', hm, hck, h2⟩ := litA_keys hl' hi
      refine ⟨p', hp', List.mem_cons_of_mem _ hm, hck, fun j hj hne q hq => ?_⟩
      cases hj with
      | head =>
        rw [hp] at hq; cases hq
        exact (hall p' hm).2
      | tail _ hj => exact h2 j hj hne q hq
theorem findA_none {eq : AV → AV → Option Bool} {k : AV} : ∀ {l : List (AV × AV)} (_ : ∀ p ∈ l, eq k p.1 = some false), findA eq k l = some none
  | [], _ => rfl
  | p :: r, h => by
    simp only [findA, h p List.mem_cons_self, findA_none fun q hq => h q (List.mem_cons_of_mem _ hq), Option.bind_some, cond_false]
/-- A new key is inserted. -/
theorem ins_run {M : Ren} {w : World} {t : TypeId} {ko : KeyO} {et : TypeId} (hk : keyO P t = some (ko, et)) {B : Nat} {es : Array MapEntry} {ck : Nat} (hw : w.heap[B]? = some (.map es ck)) {l : List (AV × AV)} (hR : MapR M l es.toList) {K V : AV} (hck : ko.ck K = true)
    (hf : findA ko.eq K l = some none) {u x : Value} (hu' : VR M K u) (hx : VR M V x) :
    ∃ es' ck', (Instr.mapUpdate t (.map (some B)) u x).run P w = .ok () (w.putBlock B (.map es' ck')) ∧ MapR M ((K, V) :: l) es'.toList := by
  obtain ⟨kt, d, hu, hd, c1, c2⟩ := keyO_spec hk
  have hf := found_perm (P := P) (w := w) (kt := kt) (key := u) (fun x b hb vx hx => c2 w M K x b hb u vx hu' hx) hf hR
  have hc := c1 w M false K u hck hu'
  have h3 := findKey_none hd hf
  refine ⟨es.push { key := u, val := x, born := ck }, ck + 1, ?_, ?_⟩
  · simp [Instr.mapUpdate, run_underlying hu, run_getObj_map hw, hc, h3, run_setObj_map hw]
  · obtain ⟨r, hp, ha⟩ := hR
    refine ⟨{ key := u, val := x, born := ck } :: r, ?_, ⟨hu', hx⟩, ha⟩
    rw [Array.toList_push]
    exact (hp.cons _).trans (List.perm_append_singleton _ _).symm
/-- A block of which nothing is said becomes another one. -/
theorem HR.other {m : Ren} {h : AHeap} {w : World} (H : HR m h w) {B : Nat} (hi : ¬ Im m h B) (ob : Obj) : HR m h (w.putBlock B ob) := by
  refine ⟨fun b o hg => ?_, H.inj, H.fresh⟩
  obtain ⟨L, ob', h1, h2, h3⟩ := H.obj b o hg
  refine ⟨L, ob', h1, ?_, h3⟩
  rw [putBlock_get, if_neg, h2]
  rintro ⟨e, _⟩
  exact hi ⟨b, o, L, hg, h1, e⟩

/-- What writes is taken. -/
theorem St.effS (hN : NamesOk P) (hcf : CallOk P cf) {i : Nat} {c : List Nat} (s : St P N ops n0 cf Tf g' m0 h0 w0 ds R (.eff i c :: l) done effs rs g m M listed a w) (hwf : wfO ops n0 (ancO ops) = true)
    (hr : i ∈ Region.ready .any ops listed) {o : Oper} (ho : ops[i]? = some o) {ro : Option Nat} {n : Nat} {K : Act → World → Prop} {Q : Exit → Act → World → Prop}
    (hK : ∀ effs rs g1 m1 M1 a1 w1, St P N ops n0 cf Tf g' m0 h0 w0 ds True l (done ||| 2 ^ i) effs rs g1 m1 M1 (listed.setIfInBounds i true) a1 w1 → K a1 w1) : opWp (wideR ro) n P ops o a w K Q := by
  have hc := s.ck
  simp only [ckP, Bool.and_eq_true, blt_iff, Bool.not_eq_true'] at hc
  obtain ⟨⟨⟨⟨⟨⟨⟨c0, c1⟩, c2⟩, c3⟩, c4⟩, c5⟩, c6⟩, c7⟩ := hc
  obtain ⟨o', r, g1, ho', he, hd, hck, hn, hf⟩ := s.fct
  rw [ho] at ho'; cases ho'
  have hsz : i < listed.size := by rw [s.lsz]; exact (ready_spec s.lsz hr).1
  have hanc := ready_anc s.lsz s.cl hr
  have hcls : clsO P ops n0 i = 3 := natBeq c3
  have hlit : litIx ops n0 o = [] := by
    have := lit_cls (P := P) (ops := ops) (n0 := n0) (i := i) (by omega)
    unfold litO at this
    rw [ho] at this; exact this
  have hnin : ∀ {k o'}, k < n0 → ops[k]? = some o' → ∀ j ∈ litIx ops n0 o', j ≠ i := by
    rintro k o' hk ho' j hj rfl
    have := litI_cls (P := P) ho (litIx_ins hk ho' hj ho)
    omega
  obtain ⟨T', hF, hA⟩ := s.sees (x := .eff i c) ho (lay_reg hwf c0 ho hlit hanc)
  have he' := he
  rw [← effA_congr hA] at he'
  refine effA_wp hN hcf s.H hF he' fun m' w' v H' hv hx => ?_
  have onn : ∀ {k}, On (listed.setIfInBounds i true) k → k ≠ i → On listed k := fun h hk => ((on_set hsz).1 h).resolve_left hk
  have down : ∀ {k b}, LateAt P ops n0 cf Tf l g1 k b → LateAt P ops n0 cf Tf (.eff i c :: l) g k b := fun h => ⟨o, g1, r, ho, he, h⟩
  have up : ∀ {k b}, LateAt P ops n0 cf Tf (.eff i c :: l) g k b → LateAt P ops n0 cf Tf l g1 k b := by
    rintro k b ⟨o2, g2, r2, ho2, he2, h⟩
    rw [ho] at ho2; cases ho2
    rw [he] at he2; cases he2
    exact h
  have ne : ∀ {k b}, LateAt P ops n0 cf Tf l g1 k b → k ≠ i := fun h => ck_once s.ck (s' := .pre _) h.mem.1
  have hnone : ∀ {k b}, LateAt P ops n0 cf Tf l g1 k b → m' b = none := fun h => H'.fresh _ (LateAt.ge hf h)
  have hM : M.le (m'.or M) := by
    refine Ren.or_le hx.le fun b L hb => ?_
    rcases s.dom b L hb with h | ⟨k, _, h⟩
    · exact .inl h
    · exact .inr (hnone (up h))
  have key : ∀ {k b L}, LateAt P ops n0 cf Tf l g1 k b → (m'.or M) b = some L → M b = some L := by
    intro k b L h hb
    rcases Ren.or_some hb with h1 | ⟨_, h1⟩
    · rw [hnone h] at h1; cases h1
    · exact h1
  refine hK (effs ||| 2 ^ i) (rs.filter fun j => !(anc (ancO ops) i).testBit j) g1 m' (m'.or M) _ w' ?_
  exact {
    H := H'
    le := Ren.le_or _ _
    sz := by rw [put_size.1]; exact s.sz
    dfr := by rw [put_size.2]; exact s.dfr
    ext := (s.ext.mono hx.le).put c0 ho
    lsz := by rw [Array.size_setIfInBounds]; exact s.lsz
    cl := closed_set s.lsz s.cl hr
    fct := hf
    ck := c7
    np := noEP_tail s.np
    x0 := s.x0.trans hx
    low := fun j hj => ((on_set hsz).1 hj).elim (fun e => e ▸ c0) (s.low j)
    dn := by
      intro j hj hdj
      rcases bit_or_iff.1 hdj with rfl | hdj2
      · exact ⟨fun _ => SlotR.self ho hd s.sz hv, fun h => absurd ((on_set hsz).2 (.inl rfl)) h⟩
      · have hji : j ≠ i := by rintro rfl; rw [hdj2] at c1; cases c1
        obtain ⟨h1, h2⟩ := s.dn j hj hdj2
        refine ⟨fun h => ((h1 (onn h hji)).mono hx.le).put fun oj d hoj hdd => dst_ne (wf_apart hwf) hj c0 hji hoj ho hdd, fun hnn => ?_⟩
        have hnn' : ¬ On listed j := fun h => hnn ((on_set hsz).2 (.inr h))
        obtain ⟨q1, q2, q3, q4⟩ := h2 hnn'
        have hin : clsO P ops n0 j = 1 → j ∈ rs ∧ (anc (ancO ops) i).testBit j = false := by
          intro h
          refine ⟨q4 h, ?_⟩
          cases hb : (anc (ancO ops) i).testBit j with
          | false => rfl
          | true => exact absurd (hanc j hb) hnn'
        refine ⟨fun _ => ?_, q2.tail, q3, fun h => List.mem_filter.2 ⟨(hin h).1, by rw [(hin h).2]; rfl⟩⟩
        rcases Nat.lt_or_ge (clsO P ops n0 j) 1 with h | h
        · have h : clsO P ops n0 j = 0 := by omega
          exact qrf_pure h (q1 (.inr h))
        · have h : clsO P ops n0 j = 1 := by omega
          obtain ⟨k1, k2⟩ := hin h
          have := List.all_eq_true.1 c5 j k1
          rw [k2, Bool.false_or] at this
          obtain ⟨x, hx1, hx2⟩ := List.any_eq_true.1 this
          rw [natBeq hx2]
          exact hck x hx1
    lt := by
      intro j hj hon
      have hji : j ≠ i := ck_once s.ck (s' := .pre j) hj
      obtain ⟨jl, _⟩ := ck_mem s.ck (List.mem_cons_of_mem _ hj)
      exact ((s.lt j (List.mem_cons_of_mem _ hj) (onn hon hji)).mono hM).put fun oj d hoj hdd => dst_ne (wf_apart hwf) jl c0 hji hoj ho hdd
    no := by
      intro j hj hon
      have hji : j ≠ i := by
        rcases hj with h | ⟨c', h⟩
        · exact ck_once s.ck (s' := .early j) h
        · exact ck_once s.ck (s' := .eff j c') h
      exact s.no j (hj.imp (fun h => List.mem_cons_of_mem _ h) fun ⟨c, h⟩ => ⟨c, List.mem_cons_of_mem _ h⟩) (onn hon hji)
    dom := by
      intro b L hb
      rcases Ren.or_some hb with h | ⟨h0, h⟩
      · exact .inl h
      · rcases s.dom b L h with h1 | ⟨k, hk, h1⟩
        · rw [hx.le _ _ h1] at h0; cases h0
        · exact .inr ⟨k, (on_set hsz).2 (.inr hk), up h1⟩
    li := by
      intro k b h hk
      obtain ⟨L, obj, e1, e2, e3, e4, e5⟩ := s.li k b (down h) (onn hk (ne h))
      have hlt := (Array.getElem?_eq_some_iff.1 e2).1
      exact ⟨L, obj, hM _ _ e1, (hx.same _ hlt e3).trans e2, hx.im _ hlt e3, e4, (e5.mono hM).same fun o' ho' => hnin (ck_mem s.ck (List.mem_cons_of_mem _ h.mem.1)).1 ho'⟩
    lits := by
      intro k j hk hj
      rcases bit_or_iff.1 hk with rfl | hk
      · rw [lit_cls (P := P) (by omega)] at hj; cases hj
      · exact (on_set hsz).2 (.inr (s.lits k j hk hj))
    ld := by
      intro k b k' b' L L' h hk h' hk' e1 e2 e3
      exact s.ld k b k' b' L L' (down h) (onn hk (ne h)) (down h') (onn hk' (ne h')) (key h e1) (key h' e2) e3 }

/-- What is done in any case is taken. -/
theorem St.doneS {i : Nat} (s : St P N ops n0 cf Tf g' m0 h0 w0 ds True l done effs rs g m M listed a w) (hwf : wfO ops n0 (ancO ops) = true) (hi : i < n0) (hdi : done.testBit i = true)
    (hr : i ∈ Region.ready .any ops listed) {o : Oper} (ho : ops[i]? = some o) {ro : Option Nat} {n : Nat} {K : Act → World → Prop} {Q : Exit → Act → World → Prop}
    (hK : ∀ a1, St P N ops n0 cf Tf g' m0 h0 w0 ds True l done effs rs g m M (listed.setIfInBounds i true) a1 w → K a1 w) : opWp (wideR ro) n P ops o a w K Q := by
  have hsz : i < listed.size := by rw [s.lsz]; exact (ready_spec s.lsz hr).1
  have hanc := ready_anc s.lsz s.cl hr
  have hoff := (ready_spec s.lsz hr).2.1
  obtain ⟨q1, q2, q3, q4⟩ := (s.dn i hi hdi).2 hoff
  obtain ⟨o', r, ho', hv, hd⟩ := q1 (.inl trivial)
  rw [ho] at ho'; cases ho'
  have onn : ∀ {k}, On (listed.setIfInBounds i true) k → k ≠ i → On listed k := fun h hk => ((on_set hsz).1 h).resolve_left hk
  have nei : ∀ {x : Stp}, x ∈ l → x.i ≠ i := by
    intro x hx e
    have := (ck_mem s.ck hx).2
    rw [e, hdi] at this; cases this
  have ne : ∀ {k b}, LateAt P ops n0 cf Tf l g k b → k ≠ i := fun h => nei (x := .pre _) h.mem.1
  have hni : litI ops n0 o = false := cls_litI (P := P) ho (by omega)
  have hlit : litIx ops n0 o = [] := by
    have := lit_cls (P := P) (ops := ops) (n0 := n0) (i := i) (by omega)
    unfold litO at this
    rw [ho] at this; exact this
  have hnin : ∀ {k o'}, k < n0 → ops[k]? = some o' → ∀ j ∈ litIx ops n0 o', j ≠ i := by
    rintro k o' hk ho' j hj rfl
    rw [litIx_ins hk ho' hj ho] at hni; cases hni
  obtain ⟨T', hF, hA⟩ := opFrame3 (mask := looksL ops n0 o) s.ext (a := a) fun j hj d hdd hl => by
    have hjon : On listed j := hanc j (wf_lay hwf hi ho (by rw [← looksL_reg hlit hni]; exact hl) hj hdd)
    cases hdj : done.testBit j with
    | true => exact (s.dn j hj hdj).1 hjon
    | false =>
      exfalso
      have h2 := (q2 o ho).1 d hl
      rcases ck_all s.ck hj with h | ⟨y, hy, rfl⟩
      · rw [h] at hdj; cases hdj
      · rw [dmask_mem hy hdd] at h2; cases h2
  rw [← valQR_congr hA] at hv
  refine valQR_wp s.H hF hni hv fun v hvr => hK _ ?_
  exact { s with
    sz := by rw [put_size.1]; exact s.sz
    dfr := by rw [put_size.2]; exact s.dfr
    ext := s.ext.put hi ho
    lsz := by rw [Array.size_setIfInBounds]; exact s.lsz
    cl := closed_set s.lsz s.cl hr
    low := fun j hj => ((on_set hsz).1 hj).elim (fun e => e ▸ hi) (s.low j)
    dn := by
      intro j hj hdj
      by_cases hji : j = i
      · subst hji
        exact ⟨fun _ => SlotR.self ho hd s.sz hvr, fun h => absurd ((on_set hsz).2 (.inl rfl)) h⟩
      · obtain ⟨h1, h2⟩ := s.dn j hj hdj
        exact ⟨fun h => (h1 (onn h hji)).put fun oj d hoj hdd => dst_ne (wf_apart hwf) hj hi hji hoj ho hdd, fun hnn => h2 fun h => hnn ((on_set hsz).2 (.inr h))⟩
    lt := by
      intro j hj hon
      have hji : j ≠ i := nei (x := .pre j) hj
      exact (s.lt j hj (onn hon hji)).put fun oj d hoj hdd => dst_ne (wf_apart hwf) (ck_mem s.ck hj).1 hi hji hoj ho hdd
    no := by
      intro j hj hon
      have hji : j ≠ i := by
        rcases hj with h | ⟨c', h⟩
        · exact nei (x := .early j) h
        · exact nei (x := .eff j c') h
      exact s.no j hj (onn hon hji)
    dom := fun b L hb => (s.dom b L hb).imp id fun ⟨k, hk, h⟩ => ⟨k, (on_set hsz).2 (.inr hk), h⟩
    li := fun k b h hk =>
      let ⟨L, obj, e1, e2, e3, e4, e5⟩ := s.li k b h (onn hk (ne h))
      ⟨L, obj, e1, e2, e3, e4, e5.same fun o' ho' => hnin (ck_mem s.ck h.mem.1).1 ho'⟩
    lits := fun k j hk hj => (on_set hsz).2 (.inr (s.lits k j hk hj))
    ld := fun k b k' b' L L' h hk h' hk' => s.ld k b k' b' L L' h (onn hk (ne h)) h' (onn hk' (ne h')) }

/-- What may come late is taken. -/
theorem St.preS {i : Nat} (s : St P N ops n0 cf Tf g' m0 h0 w0 ds R l done effs rs g m M listed a w) (hwf : wfO ops n0 (ancO ops) = true) (hpi : .pre i ∈ l)
    (hr : i ∈ Region.ready .any ops listed) {o : Oper} (ho : ops[i]? = some o) {ro : Option Nat} {n : Nat} {K : Act → World → Prop} {Q : Exit → Act → World → Prop}
    (hK : ∀ M1 a1 w1, St P N ops n0 cf Tf g' m0 h0 w0 ds R l done effs rs g m M1 (listed.setIfInBounds i true) a1 w1 → K a1 w1) : opWp (wideR ro) n P ops o a w K Q := by
  have hsz : i < listed.size := by rw [s.lsz]; exact (ready_spec s.lsz hr).1
  have hanc := ready_anc s.lsz s.cl hr
  have hoff := (ready_spec s.lsz hr).2.1
  obtain ⟨hi, hdi⟩ := ck_mem s.ck hpi
  have hdi : done.testBit i = false := hdi
  have hi : i < n0 := hi
  obtain ⟨o', r, gi, gi', ho', hp, hd⟩ := fct_pre s.fct hpi
  rw [ho] at ho'; cases ho'
  have onn : ∀ {k}, On (listed.setIfInBounds i true) k → k ≠ i → On listed k := fun h hk => ((on_set hsz).1 h).resolve_left hk
  have hfr : ∀ j, j < n0 → ∀ d : Nat, (dstM ops j).testBit d = true → (looksM ops o).testBit d = true → SlotR ops Tf M j a := by
    intro j hj d hdd hl
    have ha := wf_lay hwf hi ho hl hj hdd
    cases hdj : done.testBit j with
    | true => exact ((s.dn j hj hdj).1 (hanc j ha)).mono s.le
    | false =>
      rcases ck_all s.ck hj with h | ⟨y, hy, rfl⟩
      · rw [h] at hdj; cases hdj
      · cases y with
        | early j => exact absurd (hanc j ha) (s.no j (.inl hy))
        | eff j c => exact absurd (hanc j ha) (s.no j (.inr ⟨c, hy⟩))
        | pre j => exact s.lt j hy (hanc j ha)
  obtain ⟨T', hF, hA⟩ := opFrame3 (mask := looksM ops o) (s.ext.mono s.le) (a := a) hfr
  -- what is common
  have mk : ∀ {M1 : Ren} {w1 : World} {v : Value}, M.le M1 → HR m g w1 → Ext m0 h0 w0 m g w1 → SlotR ops Tf M1 i (a.put o.dst v) →
      (∀ b L, M1 b = some L → m b = some L ∨ ∃ k, On (listed.setIfInBounds i true) k ∧ LateAt P ops n0 cf Tf l g k b) →
      (∀ k b, LateAt P ops n0 cf Tf l g k b → On (listed.setIfInBounds i true) k → ∃ L obj, M1 b = some L ∧ w1.heap[L.blk]? = some obj ∧ ¬ Im m g L.blk ∧ w0.heap.size ≤ L.blk ∧ LObj P ops n0 Tf (listed.setIfInBounds i true) M1 k L obj) →
      (∀ k b k' b' L L', LateAt P ops n0 cf Tf l g k b → On (listed.setIfInBounds i true) k → LateAt P ops n0 cf Tf l g k' b' → On (listed.setIfInBounds i true) k' → M1 b = some L → M1 b' = some L' → L.blk = L'.blk → b = b') →
      St P N ops n0 cf Tf g' m0 h0 w0 ds R l done effs rs g m M1 (listed.setIfInBounds i true) (a.put o.dst v) w1 := by
    intro M1 w1 v hM H1 hx hv hdom hli hld
    exact { s with
      H := H1
      x0 := hx
      le := Ren.le_trans s.le hM
      sz := by rw [put_size.1]; exact s.sz
      dfr := by rw [put_size.2]; exact s.dfr
      ext := s.ext.put hi ho
      lsz := by rw [Array.size_setIfInBounds]; exact s.lsz
      cl := closed_set s.lsz s.cl hr
      low := fun j hj => ((on_set hsz).1 hj).elim (fun e => e ▸ hi) (s.low j)
      dn := by
        intro j hj hdj
        have hji : j ≠ i := by rintro rfl; rw [hdj] at hdi; cases hdi
        obtain ⟨h1, h2⟩ := s.dn j hj hdj
        exact ⟨fun h => (h1 (onn h hji)).put fun oj d hoj hdd => dst_ne (wf_apart hwf) hj hi hji hoj ho hdd, fun hnn => h2 fun h => hnn ((on_set hsz).2 (.inr h))⟩
      lt := by
        intro j hj hon
        by_cases hji : j = i
        · subst hji
          exact hv
        · exact ((s.lt j hj (onn hon hji)).mono hM).put fun oj d hoj hdd => dst_ne (wf_apart hwf) (ck_mem s.ck hj).1 hi hji hoj ho hdd
      no := by
        intro j hj hon
        by_cases hji : j = i
        · subst hji
          rcases hj with h | ⟨c', h⟩
          · have := ck_uniq s.ck hpi h rfl; cases this
          · have := ck_uniq s.ck hpi h rfl; cases this
        · exact s.no j hj (onn hon hji)
      dom := hdom
      li := hli
      lits := fun k j hk hj => (on_set hsz).2 (.inr (s.lits k j hk hj))
      ld := hld }
  have hdom0 : ∀ b L, M b = some L → m b = some L ∨ ∃ k, On (listed.setIfInBounds i true) k ∧ LateAt P ops n0 cf Tf l g k b :=
    fun b L hb => (s.dom b L hb).imp id fun ⟨k, hk, h⟩ => ⟨k, (on_set hsz).2 (.inr hk), h⟩
  -- an insertion of a literal
  by_cases hins : litI ops n0 o = true
  · obtain ⟨t, d, kx, vx, hop, hog, hod, hmk⟩ := litI_spec hins
    obtain ⟨k, hkr, hmk⟩ := List.any_eq_true.1 hmk
    have hkn : k < n0 := by simpa using hkr
    cases hok : ops[k]? with
    | none => rw [hok] at hmk; cases hmk
    | some ok =>
    rw [hok] at hmk
    obtain ⟨g1, g2, g3⟩ := isMk_spec hmk
    have hix : i ∈ insIx ops n0 t d := by
      simp only [insIx, List.mem_filter, List.mem_range]
      refine ⟨hi, ?_⟩
      rw [ho]
      exact isIns_of hop hog hod
    have hlix : litIx ops n0 ok = insIx ops n0 t d := by simp [litIx, g1, g2, g3]
    have hmem : i ∈ litIx ops n0 ok := by rw [hlix]; exact hix
    obtain ⟨i0, r0, hcons⟩ : ∃ i0 r0, litIx ops n0 ok = i0 :: r0 := by
      cases h : litIx ops n0 ok with
      | nil => rw [h] at hmem; cases hmem
      | cons x y => exact ⟨x, y, rfl⟩
    have hkanc : (anc (ancO ops) i).testBit k = true := wf_lay hwf hi ho (looksM_mem (by simp [hop, Op.operands])) hkn (dstM_bit hok g3)
    have hkon := hanc k hkanc
    have hpk : .pre k ∈ l := by
      rcases ck_all s.ck hkn with h | ⟨y, hy, rfl⟩
      · refine absurd (s.lits k i h ?_) hoff
        unfold litO
        rw [hok]; exact hmem
      · cases y with
        | early j => exact absurd hkon (s.no j (.inl hy))
        | eff j c => exact absurd hkon (s.no j (.inr ⟨c, hy⟩))
        | pre j => exact hy
    have hwk : wantA ops ok Tf = some true := by unfold wantA; rw [g2]
    obtain ⟨b, ob, kk, hlate, hfT, hd2⟩ := LateAt.ex hok (opL_lit (P := P) hcons) hwk s.fct hpk
    obtain ⟨L, obj, e1, e2, e3, e4, e5⟩ := s.li k b hlate hkon
    obtain ⟨e6, e7, _, e9⟩ := e5 ok _ ob kk hok (opL_lit (P := P) hcons) hfT
    obtain ⟨es, ck, rfl, hR⟩ := e9 (by rw [hcons]; simp)
    simp only [Option.bind_eq_some_iff, Option.map_eq_some_iff, Prod.mk.injEq] at hfT
    obtain ⟨⟨ko, et⟩, hko, l1, hl1, rfl, rfl⟩ := hfT
    have hlt : litT ok = t := by simp [litT, g1]
    rw [hlt] at hko
    rw [← hcons] at hl1
    obtain ⟨p, hp, _, hck, hne⟩ := litA_keys hl1 hmem
    have hfind : findA ko.eq p.1 (partL ops n0 Tf listed ok) = some none := by
      refine findA_none fun q hq => ?_
      obtain ⟨j, hj, hq⟩ := List.mem_filterMap.1 hq
      obtain ⟨hj1, hj2⟩ := List.mem_filter.1 hj
      refine hne j hj1 ?_ q hq
      rintro rfl
      exact hoff hj2
    -- the map's value
    obtain ⟨A, v, x1, x2, x3⟩ := s.lt k hpk hkon ok d hok g3
    rw [(hd2 d g3).1] at x1; cases x1
    obtain ⟨L', hb', rfl⟩ := vr_map x3
    rw [e1] at hb'; cases hb'
    -- key and value
    have hp2 : ∃ K V, p = (K, V) ∧ evO kx T' = some K ∧ evO vx T' = some V := by
      simp only [entO, ho, Option.bind_some, hop, Option.bind_eq_some_iff, Option.map_eq_some_iff] at hp
      obtain ⟨K, hK, V, hV, rfl⟩ := hp
      have hev : ∀ x, x ∈ o.op.operands.toList → evO x T' = evO x Tf := by
        intro x hx
        cases x with
        | tmp u => exact hA u (looksM_mem hx)
        | const v => rfl
        | func f => rfl
        | global g => rfl
      exact ⟨K, V, rfl, by rw [hev kx (by simp [hop, Op.operands])]; exact hK, by rw [hev vx (by simp [hop, Op.operands])]; exact hV⟩
    obtain ⟨K0, V0, rfl, hK0, hV0⟩ := hp2
    obtain ⟨es', ck', hrun, hR'⟩ := ins_run hko e2 hR hck hfind (evO_vr hF hK0) (evO_vr hF hV0)
    unfold opWp
    rw [wantA_sim (T := T') (b := true) hF (by unfold wantA; rw [hog]), if_pos rfl]
    refine ⟨fun _ _ => trivial, ?_⟩
    have hkb : ∃ f, opK P o.op = .e f := by rw [hop]; exact ⟨_, rfl⟩
    obtain ⟨f, hkf⟩ := hkb
    rw [semAt_op _ hkf (by simp)]
    have hex : execOp a.eval o = (do Instr.mapUpdate t (a.eval (.tmp d)) (a.eval kx) (a.eval vx); pure Next.skip : Sem Next) := by unfold execOp; simp only [hop]
    have hev : a.eval (.tmp d) = .map (some L.blk) := by
      simp only [Act.eval, Array.getD_eq_getD_getElem?]
      rw [x2]; rfl
    rw [hex, hev, bindU_ok hrun]
    refine hK M _ _ (mk (v := undef) (Ren.le_refl M) (s.H.other e3 _) ?_ ?_ hdom0 ?_ ?_)
    · refine ⟨s.x0.le, by simpa [World.putBlock] using s.x0.size, fun B hB hi => ?_, s.x0.im, s.x0.tape, s.x0.os, s.x0.output, fun a => (frozen_put (ob' := .map es' ck') e2 trivial trivial a).trans (s.x0.fz a)⟩
      rw [putBlock_get, if_neg (by omega)]
      exact s.x0.same B hB hi
    · intro o' d' ho' hd'
      rw [ho] at ho'; cases ho'
      rw [hod] at hd'; cases hd'
    · intro k' b' h' hk'
      have hki : k' ≠ i := by
        rintro rfl
        obtain ⟨_, o2, f2, ho2, hk2, _⟩ := h'.mem
        rw [ho] at ho2; cases ho2
        rw [opL_ins hins] at hk2; cases hk2
      by_cases hkk : k' = k
      · subst hkk
        have := (LateAt.uniq s.fct h' hlate).1 rfl
        subst this
        have hltB := (Array.getElem?_eq_some_iff.1 e2).1
        refine ⟨L, _, e1, by rw [putBlock_get, if_pos ⟨rfl, hltB⟩], e3, e4, fun o2 f2 ob2 kk2 y1 y2 y3 => ?_⟩
        rw [hok] at y1; cases y1
        rw [opL_lit hcons, OpK.a.injEq] at y2
        subst y2
        simp only [Option.bind_eq_some_iff, Option.map_eq_some_iff, Prod.mk.injEq] at y3
        obtain ⟨_, _, l2, _, rfl, _⟩ := y3
        refine ⟨e6, e7, fun h => (by rw [hcons] at h; cases h), fun _ => ⟨es', ck', rfl, MapR.perm (partL_new hmem hsz hoff hp) hR'⟩⟩
      · obtain ⟨L2, obj2, f1, f2, f3, f4, f5⟩ := s.li k' b' h' (onn hk' hki)
        have hbb : L2.blk ≠ L.blk := by
          intro e
          have := s.ld k' b' k b L2 L h' (onn hk' hki) hlate hkon f1 e1 e
          subst this
          exact hkk ((LateAt.uniq s.fct h' hlate).2 rfl)
        refine ⟨L2, obj2, f1, by rw [putBlock_get, if_neg (fun e => hbb e.1)]; exact f2, f3, f4, f5.same fun o' ho' j hj => ?_⟩
        rintro rfl
        obtain ⟨_, t2, d2, q1, q2, q3, o3, ho3, q4⟩ := litIx_mem hj
        rw [ho] at ho3; cases ho3
        obtain ⟨_, _, q5, _⟩ := isIns_spec q4
        rw [hop] at q5
        simp only [Op.insert.injEq, Operand.tmp.injEq] at q5
        obtain ⟨_, rfl, _⟩ := q5
        exact dst_ne (wf_apart hwf) (ck_mem s.ck h'.mem.1).1 hkn hkk ho' hok q2 g3
    · intro k1 b1 k2 b2 L1 L2 h1 hk1 h2 hk2 y1 y2 y3
      have hki : ∀ {k' b'}, LateAt P ops n0 cf Tf l g k' b' → k' ≠ i := by
        rintro k' b' h' rfl
        obtain ⟨_, o2, f2, ho2, hk2, _⟩ := h'.mem
        rw [ho] at ho2; cases ho2
        rw [opL_ins hins] at hk2; cases hk2
      exact s.ld k1 b1 k2 b2 L1 L2 h1 (onn hk1 (hki h1)) h2 (onn hk2 (hki h2)) y1 y2 y3
  have hni : litI ops n0 o = false := by
    cases h : litI ops n0 o with
    | false => rfl
    | true => exact absurd h hins
  have hnin : ∀ {k o'}, k < n0 → ops[k]? = some o' → ∀ j ∈ litIx ops n0 o', j ≠ i := by
    rintro k o' hk ho' j hj rfl
    rw [litIx_ins hk ho' hj ho] at hni; cases hni
  -- no block
  have plain : ∀ {v : Value}, VR M r v → (∀ {b}, ¬ LateAt P ops n0 cf Tf l g i b) → K (a.put o.dst v) w := by
    intro v hv hno
    have ne : ∀ {k b}, LateAt P ops n0 cf Tf l g k b → k ≠ i := by rintro k b h rfl; exact hno h
    refine hK M _ w (mk (Ren.le_refl M) s.H s.x0 (SlotR.self ho hd s.sz hv) hdom0 ?_ ?_)
    · intro k b h hk
      obtain ⟨L, obj, e1, e2, e3, e4, e5⟩ := s.li k b h (onn hk (ne h))
      exact ⟨L, obj, e1, e2, e3, e4, e5.same fun o' ho' => hnin (ck_mem s.ck h.mem.1).1 ho'⟩
    · exact fun k b k' b' L L' h hk h' hk' => s.ld k b k' b' L L' h (onn hk (ne h)) h' (onn hk' (ne h'))
  -- a block
  have block : ∀ {f : Tr AV → Option (AObj × (Bn → AV))} {b : Bn} {ob : AObj} {kk : Bn → AV}, LateAt P ops n0 cf Tf l g i b → DstIs N Tf o (kk b) → ∀ {obj : Obj} {cap : Nat} {vv : Nat → Value}, Unfz obj →
      (∀ (m' : Ren) b B, m' b = some ⟨B, 0, cap⟩ → VR m' (kk b) (vv B)) → (∀ {M' : Ren}, M.le M' → LObj P ops n0 Tf (listed.setIfInBounds i true) M' i ⟨w.heap.size, 0, cap⟩ obj) → K (a.put o.dst (vv w.heap.size)) (w.alloc obj) := by
    intro _ b ob kk hlate hd2 obj cap vv hu g3 hobj
    obtain ⟨H1, hx1⟩ := s.H.alloc hu
    have hge := LateAt.ge s.fct hlate
    have hmb : m b = none := s.H.fresh b hge
    have hMb : M b = none := by
      cases hc : M b with
      | none => rfl
      | some L =>
        rcases s.dom b L hc with h | ⟨k, hk', h⟩
        · rw [hmb] at h; cases h
        · have := (LateAt.uniq s.fct h hlate).2 rfl
          subst this
          exact absurd hk' hoff
    have hM := Ren.le_set hMb ⟨w.heap.size, 0, cap⟩
    have hsame : (M.set b ⟨w.heap.size, 0, cap⟩) b = some ⟨w.heap.size, 0, cap⟩ := by simp [Ren.set]
    have hother : ∀ {x}, x ≠ b → (M.set b ⟨w.heap.size, 0, cap⟩) x = M x := by intro x hx; simp [Ren.set, hx]
    have hheap : (w.alloc obj).heap = w.heap.push obj := rfl
    have old : ∀ {k x}, LateAt P ops n0 cf Tf l g k x → On (listed.setIfInBounds i true) k → k ≠ i → x ≠ b ∧ ∃ L obj', M x = some L ∧ w.heap[L.blk]? = some obj' ∧ ¬ Im m g L.blk ∧ w0.heap.size ≤ L.blk ∧ LObj P ops n0 Tf (listed.setIfInBounds i true) M k L obj' := by
      intro k x h hk' hne
      obtain ⟨L, obj, e1, e2, e3, e4, e5⟩ := s.li k x h (onn hk' hne)
      exact ⟨fun e => hne ((LateAt.uniq s.fct h hlate).2 e), L, obj, e1, e2, e3, e4, e5.same fun o' ho' => hnin (ck_mem s.ck h.mem.1).1 ho'⟩
    have case : ∀ {k x}, LateAt P ops n0 cf Tf l g k x → On (listed.setIfInBounds i true) k → (k = i ∧ x = b) ∨ k ≠ i := by
      intro k x h hk'
      by_cases e : k = i
      · exact .inl ⟨e, (LateAt.uniq s.fct h hlate).1 e⟩
      · exact .inr e
    refine hK _ _ _ (mk hM H1 (s.x0.trans hx1) (SlotR.self ho hd2 s.sz (g3 _ b w.heap.size hsame)) ?_ ?_ ?_)
    · intro x L hx
      by_cases e : x = b
      · exact .inr ⟨i, (on_set hsz).2 (.inl rfl), e ▸ hlate⟩
      · rw [hother e] at hx
        exact hdom0 x L hx
    · intro k x h hk'
      rcases case h hk' with ⟨rfl, rfl⟩ | hne
      · refine ⟨_, obj, hsame, by rw [hheap]; simp, ?_, s.x0.size, hobj hM⟩
        rintro ⟨b', o', L', hg, hm', he⟩
        have := s.H.lt hg hm'
        simp only at he
        omega
      · obtain ⟨y0, L, obj', y1, y2, y3, y4, y5⟩ := old h hk' hne
        refine ⟨L, obj', by rw [hother y0]; exact y1, ?_, y3, y4, y5.mono hM⟩
        have := (Array.getElem?_eq_some_iff.1 y2).1
        rw [hheap, Array.getElem?_push, if_neg (by omega), y2]
    · intro k x k' x' L L' h hk' h' hk'' e1 e2 e3
      rcases case h hk' with ⟨rfl, rfl⟩ | hne
      · rcases case h' hk'' with ⟨_, rfl⟩ | hne'
        · rfl
        · exfalso
          obtain ⟨y0, L2, obj', y1, y2, _⟩ := old h' hk'' hne'
          rw [hother y0] at e2
          rw [y1] at e2; cases e2
          rw [hsame] at e1; cases e1
          have := (Array.getElem?_eq_some_iff.1 y2).1
          simp only at e3
          omega
      · obtain ⟨y0, L2, obj', y1, y2, _⟩ := old h hk' hne
        rw [hother y0] at e1
        rcases case h' hk'' with ⟨rfl, rfl⟩ | hne'
        · exfalso
          rw [y1] at e1; cases e1
          rw [hsame] at e2; cases e2
          have := (Array.getElem?_eq_some_iff.1 y2).1
          simp only at e3
          omega
        · obtain ⟨y0', _⟩ := old h' hk'' hne'
          rw [hother y0'] at e2
          exact s.ld k x k' x' L L' h (onn hk' hne) h' (onn hk'' hne') e1 e2 e3
  cases hlit : litIx ops n0 o with
  | cons j0 r0 =>
    -- a literal's map
    obtain ⟨t, d, hop, hod, hog, _⟩ := litIx_spec hlit
    have hwt : ∀ T, wantA ops o T = some true := by intro T; unfold wantA; rw [hog]
    obtain ⟨b, ob, kk, hlate, hfT, hd2⟩ := LateAt.ex ho (opL_lit (P := P) hlit) (hwt Tf) s.fct hpi
    have hfT0 := hfT
    simp only [Option.bind_eq_some_iff, Option.map_eq_some_iff, Prod.mk.injEq] at hfT
    obtain ⟨_, _, l1, _, rfl, rfl⟩ := hfT
    have hFl : FR M (.leaf : Tr AV) a.tmps := fun t A h => by simp at h
    have hk0 : opK P o.op = .a fun _ => some (.map [], fun b => .map b) := by rw [hop]; rfl
    refine preN_wp hFl (hwt _) hk0 rfl fun obj cap vv hcap _ g2 g3 => block (f := fun _ => none) (ob := .map l1) hlate hd2 (g2 0).unfz g3 fun {M'} hM => ?_
    intro o2 f2 ob2 kk2 y1 y2 y3
    rw [ho] at y1; cases y1
    rw [opL_lit hlit, OpK.a.injEq] at y2
    subst y2
    have y3 := hfT0.symm.trans y3
    simp only [Option.some.injEq, Prod.mk.injEq] at y3
    obtain ⟨rfl, _⟩ := y3
    refine ⟨rfl, hcap, fun h => (by rw [hlit] at h; cases h), fun _ => ?_⟩
    have h2 := g2 w.heap.size
    obtain ⟨es, ck, rfl⟩ : ∃ es ck, obj = .map es ck := by
      cases obj <;> first | exact h2.elim | exact ⟨_, _, rfl⟩
    refine ⟨es, ck, rfl, ?_⟩
    have hnil : partL ops n0 Tf (listed.setIfInBounds i true) o = [] := by
      unfold partL
      have : (litIx ops n0 o).filter (fun j => (listed.setIfInBounds i true).getD j false) = [] := by
        rw [List.filter_eq_nil_iff]
        intro j hj hon
        obtain ⟨jl, t2, d2, q1, q2, q3, o3, ho3, q4⟩ := litIx_mem hj
        have hji : j ≠ i := hnin hi ho j hj
        have hon := onn hon hji
        obtain ⟨_, _, q5, _⟩ := isIns_spec q4
        exact hoff (s.cl j hon i (wf_lay hwf jl ho3 (looksM_mem (by simp [q5, Op.operands])) hi (dstM_bit ho q2)))
      rw [this]; rfl
    rw [hnil]
    exact MapR.mono hM h2
  | nil =>
  have hA : AgreeO ops n0 T' Tf o := by unfold AgreeO; rw [looksL_reg hlit hni]; exact hA
  have hwA := hA.want
  rcases preA_cases hp with ⟨_, ⟨hb, rfl⟩ | ⟨hb, f, hk, hfT⟩⟩ | ⟨hb, f, ob, kk, hk, hfT, _, hr'⟩
  · unfold opWp
    rw [wantA_sim hF (hwA.trans hb), if_neg (by simp)]
    refine ⟨fun _ _ => trivial, plain (vr_undef M) fun h => ?_⟩
    obtain ⟨_, o2, f2, ho2, _, hw2⟩ := h.mem
    rw [ho] at ho2; cases ho2
    rw [hb] at hw2; cases hw2
  · rw [← opLq_congr hA hk] at hfT
    have e : preA P ops n0 o gi T' = some (gi, r) := by unfold preA; rw [hwA, hb]; simp only [Option.bind_some, cond_true, hk, hfT, Option.map_some]
    refine preQ_wp hF hni e (fun f' hk' => by rw [hk] at hk'; cases hk') fun v hv => plain hv fun h => ?_
    obtain ⟨_, o2, f2, ho2, hk2, _⟩ := h.mem
    rw [ho] at ho2; cases ho2
    rw [hk] at hk2; cases hk2
  · obtain ⟨b, ob2, kk2, hlate, hfT2, hd2⟩ := LateAt.ex ho hk hb s.fct hpi
    rw [hfT] at hfT2; cases hfT2
    have hfT' := hfT
    rw [← opLa_congr hA hk] at hfT'
    have hk0 := hk
    rw [opL_reg hlit hni] at hk0
    refine preN_wp hF (hwA.trans hb) hk0 hfT' fun obj cap vv hcap _ g2 g3 => block (f := f) (ob := ob) hlate hd2 (g2 0).unfz g3 fun {M'} hM => ?_
    intro o2 f2 ob2 kk2 y1 y2 y3
    rw [ho] at y1; cases y1
    rw [hk, OpK.a.injEq] at y2
    subst y2
    rw [hfT] at y3
    simp only [Option.some.injEq, Prod.mk.injEq] at y3
    obtain ⟨rfl, _⟩ := y3
    exact ⟨rfl, hcap, fun _ => (g2 _).mono hM, fun h => absurd hlit h⟩
end
end Go.Ev

/- Whatever order: a region that draws it. -/
set_option linter.unusedSimpArgs false
namespace Go.Ev

/-- How many are not yet listed. -/
def offN (listed : Array Bool) (n : Nat) : Nat := ((List.range n).filter fun i => !(listed.getD i false)).length
theorem filter_lt {α : Type} {p q : α → Bool} (h : ∀ x, q x = true → p x = true) : ∀ {l : List α} {x : α} (_ : x ∈ l) (_ : p x = true) (_ : q x = false), (l.filter q).length < (l.filter p).length
  | y :: l, x, hx, hp, hq => by
    have hle : ∀ l : List α, (l.filter q).length ≤ (l.filter p).length := by
      intro l
      induction l with
      | nil => exact Nat.le_refl _
      | cons z l ih =>
        cases hz : q z with
        | true => simp [List.filter_cons, hz, h z hz, ih]
        | false =>
          cases hz' : p z with
          | true => simp [List.filter_cons, hz, hz']; omega
          | false => simp [List.filter_cons, hz, hz', ih]
    cases hx with
    | head => simp [List.filter_cons, hp, hq]; have := hle l; omega
    | tail _ hx =>
      have ih := filter_lt h hx hp hq
      cases hz : q y with
      | true => simp [List.filter_cons, hz, h y hz, ih]
      | false =>
        cases hz' : p y with
        | true => simp [List.filter_cons, hz, hz']; omega
        | false => simp [List.filter_cons, hz, hz', ih]
theorem offN_set {listed : Array Bool} {n i : Nat} (hi : i < n) (hs : i < listed.size) (hn : ¬ On listed i) : offN (listed.setIfInBounds i true) n < offN listed n := by
  refine filter_lt (x := i) ?_ (by simpa using hi) ?_ ?_
  · intro x hx
    simp only [Bool.not_eq_true'] at hx ⊢
    cases h : listed.getD x false with
    | false => rfl
    | true => have := (on_set hs).2 (.inr h); unfold On at this; rw [this] at hx; cases hx
  · simp only [Bool.not_eq_true']
    cases h : listed.getD i false with
    | false => rfl
    | true => exact absurd h hn
  · have := (on_set (j := i) hs).2 (.inl rfl)
    unfold On at this
    rw [this]; rfl
theorem offN_zero {listed : Array Bool} {n : Nat} (h : offN listed n = 0) {i : Nat} (hi : i < n) : On listed i := by
  cases hb : listed.getD i false with
  | true => exact hb
  | false =>
    have : i ∈ (List.range n).filter fun i => !(listed.getD i false) := List.mem_filter.2 ⟨by simpa using hi, by rw [hb]; rfl⟩
    rw [offN, List.length_eq_zero_iff] at h
    rw [h] at this; cases this

section
variable {P : Program} {N : Nat} {ops : Array Oper} {n0 : Nat}

/-- Whoever waits, waits for one ahead of it. -/
def backO (ops : Array Oper) : Bool := (List.range ops.size).all fun i => match ops[i]? with
  | some o => o.after.toList.all fun e => !(Region.binds .any e) || Nat.blt e.on i
  | none => false
theorem backO_spec (h : backO ops = true) {i : Nat} {o : Oper} (ho : ops[i]? = some o) {e : Edge} (he : e ∈ o.after.toList) (hb : Region.binds .any e = true) : e.on < i := by
  have hlt := (Array.getElem?_eq_some_iff.1 ho).1
  have := List.all_eq_true.1 h i (by simpa using hlt)
  rw [ho] at this
  have := List.all_eq_true.1 this e he
  rw [hb, Bool.not_true, Bool.false_or, blt_iff] at this
  exact this
theorem all_on (hb : backO ops = true) {listed : Array Bool} (hsz : listed.size = ops.size) (hr : Region.ready .any ops listed = []) : ∀ i, i < ops.size → On listed i := by
  intro i
  induction i using Nat.strongRecOn with
  | ind i ih =>
    intro hi
    cases hon : listed.getD i false with
    | true => exact hon
    | false =>
      exfalso
      have : i ∈ Region.ready .any ops listed := by
        simp only [Region.ready, List.mem_filter, List.mem_range, Bool.and_eq_true, Bool.not_eq_true']
        have hlt : i < listed.size := by omega
        refine ⟨hi, ?_, ?_⟩
        · simp only [Array.getD_eq_getD_getElem?, Array.getElem?_eq_getElem hlt, Option.getD_some] at hon ⊢
          exact hon
        · have ho : ops[i]? = some ops[i] := Array.getElem?_eq_getElem hi
          rw [ho]
          simp only [Option.map_some, Option.getD_some]
          rw [Array.all_eq_true_iff_forall_mem]
          intro e he
          cases hbn : Region.binds .any e with
          | false => rfl
          | true =>
            have hlt := backO_spec hb ho (by simpa using he) hbn
            have := ih e.on hlt (by omega)
            unfold On at this
            rw [this]; simp
      rw [hr] at this; cases this

theorem wpOpIn_of {i : Nat} {o : Oper} (ho : ops[i]? = some o) {F : Fence} {n : Nat} {K : Act → World → Prop} {Q : Exit → Act → World → Prop} {a : Act} {w : World} (h : opWp F n P ops o a w K Q) : wpOpIn F n P ops Q i K a w := by
  unfold wpOpIn
  rw [ho]
  exact h

variable {cf : CallF} {Tf : Tr AV} {g' : AHeap} {m0 : Ren} {h0 : AHeap} {w0 : World} {ds : List Deferred} {R : Prop} {l : List Stp} {done effs : Nat} {rs : List Nat} {g : AHeap} {m M : Ren} {listed : Array Bool} {a : Act} {w : World}

theorem tailOk_spec {t : Tr Nat} (h : tailOk ops n0 t = true) {i : Nat} (hi : i < ops.size) (hn : n0 ≤ i) {j : Nat} (hj : j < i) : (anc t i).testBit j = true := by
  have := List.all_eq_true.1 h i (by simpa using hi)
  rw [Bool.or_eq_true, blt_iff] at this
  rcases this with h | h
  · omega
  · rw [natBeq h, Nat.testBit_two_pow_sub_one]; simpa using hj

/-- The tail: one behind the other. -/
theorem tail_wp (hN : NamesOk P) (hcf : CallOk P cf) (hb : backO ops = true) (ht : tailOk ops n0 (ancO ops) = true) {ro : Option Nat} {n : Nat} {Q : Exit → Act → World → Prop} {T' : Tr AV} {h' : AHeap} :
    ∀ (fuel k : Nat) {m : Ren} {h : AHeap} {w : World} {T : Tr AV} {a : Act} {listed : Array Bool} (_ : n0 ≤ k) (_ : k ≤ ops.size) (_ : listed.size = ops.size) (_ : Closed (ancO ops) listed) (_ : ∀ i, On listed i ↔ i < k) (_ : ops.size ≤ k + fuel) (_ : HR m h w) (_ : FR m T a.tmps) (_ : a.tmps.size = N)
      (_ : opsE P N ops (ops.toList.drop k) cf h T = some (h', T')) (_ : After P N m h w a.defers h' T' (Q .normal)), wpAnyIn (wideR ro) n P .any ops Q fuel listed a w := by
  have stop : ∀ {k : Nat} {m : Ren} {h : AHeap} {w : World} {T : Tr AV} {a : Act}, k = ops.size → HR m h w → FR m T a.tmps → a.tmps.size = N → opsE P N ops (ops.toList.drop k) cf h T = some (h', T') → After P N m h w a.defers h' T' (Q .normal) → Q .normal a w := by
    intro k m h w T a hk H hF hs e hQ
    have : ops.toList.drop k = [] := List.drop_eq_nil_of_le (by simp; omega)
    rw [this] at e
    have e : some (h, T) = some (h', T') := e
    simp only [Option.some.injEq, Prod.mk.injEq] at e
    obtain ⟨rfl, rfl⟩ := e
    exact hQ m w a H hF hs rfl (Ext.refl _ _ _)
  have full : ∀ {k : Nat} {listed : Array Bool}, k ≤ ops.size → listed.size = ops.size → (∀ i, On listed i ↔ i < k) → Region.ready .any ops listed = [] → k = ops.size := by
    intro k listed hk hsz hon hr
    rcases Nat.lt_or_ge k ops.size with h | h
    · have := (hon k).1 (all_on hb hsz hr k h); omega
    · omega
  intro fuel
  induction fuel with
  | zero =>
    intro k m h w T a listed hn hk hsz hc hon hfu H hF hs e hQ
    have hk' : k = ops.size := by omega
    refine ⟨?_, stop hk' H hF hs e hQ⟩
    cases hr : Region.ready .any ops listed with
    | nil => rfl
    | cons i l =>
      exfalso
      have : i ∈ Region.ready .any ops listed := by rw [hr]; exact List.mem_cons_self
      obtain ⟨h1, h2, _⟩ := ready_spec hsz this
      exact h2 ((hon i).2 (by omega))
  | succ fuel ih =>
    intro k m h w T a listed hn hk hsz hc hon hfu H hF hs e hQ
    refine ⟨fun hr => stop (full hk hsz hon hr) H hF hs e hQ, fun i hi => ?_⟩
    obtain ⟨h1, h2, o, ho, h3⟩ := ready_spec hsz hi
    have hki : k ≤ i := by rcases Nat.lt_or_ge i k with h | h; exact absurd ((hon i).2 h) h2; exact h
    have hik : i = k := by
      rcases Nat.lt_or_ge k i with h | h
      · have := ready_anc hsz hc hi k (tailOk_spec ht h1 (by omega) h)
        have := (hon k).1 this; omega
      · omega
    subst hik
    have hdrop : ops.toList.drop i = o :: ops.toList.drop (i + 1) := by
      have hlt : i < ops.toList.length := by simpa using h1
      rw [List.drop_eq_getElem_cons hlt]
      congr 1
      have : ops[i]? = some ops[i] := Array.getElem?_eq_getElem h1
      rw [this] at ho
      simpa using Option.some.inj ho
    rw [hdrop] at e
    have e : ((stepO P N ops o cf h T).bind fun r => opsE P N ops (ops.toList.drop (i + 1)) cf r.1 r.2) = some (h', T') := e
    simp only [Option.bind_eq_some_iff] at e
    obtain ⟨⟨h1', T1⟩, h2', e⟩ := e
    refine wpOpIn_of ho (stepO_wp hN hcf H hF hs h2' ?_)
    intro m1 w1 a1 H1 hF1 hs1 hd1 hx1
    refine ih (i + 1) (by omega) (by omega) (by rw [Array.size_setIfInBounds]; exact hsz) (closed_set hsz hc hi) (fun j => ?_) (by omega) H1 hF1 hs1 e (by rw [hd1]; exact hQ.trans hx1)
    rw [on_set (by omega), hon]; omega

/-- All that are early are passed. -/
theorem St.norm : ∀ {l : List Stp} {done effs : Nat} {rs : List Nat} {m M : Ren} (_ : St P N ops n0 cf Tf g' m0 h0 w0 ds True l done effs rs g m M listed a w),
    ∃ l' done' rs', (∀ i l'', l' ≠ .early i :: l'') ∧ St P N ops n0 cf Tf g' m0 h0 w0 ds True l' done' effs rs' g m M listed a w
  | [], done, effs, rs, m, M, s => ⟨[], done, rs, (fun _ _ h => by cases h), s⟩
  | .early i :: l, done, effs, rs, m, M, s => by
    obtain ⟨rs', s'⟩ := s.drop
    exact s'.norm
  | .pre i :: l, done, effs, rs, m, M, s => ⟨_, _, _, (fun _ _ h => by cases h), s⟩
  | .eff i c :: l, done, effs, rs, m, M, s => ⟨_, _, _, (fun _ _ h => by cases h), s⟩

/-- All is listed: all is released. -/
theorem St.fin (hwf : wfO ops n0 (ancO ops) = true) : ∀ {l : List Stp} {R : Prop} {done effs : Nat} {rs : List Nat} {g : AHeap} {m M : Ren} (_ : St P N ops n0 cf Tf g' m0 h0 w0 ds R l done effs rs g m M listed a w) (_ : ∀ i, i < n0 → On listed i),
    ∃ m1, HR m1 g' w ∧ FR m1 Tf a.tmps ∧ Ext m0 h0 w0 m1 g' w
  | [], R, done, effs, rs, g, m, M, s, hon => by
    have hg : g = g' := s.fct
    subst hg
    refine ⟨m, s.H, ?_, s.x0⟩
    intro t A hg
    by_cases hex : ∃ j o', j < n0 ∧ ops[j]? = some o' ∧ o'.dst = some t
    · obtain ⟨j, o', hj, ho', hd⟩ := hex
      rcases ck_all s.ck hj with h | ⟨y, hy, _⟩
      · obtain ⟨A', v, h1, h2, h3⟩ := (s.dn j hj h).1 (hon j hj) o' t ho' hd
        rw [hg] at h1; cases h1
        exact ⟨v, h2, h3⟩
      · cases hy
    · exact s.ext t A (fun j o' hj ho' hd => hex ⟨j, o', hj, ho', hd⟩) hg
  | .early i :: l, R, done, effs, rs, g, m, M, s, hon => absurd (hon i (ck_mem s.ck List.mem_cons_self).1) (s.no i (.inl List.mem_cons_self))
  | .eff i c :: l, R, done, effs, rs, g, m, M, s, hon => absurd (hon i (ck_mem s.ck List.mem_cons_self).1) (s.no i (.inr ⟨c, List.mem_cons_self⟩))
  | .pre i :: l, R, done, effs, rs, g, m, M, s, hon => by
    obtain ⟨g1, m1, _, s1⟩ := s.release hwf (hon i (ck_mem s.ck List.mem_cons_self).1) (fun j hj => by
      unfold litO at hj
      split at hj
      · exact hon j (litIx_mem hj).1
      · cases hj)
    exact St.fin hwf s1 hon

/-- What writes, where it is ready, stands behind such alone as may come late, and are listed. -/
theorem St.toEff (hN : NamesOk P) (hcf : CallOk P cf) (hwf : wfO ops n0 (ancO ops) = true) {i : Nat} (hr : i ∈ Region.ready .any ops listed) {o : Oper} (ho : ops[i]? = some o) {ro : Option Nat} {n : Nat} {K : Act → World → Prop} {Q : Exit → Act → World → Prop}
    (hK : ∀ l done effs rs g1 m1 M1 a1 w1, St P N ops n0 cf Tf g' m0 h0 w0 ds True l done effs rs g1 m1 M1 (listed.setIfInBounds i true) a1 w1 → K a1 w1) :
    ∀ {l : List Stp} {R : Prop} {done effs : Nat} {rs : List Nat} {g : AHeap} {m M : Ren} (_ : St P N ops n0 cf Tf g' m0 h0 w0 ds R l done effs rs g m M listed a w) (_ : ∀ i l'', l ≠ .early i :: l'') (_ : (∃ c, .eff i c ∈ l)),
    opWp (wideR ro) n P ops o a w K Q
  | .early j :: l, R, done, effs, rs, g, m, M, s, hne, h => absurd rfl (hne j l)
  | .eff j c :: l, R, done, effs, rs, g, m, M, s, hne, ⟨c', h⟩ => by
    have hji : j = i := by
      cases h with
      | head => rfl
      | tail _ h =>
        exfalso
        have hc := s.ck
        simp only [ckP, Bool.and_eq_true, blt_iff, Bool.not_eq_true'] at hc
        have := ck_effs hc.2 (.inr ⟨c', h⟩) (bit_or_self (d := effs) (i := j))
        exact s.no j (.inr ⟨c, List.mem_cons_self⟩) (ready_anc s.lsz s.cl hr j this)
    subst hji
    exact s.effS hN hcf hwf hr ho fun effs rs g1 m1 M1 a1 w1 h => hK _ _ effs rs g1 m1 M1 a1 w1 h
  | .pre j :: l, R, done, effs, rs, g, m, M, s, hne, ⟨c', h⟩ => by
    have h : .eff i c' ∈ l := by
      cases h with
      | tail _ h => exact h
    have hnel : ∀ i' l'', l ≠ .early i' :: l'' := by
      rintro i' l'' rfl
      have := s.np
      cases this
    have hon : On listed j ∧ ∀ k ∈ litO ops n0 j, On listed k := by
      have hc := s.ck
      simp only [ckP, Bool.and_eq_true, blt_iff, Bool.not_eq_true'] at hc
      have hc1 := hc.1.1.1.1.2
      have hc6 := hc.1.2
      -- the next that writes
      have : ∀ {l : List Stp} {done effs : Nat} {rs : List Nat} (_ : ckP P ops n0 (ancO ops) l done effs rs = true) (_ : .eff i c' ∈ l) (_ : ∀ s ∈ l, ∀ c k, s = .eff k c → ¬ On listed k), ∃ e, nextE l = some e ∧ (e = i ∨ (anc (ancO ops) i).testBit e = true) := by
        intro l
        induction l with
        | nil => intro _ _ _ _ h; cases h
        | cons x l ih =>
          intro done effs rs hck h hno
          cases x with
          | early k =>
            obtain ⟨_, _, _, e', r', h3, _⟩ := ck_head hck
            cases h with
            | tail _ h => exact ih h3 h fun s hs => hno s (List.mem_cons_of_mem _ hs)
          | pre k =>
            obtain ⟨_, _, _, e', r', h3, _⟩ := ck_head hck
            cases h with
            | tail _ h => exact ih h3 h fun s hs => hno s (List.mem_cons_of_mem _ hs)
          | eff k c =>
            refine ⟨k, rfl, ?_⟩
            cases h with
            | head => exact .inl rfl
            | tail _ h =>
              simp only [ckP, Bool.and_eq_true, blt_iff, Bool.not_eq_true'] at hck
              exact .inr (ck_effs hck.2 (.inr ⟨c', h⟩) bit_or_self)
      obtain ⟨e, he, hei⟩ := this hc.2 h fun x hx c k hxe => s.no k (.inr ⟨c, List.mem_cons_of_mem _ (hxe ▸ hx)⟩)
      rw [he] at hc1
      rw [he, List.all_eq_true] at hc6
      have hei : e = i := by
        rcases hei with h | h
        · exact h
        · exfalso
          have hone := ready_anc s.lsz s.cl hr e h
          have hmem : ∀ {l : List Stp}, nextE l = some e → ∃ c, .eff e c ∈ l := by
            intro l
            induction l with
            | nil => intro h; cases h
            | cons x l ih =>
              intro h
              cases x with
              | early k => obtain ⟨c, hc⟩ := ih h; exact ⟨c, List.mem_cons_of_mem _ hc⟩
              | pre k => obtain ⟨c, hc⟩ := ih h; exact ⟨c, List.mem_cons_of_mem _ hc⟩
              | eff k c => simp only [nextE, Option.some.injEq] at h; subst h; exact ⟨c, List.mem_cons_self⟩
          obtain ⟨c, hc⟩ := hmem he
          exact s.no e (.inr ⟨c, List.mem_cons_of_mem _ hc⟩) hone
      subst hei
      exact ⟨ready_anc s.lsz s.cl hr j hc1, fun k hk => ready_anc s.lsz s.cl hr k (hc6 k hk)⟩
    obtain ⟨g1, m1, _, s1⟩ := s.release hwf hon.1 hon.2
    exact St.toEff hN hcf hwf hr ho hK s1 hnel ⟨c', h⟩

/-- Early steps that are not the first stand behind one that writes. -/
theorem early_behind {t : Tr Nat} {i : Nat} : ∀ {l : List Stp} {done effs : Nat} {rs : List Nat} (_ : ckP P ops n0 t l done effs rs = true) (_ : noEP l = true) (_ : ∀ i l'', l ≠ .early i :: l'') (_ : .early i ∈ l), ∃ e c, .eff e c ∈ l ∧ (anc t i).testBit e = true
  | .early j :: l, _, _, _, _, _, hne, _ => absurd rfl (hne j l)
  | .eff j c :: l, done, effs, rs, hc, _, _, h => by
    refine ⟨j, c, List.mem_cons_self, ?_⟩
    simp only [ckP, Bool.and_eq_true, blt_iff, Bool.not_eq_true'] at hc
    have h : .early i ∈ l := by
      cases h with
      | tail _ h => exact h
    exact ck_effs hc.2 (.inl h) bit_or_self
  | .pre j :: l, done, effs, rs, hc, hp, _, h => by
    obtain ⟨_, _, _, e', r', h3, _⟩ := ck_head hc
    have h : .early i ∈ l := by
      cases h with
      | tail _ h => exact h
    obtain ⟨e, c, h1, h2⟩ := early_behind h3 (noEP_tail hp) (by rintro i' l'' rfl; cases hp) h
    exact ⟨e, c, List.mem_cons_of_mem _ h1, h2⟩

/-- **Whatever order is drawn.** -/
theorem any_wp (hN : NamesOk P) (hcf : CallOk P cf) (hb : backO ops = true) (hn0 : n0 ≤ ops.size) (ht : tailOk ops n0 (ancO ops) = true) (hwf : wfO ops n0 (ancO ops) = true) {ro : Option Nat} {n : Nat} {Q : Exit → Act → World → Prop} {T' : Tr AV} {h' : AHeap}
    (htl : opsE P N ops (ops.toList.drop n0) cf g' Tf = some (h', T')) (hQ : After P N m0 h0 w0 ds h' T' (Q .normal)) :
    ∀ (fuel : Nat) {l : List Stp} {done effs : Nat} {rs : List Nat} {g : AHeap} {m M : Ren} {listed : Array Bool} {a : Act} {w : World} (_ : St P N ops n0 cf Tf g' m0 h0 w0 ds True l done effs rs g m M listed a w) (_ : offN listed ops.size ≤ fuel),
      wpAnyIn (wideR ro) n P .any ops Q fuel listed a w := by
  -- the first n0 are all listed
  have over : ∀ (fuel : Nat) {l : List Stp} {done effs : Nat} {rs : List Nat} {g : AHeap} {m M : Ren} {listed : Array Bool} {a : Act} {w : World} (_ : St P N ops n0 cf Tf g' m0 h0 w0 ds True l done effs rs g m M listed a w) (_ : offN listed ops.size ≤ fuel) (_ : ∀ i, i < n0 → On listed i),
      wpAnyIn (wideR ro) n P .any ops Q fuel listed a w := by
    intro fuel l done effs rs g m M listed a w s hf hon
    obtain ⟨m1, H1, hF1, hx1⟩ := s.fin hwf hon
    refine tail_wp hN hcf hb ht fuel n0 (Nat.le_refl _) hn0 s.lsz s.cl (fun i => ⟨s.low i, hon i⟩) ?_ H1 hF1 s.sz htl (by rw [s.dfr]; exact hQ.trans hx1)
    have : ops.size - n0 ≤ offN listed ops.size := by
      unfold offN
      have h1 : ((List.range ops.size).filter fun i => !(Nat.blt i n0)).length ≤ ((List.range ops.size).filter fun i => !(listed.getD i false)).length := by
        have : ∀ l : List Nat, (l.filter fun i => !(Nat.blt i n0)).length ≤ (l.filter fun i => !(listed.getD i false)).length := by
          intro l
          induction l with
          | nil => exact Nat.le_refl _
          | cons z l ih =>
            cases hz : Nat.blt z n0 with
            | true =>
              simp only [List.filter_cons, hz, Bool.not_true]
              cases hz2 : listed.getD z false with
              | true => simp only [Bool.not_true, Bool.false_eq_true, if_false]; exact ih
              | false => simp only [Bool.not_false, Bool.false_eq_true, if_false, if_true, List.length_cons]; omega
            | false =>
              have : listed.getD z false = false := by
                cases hh : listed.getD z false with
                | false => rfl
                | true =>
                  have := s.low z hh
                  rw [← blt_iff, hz] at this; cases this
              simp only [List.filter_cons, hz, this, Bool.not_false, if_true, List.length_cons]; omega
        exact this _
      have h2 : ∀ k, n0 ≤ k → k - n0 ≤ ((List.range k).filter fun i => !(Nat.blt i n0)).length := by
        intro k
        induction k with
        | zero => intro _; omega
        | succ k ih =>
          intro hk
          rw [List.range_succ, List.filter_append, List.length_append]
          by_cases h : n0 ≤ k
          · have : Nat.blt k n0 = false := by
              cases hh : Nat.blt k n0 with
              | false => rfl
              | true => rw [blt_iff] at hh; omega
            have ih := ih h
            simp [this]; omega
          · omega
      exact Nat.le_trans (h2 _ hn0) h1
    omega
  intro fuel
  induction fuel with
  | zero =>
    intro l done effs rs g m M listed a w s hf
    exact over 0 s hf fun i hi => offN_zero (by omega) (Nat.lt_of_lt_of_le hi hn0)
  | succ fuel ih =>
    intro l done effs rs g m M listed a w s hf
    by_cases hon : ∀ i, i < n0 → On listed i
    · exact over _ s hf hon
    · refine ⟨fun hr => absurd (fun i hi => all_on hb s.lsz hr i (Nat.lt_of_lt_of_le hi hn0)) hon, fun i hi => ?_⟩
      obtain ⟨h1, h2, o, ho, h3⟩ := ready_spec s.lsz hi
      have hlt : i < n0 := by
        rcases Nat.lt_or_ge i n0 with h | h
        · exact h
        · exact absurd (fun j hj => ready_anc s.lsz s.cl hi j (tailOk_spec ht h1 h (by omega))) hon
      have hf2 : offN (listed.setIfInBounds i true) ops.size ≤ fuel := by
        have := offN_set h1 (by rw [s.lsz]; exact h1) h2
        omega
      obtain ⟨l', done', rs', hne, s'⟩ := s.norm
      refine wpOpIn_of ho ?_
      rcases ck_all s'.ck hlt with h | ⟨y, hy, hyi⟩
      · exact s'.doneS hwf hlt h hi ho fun a1 h => ih h hf2
      · cases y with
        | early j =>
          have hyi : j = i := hyi
          subst hyi
          obtain ⟨e, c, g1, g2⟩ := early_behind s'.ck s'.np hne hy
          exact absurd (ready_anc s'.lsz s'.cl hi e g2) (s'.no e (.inr ⟨c, g1⟩))
        | pre j =>
          have hyi : j = i := hyi
          subst hyi
          exact s'.preS hwf hy hi ho fun M1 a1 w1 h => ih h hf2
        | eff j c =>
          have hyi : j = i := hyi
          subst hyi
          exact St.toEff hN hcf hwf hi ho (fun l done effs rs g1 m1 M1 a1 w1 h => ih h hf2) s' hne ⟨c, hy⟩

/-- The drawn region, with one thing more asked. -/
noncomputable def drawF (P : Program) : DrawF := fun N ops => bif backO ops && noEP (mkPlan P ops (tailO (ancO ops) (List.range ops.size) 0) (ancO ops)) then drawA P N ops else fun _ _ _ => none

theorem drawF_ok (hN : NamesOk P) (hm : P.follows .mixedOrders = true) : DrawOk P (drawF P) := by
  intro N ops cf h T h' T' e hcf ro n id m w a H hF hs Q hQ
  unfold drawF at e
  cases hbk : backO ops && noEP (mkPlan P ops (tailO (ancO ops) (List.range ops.size) 0) (ancO ops)) with
  | false => rw [hbk] at e; cases e
  | true =>
    rw [hbk] at e
    rw [Bool.and_eq_true] at hbk
    simp only [cond_true, drawA, drawB] at e
    generalize tailO (ancO ops) (List.range ops.size) 0 = n0 at *
    cases hck : ckP P ops n0 (ancO ops) (mkPlan P ops n0 (ancO ops)) 0 0 [] && Nat.ble n0 ops.size && tailOk ops n0 (ancO ops) && wfO ops n0 (ancO ops) with
    | false => rw [hck] at e; cases e
    | true =>
      rw [hck] at e
      simp only [Bool.and_eq_true, Nat.ble_eq] at hck
      obtain ⟨⟨⟨c1, c2⟩, c3⟩, c4⟩ := hck
      simp only [cond_true, Option.bind_eq_some_iff] at e
      obtain ⟨⟨g', Tf⟩, e1, e2⟩ := e
      refine wpIn_region_any hm ?_
      have hx : Ext m h w m h { w with drawn := w.drawn + 1 } := ⟨m.le_refl, Nat.le_refl _, fun _ _ _ => rfl, fun _ _ h => h, rfl, rfl, rfl, fun _ => rfl⟩
      have H1 : HR m h { w with drawn := w.drawn + 1 } := ⟨H.obj, H.inj, H.fresh⟩
      have hoff : ∀ i, ¬ On (Array.replicate ops.size false) i := by
        intro i hi
        simp only [On, Array.getD_eq_getD_getElem?, Array.getElem?_replicate] at hi
        split at hi <;> simp at hi
      have s : St P N ops n0 cf Tf g' m h w a.defers True (mkPlan P ops n0 (ancO ops)) 0 0 [] h m m (Array.replicate ops.size false) a { w with drawn := w.drawn + 1 } := {
        H := H1
        le := m.le_refl
        sz := hs
        dfr := rfl
        ext := by
          intro t A hno hg
          rw [stpsA_keep e1 (by
            cases hd : (dmask ops (mkPlan P ops n0 (ancO ops))).testBit t with
            | false => rfl
            | true =>
              exfalso
              have : ∀ {l : List Stp}, (dmask ops l).testBit t = true → ∃ s ∈ l, (dstM ops s.i).testBit t = true := by
                intro l
                induction l with
                | nil => intro h; simp [dmask] at h
                | cons x l ih =>
                  intro h
                  simp only [dmask, Nat.testBit_or, Bool.or_eq_true] at h
                  rcases h with h | h
                  · exact ⟨x, List.mem_cons_self, h⟩
                  · obtain ⟨s, hs, h⟩ := ih h; exact ⟨s, List.mem_cons_of_mem _ hs, h⟩
              obtain ⟨s, hs, h⟩ := this hd
              obtain ⟨o, ho, hd⟩ := dstM_bit_iff h
              exact hno s.i o (ck_mem c1 hs).1 ho hd)] at hg
          exact hF t A hg
        lsz := by simp
        cl := fun i hi => absurd hi (hoff i)
        fct := fct_of c1 e1 (fun i hi => by cases hi)
        ck := c1
        np := hbk.2
        x0 := hx
        low := fun i hi => absurd hi (hoff i)
        dn := fun i _ hd => by simp at hd
        lt := fun i _ hi => absurd hi (hoff i)
        no := fun i _ => hoff i
        dom := fun b L h => .inl h
        li := fun k b _ hk => absurd hk (hoff k)
        lits := fun k j hk => by simp at hk
        ld := fun k b k' b' L L' _ hk => absurd hk (hoff k) }
      refine any_wp hN hcf hbk.1 c2 c3 c4 e2 hQ ops.size s ?_
      unfold offN
      exact Nat.le_trans (List.length_filter_le _ _) (by simp)
end
end Go.Ev
