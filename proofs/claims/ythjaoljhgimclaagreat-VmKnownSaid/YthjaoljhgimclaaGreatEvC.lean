/- A verified evaluator of the model, by its parts: maps, new blocks, the kinds of operations. No condition. -/
import Derived.Test.YthjaoljhgimclaaGreatEvB
set_option linter.unusedVariables false
/- Maps. -/
set_option linter.unusedSimpArgs false
namespace Go.Ev

section
variable (P : Program)
/-- May be a key: no interface in it. -/
noncomputable def ckFields (e : TypeId → AV → Bool) : List Field → List AV → Bool
  | [], _ => true
  | f :: fs, a => bif f.name == "_" then false else match partA (agO P f.type) f.offset a with | some x => e f.type x && ckFields e fs a | none => false
noncomputable def ckItems (e : AV → Bool) (g : Option (Option Nat)) (sz : Nat) : Nat → Nat → List AV → Bool
  | 0, _, _ => true
  | n + 1, i, a => match partA g (i * sz) a with | some x => e x && ckItems e g sz n (i + 1) a | none => false
noncomputable def ckA : Nat → TypeId → AV → Bool
  | 0, _ => fun _ => false
  | d + 1, t => match P.underlying t with
    | some .bool => fun _ => true
    | some (.int _) => fun _ => true
    | some .string => fun _ => true
    | some (.struct fs) => fun x => match x with | .agg a => ckFields P (ckA d) fs.toList a | _ => false
    | some (.array n e) => fun x => match x with | .agg a => (match szO P e with | some sz => ckItems (ckA d e) (agO P e) sz n 0 a | none => false) | _ => false
    | _ => fun _ => false
end

section
variable {P : Program} {m : Ren} {h : AHeap}

theorem ckA_sim {em : Bool} {w : World} : ∀ (d : Nat) (t : TypeId) (x : AV), ckA P d t x = true → ∀ (k : Nat) (vx : Value), VR m x vx → (Instr.checkKey em (k + d) t vx).run P w = .ok () w
  | 0, t, x, e => by simp [ckA] at e
  | d + 1, t, x, e => by
    intro k vx hx
    have ih := ckA_sim (em := em) (w := w) d
    rw [show k + (d + 1) = (k + d) + 1 from rfl]
    unfold ckA at e
    cases hu : P.underlying t with
    | none => rw [hu] at e; cases e
    | some td =>
      rw [hu] at e
      cases td <;> simp only [Bool.false_eq_true] at e
      case bool => rw [Instr.checkKey]; simp only [Sem.run_bind, run_underlying hu, Result.andThen_ok]; cases vx <;> rfl
      case int q => rw [Instr.checkKey]; simp only [Sem.run_bind, run_underlying hu, Result.andThen_ok]; cases vx <;> rfl
      case string => rw [Instr.checkKey]; simp only [Sem.run_bind, run_underlying hu, Result.andThen_ok]; cases vx <;> rfl
      case array n et =>
        cases x <;> first | (cases e; done) | skip
        simp only at e
        cases hsz : szO P et with
        | none => rw [hsz] at e; cases e
        | some sz =>
          rw [hsz] at e
          obtain ⟨cx, rfl, hx2⟩ := vr_agg.1 hx
          rw [Instr.checkKey]
          simp only [Sem.run_bind, run_underlying hu, Result.andThen_ok]
          simp only [Std.Legacy.Range.forIn_eq_forIn_range', Std.Legacy.Range.size, Nat.sub_zero, Nat.add_one_sub_one, Nat.div_one]
          rename_i la
          have key : ∀ (n i : Nat), ckItems (ckA P d et) (agO P et) sz n i la = true →
              (forIn (m := Sem) (List.range' i n) PUnit.unit fun i r => do
                Instr.checkKey em (k + d) et (← part et cx.toArray (i * (← sizeOf et)))
                pure (ForInStep.yield PUnit.unit)).run P w = .ok PUnit.unit w := by
            intro n
            induction n with
            | zero => intro i _; simp
            | succ n ihn =>
              intro i e
              unfold ckItems at e
              cases hp : partA (agO P et) (i * sz) _ with
              | none => rw [hp] at e; cases e
              | some y =>
                rw [hp] at e
                rw [Bool.and_eq_true] at e
                obtain ⟨vy, h1, h2⟩ := part_sim (P := P) (w := w) hp hx2
                have h3 := ih et y e.1 k vy h2
                rw [List.range'_succ]
                simp only [List.forIn_cons, Sem.run_bind, run_sz hsz, Result.andThen_ok, h1, h3, Sem.run_pure]
                exact ihn (i + 1) e.2
          rw [key _ 0 e]; rfl
      case struct fs =>
        cases x <;> first | (cases e; done) | skip
        simp only at e
        obtain ⟨cx, rfl, hx2⟩ := vr_agg.1 hx
        rw [Instr.checkKey]
        simp only [Sem.run_bind, run_underlying hu, Result.andThen_ok]
        rw [← Array.forIn_toList]
        generalize fs.toList = L at e
        induction L with
        | nil => simp
        | cons f L ihL =>
          unfold ckFields at e
          cases hn : f.name == "_" with
          | true => rw [hn] at e; simp at e
          | false =>
            rw [hn] at e
            simp only [cond_false] at e
            cases hp : partA (agO P f.type) f.offset _ with
            | none => rw [hp] at e; cases e
            | some y =>
              rw [hp] at e
              rw [Bool.and_eq_true] at e
              have hn' : f.name ≠ "_" := by intro h; rw [h] at hn; simp at hn
              obtain ⟨vy, h1, h2⟩ := part_sim (P := P) (w := w) hp hx2
              have h3 := ih f.type y e.1 k vy h2
              simp only [List.forIn_cons, Sem.run_bind, hn', ne_eq, not_false_eq_true, if_true, Result.andThen_ok, h1, h3, Sem.run_pure]
              exact ihL e.2

/-! ### an entry is sought -/
noncomputable def findA (eq : AV → AV → Option Bool) (k : AV) : List (AV × AV) → Option (Option AV)
  | [] => some none
  | p :: r => (eq k p.1).bind fun b => (findA eq k r).bind fun q => bif b then (match q with | none => some (some p.2) | some _ => none) else some q

abbrev ER (m : Ren) : AV × AV → MapEntry → Prop := fun p e => VR m p.1 e.key ∧ VR m p.2 e.val

/-- What the model's entries are, held against a key. -/
theorem findA_spec {w : World} {kt : TypeId} {eq : AV → AV → Option Bool} {k : AV} {key : Value}
    (he : ∀ x b, eq k x = some b → ∀ vx, VR m x vx → (Op.equal kt key vx).run P w = .ok b w) :
    ∀ {l : List (AV × AV)} {es : List MapEntry} {q : Option AV}, findA eq k l = some q → All2 (ER m) l es →
      match q with
      | none => ∀ e ∈ es, (Op.equal kt key e.key).run P w = .ok false w
      | some v => ∃ l1 p l2 e1 e e2, l = l1 ++ p :: l2 ∧ es = e1 ++ e :: e2 ∧ All2 (ER m) l1 e1 ∧ All2 (ER m) l2 e2 ∧ ER m p e ∧ p.2 = v ∧ eq k p.1 = some true ∧ (∀ p' ∈ l1 ++ l2, eq k p'.1 = some false) ∧
          (∀ e' ∈ e1 ++ e2, (Op.equal kt key e'.key).run P w = .ok false w) ∧ (Op.equal kt key e.key).run P w = .ok true w
  | [], es, q, e, ha => by
    simp only [findA, Option.some.injEq] at e; subst e
    have := ha.nil_left; subst this
    simp
  | p :: l, es, q, e, ha => by
    obtain ⟨e0, es, rfl, h0, ha⟩ := ha.cons_left
    simp only [findA, Option.bind_eq_some_iff] at e
    obtain ⟨b, hb, q', hq', e⟩ := e
    have ih := findA_spec he hq' ha
    have h1 := he _ _ hb _ h0.1
    cases b with
    | true =>
      cases q' with
      | some _ => cases e
      | none =>
        simp only [cond_true, Option.some.injEq] at e; subst e
        refine ⟨[], p, l, [], e0, es, rfl, rfl, trivial, ha, h0, rfl, hb, ?_, ?_, h1⟩
        · intro p' hp'
          have : ∀ {l : List (AV × AV)}, findA eq k l = some none → ∀ p' ∈ l, eq k p'.1 = some false := by
            intro l
            induction l with
            | nil => intro _ p' h; cases h
            | cons a l ihl =>
              intro e p' hp'
              simp only [findA, Option.bind_eq_some_iff] at e
              obtain ⟨b, hb, q', hq', e⟩ := e
              cases b with
              | true => cases q' <;> simp at e
              | false =>
                simp only [cond_false, Option.some.injEq] at e; subst e
                cases hp' with
                | head => exact hb
                | tail _ hp' => exact ihl hq' p' hp'
          exact this hq' p' hp'
        · intro e' he'; exact ih e' he'
    | false =>
      simp only [cond_false, Option.some.injEq] at e; subst e
      cases q' with
      | none =>
        intro e' he'
        cases he' with
        | head => exact h1
        | tail _ he' => exact ih e' he'
      | some v =>
        obtain ⟨l1, p1, l2, e1, e, e2, rfl, rfl, a1, a2, a3, a4, a5, a6, a7, a8⟩ := ih
        refine ⟨p :: l1, p1, l2, e0 :: e1, e, e2, rfl, rfl, ⟨h0, a1⟩, a2, a3, a4, a5, ?_, ?_, a8⟩
        · intro p' hp'
          cases hp' with
          | head => exact hb
          | tail _ hp' => exact a6 p' hp'
        · intro e' he'
          cases he' with
          | head => exact h1
          | tail _ he' => exact a7 e' he'

theorem findAsking_none {w : World} {kt : TypeId} {key : Value} : ∀ {es : List MapEntry} (_ : ∀ e ∈ es, (Op.equal kt key e.key).run P w = .ok false w) (i : Nat), (Instr.findAsking kt key es i).run P w = .ok none w
  | [], _, i => by simp [Instr.findAsking]
  | e :: es, h, i => by
    simp only [Instr.findAsking, Sem.run_bind, h e List.mem_cons_self, Result.andThen_ok]
    simpa using findAsking_none (fun e he => h e (List.mem_cons_of_mem _ he)) (i + 1)
theorem findAsking_some {w : World} {kt : TypeId} {key : Value} {e : MapEntry} {es2 : List MapEntry} (ht : (Op.equal kt key e.key).run P w = .ok true w) :
    ∀ {es : List MapEntry} (_ : ∀ e ∈ es, (Op.equal kt key e.key).run P w = .ok false w) (i : Nat), (Instr.findAsking kt key (es ++ e :: es2) i).run P w = .ok (some (i + es.length, e.val)) w
  | [], _, i => by simp [Instr.findAsking, ht]
  | e' :: es, h, i => by
    simp only [List.cons_append, Instr.findAsking, Sem.run_bind, h e' List.mem_cons_self, Result.andThen_ok]
    have := findAsking_some (es2 := es2) ht (fun e he => h e (List.mem_cons_of_mem _ he)) (i + 1)
    simp only [Bool.false_eq_true, if_false]
    rw [this]; simp; omega

/-- What needs no reckoning agrees. -/
theorem sameNow_eq {w : World} {kt : TypeId} {d : TypeDesc} (hu : P.underlying kt = some d) {a b : Value} {r : Bool} (h : Instr.sameNow d a b = some r) : (Op.equal kt a b).run P w = .ok r w := by
  have hop : Op.equal kt a b = Op.equalIn (9999 + 1) kt a b := rfl
  rw [hop]
  unfold Instr.sameNow at h
  split at h
  · split at h
    · rename_i hk
      subst hk
      cases h
      rw [run_equalIn_int w _ kt _ _ _ _ hu]
    · cases h
  · cases h; clear hop; generalize 9999 = dd; simp [Op.equalIn, run_underlying hu]
  · cases h; rw [run_equalIn_bool w _ kt _ _ hu]
  · cases h
theorem findNow_none {w : World} {kt : TypeId} {d : TypeDesc} (hu : P.underlying kt = some d) {key : Value} : ∀ {es : List MapEntry} (_ : ∀ e ∈ es, (Op.equal kt key e.key).run P w = .ok false w) (i : Nat) {r : Option (Nat × Value)},
    Instr.findNow d key es i = some r → r = none
  | [], _, i, r, e => by simp [Instr.findNow] at e; exact e.symm
  | e0 :: es, h, i, r, e => by
    unfold Instr.findNow at e
    cases hs : Instr.sameNow d key e0.key with
    | none => rw [hs] at e; cases e
    | some b =>
      have h1 := sameNow_eq (w := w) hu hs
      rw [h e0 List.mem_cons_self] at h1
      cases h1
      rw [hs] at e
      exact findNow_none hu (fun e he => h e (List.mem_cons_of_mem _ he)) (i + 1) e
theorem findNow_some {w : World} {kt : TypeId} {d : TypeDesc} (hu : P.underlying kt = some d) {key : Value} {e1 : MapEntry} {es2 : List MapEntry} (ht : (Op.equal kt key e1.key).run P w = .ok true w) :
    ∀ {es : List MapEntry} (_ : ∀ e ∈ es, (Op.equal kt key e.key).run P w = .ok false w) (i : Nat) {r : Option (Nat × Value)}, Instr.findNow d key (es ++ e1 :: es2) i = some r → r = some (i + es.length, e1.val)
  | [], _, i, r, e => by
    rw [List.nil_append] at e
    unfold Instr.findNow at e
    cases hs : Instr.sameNow d key e1.key with
    | none => rw [hs] at e; cases e
    | some b =>
      have h1 := sameNow_eq (w := w) hu hs
      rw [ht] at h1
      cases h1
      rw [hs] at e
      simp only [Option.some.injEq] at e
      simp [← e]
  | e0 :: es, h, i, r, e => by
    rw [List.cons_append] at e
    unfold Instr.findNow at e
    cases hs : Instr.sameNow d key e0.key with
    | none => rw [hs] at e; cases e
    | some b =>
      have h1 := sameNow_eq (w := w) hu hs
      rw [h e0 List.mem_cons_self] at h1
      cases h1
      rw [hs] at e
      have := findNow_some hu ht (fun e he => h e (List.mem_cons_of_mem _ he)) (i + 1) e
      rw [this]; simp; omega
theorem findKey_none {w : World} {kt : TypeId} {d : TypeDesc} (hu : P.underlying kt = some d) {key : Value} {es : List MapEntry} (h : ∀ e ∈ es, (Op.equal kt key e.key).run P w = .ok false w) :
    (Instr.findKey kt key es).run P w = .ok none w := by
  simp only [Instr.findKey, Sem.run_bind, run_underlying hu, Result.andThen_ok]
  cases hf : Instr.findNow d key es 0 with
  | none => exact findAsking_none h 0
  | some r => rw [findNow_none hu h 0 hf]; rfl
theorem findKey_some {w : World} {kt : TypeId} {d : TypeDesc} (hu : P.underlying kt = some d) {key : Value} {e1 : MapEntry} {es es2 : List MapEntry} (ht : (Op.equal kt key e1.key).run P w = .ok true w)
    (h : ∀ e ∈ es, (Op.equal kt key e.key).run P w = .ok false w) : (Instr.findKey kt key (es ++ e1 :: es2)).run P w = .ok (some (es.length, e1.val)) w := by
  simp only [Instr.findKey, Sem.run_bind, run_underlying hu, Result.andThen_ok]
  cases hf : Instr.findNow d key (es ++ e1 :: es2) 0 with
  | none => have := findAsking_some (es2 := es2) ht h 0; rw [Nat.zero_add] at this; exact this
  | some r => rw [findNow_some hu ht h 0 hf, Nat.zero_add]; rfl

/-- The entries, as the model has them. -/
theorem found_perm {w : World} {kt : TypeId} {eq : AV → AV → Option Bool} {k : AV} {key : Value} (he : ∀ x b, eq k x = some b → ∀ vx, VR m x vx → (Op.equal kt key vx).run P w = .ok b w)
    {l : List (AV × AV)} {es : List MapEntry} {q : Option AV} (hq : findA eq k l = some q) (hR : MapR m l es) :
    match q with
    | none => ∀ e ∈ es, (Op.equal kt key e.key).run P w = .ok false w
    | some v => ∃ es1 e es2 l1 p l2 f1 f2, es = es1 ++ e :: es2 ∧ (∀ e' ∈ es1 ++ es2, (Op.equal kt key e'.key).run P w = .ok false w) ∧ (Op.equal kt key e.key).run P w = .ok true w ∧
        l = l1 ++ p :: l2 ∧ All2 (ER m) l1 f1 ∧ All2 (ER m) l2 f2 ∧ (f1 ++ f2).Perm (es1 ++ es2) ∧ ER m p e ∧ p.2 = v ∧ eq k p.1 = some true ∧ (∀ p' ∈ l1 ++ l2, eq k p'.1 = some false) := by
  obtain ⟨l', hp, ha⟩ := hR
  have hs := findA_spec he hq ha
  cases q with
  | none => intro e he'; exact hs e (hp.mem_iff.2 he')
  | some v =>
    obtain ⟨l1, p, l2, f1, e, f2, rfl, rfl, a1, a2, a3, a4, a5, a6, a7, a8⟩ := hs
    have hmem : e ∈ es := hp.mem_iff.1 (by simp)
    obtain ⟨es1, es2, rfl⟩ := List.append_of_mem hmem
    have hp2 : (f1 ++ f2).Perm (es1 ++ es2) := by
      have x1 : (f1 ++ e :: f2).Perm (e :: (f1 ++ f2)) := List.perm_middle
      have x2 : (es1 ++ e :: es2).Perm (e :: (es1 ++ es2)) := List.perm_middle
      exact ((x1.symm.trans hp).trans x2).cons_inv
    exact ⟨es1, e, es2, l1, p, l2, f1, f2, rfl, fun e' he' => a7 e' (hp2.mem_iff.2 he'), a8, rfl, a1, a2, hp2, a3, a4, a5, a6⟩

/-- How keys are held against each other. -/
structure KeyO where
  ck : AV → Bool
  eq : AV → AV → Option Bool
noncomputable def keyO (P : Program) (t : TypeId) : Option (KeyO × TypeId) :=
  match P.underlying t with
  | some (.map k e) => match P.underlying k with
    | some _ => some (⟨ckA P 6 k, eqA P 6 k⟩, e)
    | none => none
  | _ => none

section
variable {w : World}
noncomputable def mapOf (h : AHeap) : AV → Option (List (AV × AV))
  | .nilmap => some []
  | .map b => (Tr.get b h.objs).bind fun o => match o with | .map l => some l | _ => none
  | _ => none

/-! look-up -/
noncomputable def lookupA (ko : Option (KeyO × TypeId)) (z : Option AV) (ok : Bool) (h : AHeap) (x k : AV) : Option AV :=
  ko.bind fun ko => bif ko.1.ck k then (mapOf h x).bind fun l => (findA ko.1.eq k l).bind fun q =>
    (match q with | some v => some v | none => z).map fun v => bif ok then .tup [v, .bool q.isSome] else v
  else none

theorem keyO_spec {t : TypeId} {ko : KeyO} {e : TypeId} (hk : keyO P t = some (ko, e)) : ∃ kt d, P.underlying t = some (.map kt e) ∧ P.underlying kt = some d ∧
    (∀ (w : World) (m : Ren) (em : Bool) k v, ko.ck k = true → VR m k v → (Instr.checkKey em 10000 kt v).run P w = .ok () w) ∧
    (∀ (w : World) (m : Ren) k x b, ko.eq k x = some b → ∀ v vx, VR m k v → VR m x vx → (Op.equal kt v vx).run P w = .ok b w) := by
  unfold keyO at hk
  split at hk
  · rename_i kt e' hu
    split at hk
    · rename_i d hd
      simp only [Option.some.injEq, Prod.mk.injEq] at hk
      obtain ⟨rfl, rfl⟩ := hk
      exact ⟨kt, d, hu, hd, fun w m em k v hc hv => ckA_sim 6 kt k hc 9994 v hv, fun w m k x b hb v vx hv hx => eqA_sim 6 kt k x b hb 9994 v vx hv hx⟩
    · cases hk
  · cases hk

theorem lookup_sim (H : HR m h w) {t : TypeId} {ok : Bool} {A B r : AV} (e : lookupA (keyO P t) ((keyO P t).bind fun k => zrO P k.2) ok h A B = some r) {v u : Value} (hv : VR m A v) (hu' : VR m B u) :
    ∃ x, (Instr.lookup t v u ok).run P w = .ok x w ∧ VR m r x := by
  simp only [lookupA, Option.bind_eq_some_iff] at e
  obtain ⟨⟨ko, et⟩, hk, e⟩ := e
  rw [hk] at e
  simp only [Option.bind_some] at e
  obtain ⟨hck, e⟩ := cond_bind.1 e
  simp only [Option.bind_eq_some_iff, Option.map_eq_some_iff] at e
  obtain ⟨l, hl, q, hq, z, hz, rfl⟩ := e
  obtain ⟨kt, d, hu, hd, c1, c2⟩ := keyO_spec hk
  have fin : ∀ (es : List MapEntry), MapR m l es → ∃ r x, (Instr.findKey kt u es).run P w = .ok r w ∧ VR m z x ∧ ((q.isSome = true ∧ ∃ i, r = some (i, x)) ∨ (q.isSome = false ∧ r = none ∧ (zeroValue et).run P w = .ok x w)) := by
    intro es hR
    have hf := found_perm (P := P) (w := w) (kt := kt) (key := u) (fun x b hb vx hx => c2 w m B x b hb u vx hu' hx) hq hR
    cases q with
    | none =>
      simp only at hz
      obtain ⟨zv, h1, h2, _⟩ := run_zero (P := P) hz w
      exact ⟨none, zv, findKey_none hd hf, h2 m, .inr ⟨rfl, rfl, h1⟩⟩
    | some v0 =>
      simp only [Option.some.injEq] at hz
      subst hz
      obtain ⟨es1, e0, es2, l1, p, l2, f1, f2, rfl, g1, g2, rfl, g3, g4, g5, g6, rfl, g7, g8⟩ := hf
      exact ⟨_, e0.val, findKey_some hd (es2 := es2) g2 (fun e' he' => g1 e' (List.mem_append_left _ he')), g6.2, .inl ⟨rfl, _, rfl⟩⟩
  have out : ∀ {x : Value}, VR m z x → VR m (bif ok then .tup [z, .bool q.isSome] else z) (if ok then .tuple #[x, .bool q.isSome] else x) := by
    intro x hx
    cases ok with
    | true => exact vr_tup.2 ⟨[x, .bool q.isSome], rfl, hx, .bool _, trivial⟩
    | false => exact hx
  cases A <;> simp only [mapOf, reduceCtorEq, Option.some.injEq] at hl
  case nilmap =>
    subst hl
    rw [vr_nilmap hv]
    obtain ⟨r, x, h0, h1, h2⟩ := fin [] ⟨[], by simp, trivial⟩
    refine ⟨_, ?_, out h1⟩
    have hc := c1 w m true B u hck hu'
    rcases h2 with ⟨hs, i, rfl⟩ | ⟨hs, rfl, hz0⟩
    · cases ok <;> simp [Instr.lookup, run_underlying hu, hc, h0, hs]
    · cases ok <;> simp [Instr.lookup, run_underlying hu, hc, h0, hs, hz0]
  case map b =>
    rw [Option.bind_eq_some_iff] at hl
    obtain ⟨o, ho, hl⟩ := hl
    cases o <;> simp only [reduceCtorEq, Option.some.injEq] at hl
    subst hl
    obtain ⟨L, hm, rfl⟩ := vr_map hv
    obtain ⟨es, ck, hw, hR⟩ := H.map_at ho hm
    obtain ⟨r, x, h0, h1, h2⟩ := fin es.toList hR
    refine ⟨_, ?_, out h1⟩
    have hc := c1 w m es.isEmpty B u hck hu'
    rcases h2 with ⟨hs, i, rfl⟩ | ⟨hs, rfl, hz0⟩
    · cases ok <;> simp [Instr.lookup, run_underlying hu, run_getObj_map hw, hc, h0, hs]
    · cases ok <;> simp [Instr.lookup, run_underlying hu, run_getObj_map hw, hc, h0, hs, hz0]
end
end
end Go.Ev

/- Maps are written. -/
set_option linter.unusedSimpArgs false
namespace Go.Ev

/-- Bit for bit the same. -/
def sameP : AV → AV → Bool
  | .bool a, .bool b => a == b
  | .int k a, .int k' b => kEq k k' && eqI a b
  | .str a, .str b => bytesEq a b
  | _, _ => false
def sameL : List AV → List AV → Bool
  | [], [] => true
  | a :: l, b :: l' => sameP a b && sameL l l'
  | _, _ => false
def sameA : AV → AV → Bool
  | .agg l, .agg l' => sameL l l'
  | a, b => sameP a b

noncomputable def putA (eq : AV → AV → Option Bool) (k v : AV) : List (AV × AV) → Option (List (AV × AV))
  | [] => none
  | p :: r => match eq k p.1 with
    | some true => bif sameA p.1 k then some ((k, v) :: r) else none
    | _ => (putA eq k v r).map (p :: ·)
noncomputable def remA (eq : AV → AV → Option Bool) (k : AV) : List (AV × AV) → Option (List (AV × AV))
  | [] => none
  | p :: r => match eq k p.1 with
    | some true => some r
    | _ => (remA eq k r).map (p :: ·)

section
variable {P : Program} {m : Ren} {h : AHeap} {w : World}

theorem bytes_beq {a b : List UInt8} (h : bytesEq a b = true) : a = b := by rw [bytesEq_eq] at h; simpa using h
theorem sameP_spec {x y : AV} (e : sameP x y = true) {a b : Value} (ha : VR m x a) (hb : VR m y b) (d : Nat) : Instr.sameBits d a b = true := by
  cases x <;> cases y <;> simp only [sameP, Bool.false_eq_true, Bool.and_eq_true] at e
  · rw [vr_bool ha, vr_bool hb]; simpa [Instr.sameBits] using e
  · obtain ⟨h1, h2⟩ := e
    rw [kEq_eq] at h1; rw [eqI_eq] at h2
    rw [vr_int ha, vr_int hb]; simp [Instr.sameBits, h1]; simpa using h2
  · have := bytes_beq e
    subst this
    rw [vr_str ha, vr_str hb]; simp [Instr.sameBits, beq_toListBytes]
theorem sameA_spec {x y : AV} (e : sameA x y = true) {a b : Value} (ha : VR m x a) (hb : VR m y b) (d : Nat) : Instr.sameBits (d + 1) a b = true := by
  by_cases hx : ∃ l l', x = .agg l ∧ y = .agg l'
  · obtain ⟨l, l', rfl, rfl⟩ := hx
    obtain ⟨c, rfl, hc⟩ := vr_agg.1 ha
    obtain ⟨c', rfl, hc'⟩ := vr_agg.1 hb
    simp only [sameA] at e
    have key : ∀ {l l' : List AV} {c c' : List Value}, sameL l l' = true → VRs m l c → VRs m l' c' → c.length = c'.length ∧ (c.zip c').all (fun (x, y) => Instr.sameBits d x y) = true := by
      intro l
      induction l with
      | nil =>
        intro l' c c' e hc hc'
        cases l' with
        | nil => rw [hc.nil_left, hc'.nil_left]; simp
        | cons _ _ => cases e
      | cons x l ih =>
        intro l' c c' e hc hc'
        cases l' with
        | nil => cases e
        | cons y l' =>
          obtain ⟨v, c, rfl, hv, hc⟩ := hc.cons_left
          obtain ⟨u, c', rfl, hu, hc'⟩ := hc'.cons_left
          simp only [sameL, Bool.and_eq_true] at e
          obtain ⟨h1, h2⟩ := ih e.2 hc hc'
          exact ⟨by simp [h1], by simp [sameP_spec e.1 hv hu d]; simpa using h2⟩
    obtain ⟨h1, h2⟩ := key e hc hc'
    simp only [Instr.sameBits, List.size_toArray, h1, BEq.rfl, Bool.true_and]
    exact h2
  · have : sameA x y = sameP x y := by
      cases x <;> cases y <;> first | rfl | exact absurd ⟨_, _, rfl, rfl⟩ hx
    rw [this] at e
    exact sameP_spec e ha hb (d + 1)

theorem putA_app {eq : AV → AV → Option Bool} {k v : AV} {p : AV × AV} {l2 : List (AV × AV)} (hp : eq k p.1 = some true) : ∀ {l1 : List (AV × AV)} (_ : ∀ x ∈ l1, eq k x.1 = some false) {r : List (AV × AV)},
    putA eq k v (l1 ++ p :: l2) = some r → sameA p.1 k = true ∧ r = l1 ++ (k, v) :: l2
  | [], _, r, e => by
    simp only [List.nil_append, putA, hp] at e
    obtain ⟨h1, rfl⟩ := cond_some.1 e
    exact ⟨h1, rfl⟩
  | x :: l1, h, r, e => by
    simp only [List.cons_append, putA, h x List.mem_cons_self, Option.map_eq_some_iff] at e
    obtain ⟨r', hr', rfl⟩ := e
    obtain ⟨h1, rfl⟩ := putA_app hp (fun x hx => h x (List.mem_cons_of_mem _ hx)) hr'
    exact ⟨h1, rfl⟩
theorem remA_app {eq : AV → AV → Option Bool} {k : AV} {p : AV × AV} {l2 : List (AV × AV)} (hp : eq k p.1 = some true) : ∀ {l1 : List (AV × AV)} (_ : ∀ x ∈ l1, eq k x.1 = some false) {r : List (AV × AV)},
    remA eq k (l1 ++ p :: l2) = some r → r = l1 ++ l2
  | [], _, r, e => by
    simp only [List.nil_append, remA, hp, Option.some.injEq] at e
    exact e.symm
  | x :: l1, h, r, e => by
    simp only [List.cons_append, remA, h x List.mem_cons_self, Option.map_eq_some_iff] at e
    obtain ⟨r', hr', rfl⟩ := e
    rw [remA_app hp (fun x hx => h x (List.mem_cons_of_mem _ hx)) hr']
    rfl

theorem run_setObj_map {B : Nat} {es : Array MapEntry} {ck : Nat} (hw : w.heap[B]? = some (.map es ck)) (es' : Array MapEntry) (ck' : Nat) : (setObj B (.map es' ck')).run P w = .ok () (w.putBlock B (.map es' ck')) := by
  simp only [setObj, Sem.run, hw]; rfl

noncomputable def updOf (ko : KeyO) (k v : AV) (l : List (AV × AV)) : Option (List (AV × AV)) :=
  (findA ko.eq k l).bind fun q => match q with | none => some ((k, v) :: l) | some _ => putA ko.eq k v l
noncomputable def delOf (ko : KeyO) (k : AV) (l : List (AV × AV)) : Option (List (AV × AV)) :=
  (findA ko.eq k l).bind fun q => match q with | none => some l | some _ => remA ko.eq k l
noncomputable def updObj (f : List (AV × AV) → Option (List (AV × AV))) (h : AHeap) (b : Bn) : AObj → Option AHeap
  | .map l => (f l).map fun l => h.put b (.map l)
  | _ => none
noncomputable def updA (ko : Option (KeyO × TypeId)) (h : AHeap) (x k v : AV) : Option AHeap :=
  ko.bind fun ko => bif ko.1.ck k then (match x with | .map b => (Tr.get b h.objs).bind (updObj (updOf ko.1 k v) h b) | _ => none) else none
noncomputable def delA (ko : Option (KeyO × TypeId)) (h : AHeap) (x k : AV) : Option (AHeap × AV) :=
  ko.bind fun ko => bif ko.1.ck k then (match x with
    | .nilmap => some (h, undefA)
    | .map b => ((Tr.get b h.objs).bind (updObj (delOf ko.1 k) h b)).map fun h => (h, undefA)
    | _ => none) else none

theorem perm_mid {α : Type} {f1 f2 e1 e2 : List α} (h : (f1 ++ f2).Perm (e1 ++ e2)) (x : α) : (f1 ++ x :: f2).Perm (e1 ++ x :: e2) :=
  (List.perm_middle.trans (h.cons x)).trans List.perm_middle.symm

theorem upd_sim (H : HR m h w) {t : TypeId} {A B C : AV} {h' : AHeap} (e : updA (keyO P t) h A B C = some h') {v u x : Value} (hv : VR m A v) (hu' : VR m B u) (hx : VR m C x) :
    ∃ w', (Instr.mapUpdate t v u x).run P w = .ok () w' ∧ HR m h' w' ∧ Ext m h w m h' w' := by
  simp only [updA, Option.bind_eq_some_iff] at e
  obtain ⟨⟨ko, et⟩, hk, e⟩ := e
  obtain ⟨hck, e⟩ := cond_bind.1 e
  obtain ⟨kt, d, hu, hd, c1, c2⟩ := keyO_spec hk
  cases A <;> simp only [reduceCtorEq] at e
  rename_i b
  rw [Option.bind_eq_some_iff] at e
  obtain ⟨o, ho, e⟩ := e
  cases o <;> simp only [updObj, reduceCtorEq, Option.map_eq_some_iff] at e
  rename_i l
  obtain ⟨l', hl', rfl⟩ := e
  simp only [updOf, Option.bind_eq_some_iff] at hl'
  obtain ⟨q, hq, hl'⟩ := hl'
  obtain ⟨L, hm, rfl⟩ := vr_map hv
  obtain ⟨es, ck, hw, hR⟩ := H.map_at ho hm
  have hf := found_perm (P := P) (w := w) (kt := kt) (key := u) (fun x b hb vx hx => c2 w m B x b hb u vx hu' hx) hq hR
  have hc := c1 w m false B u hck hu'
  cases q with
  | none =>
    simp only [Option.some.injEq] at hl'
    subst hl'
    have h3 := findKey_none hd hf
    obtain ⟨g1, g2⟩ := H.put ho hm (o' := .map ((B, C) :: l)) (ob := .map (es.push { key := u, val := x, born := ck }) (ck + 1)) (by
      obtain ⟨r, hp, ha⟩ := hR
      refine ⟨{ key := u, val := x, born := ck } :: r, ?_, ⟨hu', hx⟩, ha⟩
      rw [Array.toList_push]
      exact (hp.cons _).trans (List.perm_append_singleton _ _).symm)
    refine ⟨_, ?_, g1, g2⟩
    simp [Instr.mapUpdate, run_underlying hu, run_getObj_map hw, hc, h3, run_setObj_map hw]
  | some v0 =>
    obtain ⟨es1, e0, es2, l1, p, l2, f1, f2, hes, q1, q2, rfl, q3, q4, q5, q6, _, q7, q8⟩ := hf
    obtain ⟨hsame, rfl⟩ := putA_app q7 (fun x hx => q8 x (List.mem_append_left _ hx)) hl'
    have h3 := findKey_some hd (es2 := es2) q2 (fun e' he' => q1 e' (List.mem_append_left _ he'))
    rw [← hes] at h3
    have hat : es[es1.length]? = some e0 := by rw [← Array.getElem?_toList, hes]; simp
    have hst : (Instr.keyThatStays e0.key u).run P w = .ok u w := by
      have := sameA_spec hsame q6.1 hu' 9999
      simp [Instr.keyThatStays, this]
    have hmod : (es.modify es1.length fun e => { e with key := u, val := x }).toList = es1 ++ { e0 with key := u, val := x } :: es2 := by
      rw [Array.toList_modify, hes]
      rw [List.modify_eq_take_cons_drop (by simp)]
      simp
    obtain ⟨g1, g2⟩ := H.put ho hm (o' := .map (l1 ++ (B, C) :: l2)) (ob := .map (es.modify es1.length fun e => { e with key := u, val := x }) ck) (by
      refine ⟨f1 ++ { e0 with key := u, val := x } :: f2, ?_, All2.append q3 ⟨⟨hu', hx⟩, q4⟩⟩
      rw [hmod]
      exact perm_mid q5 _)
    refine ⟨_, ?_, g1, g2⟩
    simp only [Instr.mapUpdate, Sem.run_bind, run_underlying hu, Result.andThen_ok, run_getObj_map hw, hc, h3]
    simp only [Sem.run_bind, hat, Option.map_some, Option.getD_some, hst, Result.andThen_ok]
    exact run_setObj_map hw _ _

theorem del_sim (H : HR m h w) {ts : Array TypeId} {t ty : TypeId} (ht : ts[0]? = some t) {A B : AV} {r : AHeap × AV} (e : delA (keyO P t) h A B = some r) {v u : Value} (hv : VR m A v) (hu' : VR m B u) :
    SimV P m h w (Builtin.delete_ ts ty #[v, u]) r.1 r.2 := by
  simp only [delA, Option.bind_eq_some_iff] at e
  obtain ⟨⟨ko, et⟩, hk, e⟩ := e
  obtain ⟨hck, e⟩ := cond_bind.1 e
  obtain ⟨kt, d, hu, hd, c1, c2⟩ := keyO_spec hk
  cases A <;> simp only [reduceCtorEq] at e
  case nilmap =>
    simp only [Option.some.injEq] at e; subst e
    rw [vr_nilmap hv]
    have hc := c1 w m true B u hck hu'
    exact SimV.pure H (v := undef) (by simp [Builtin.delete_, ht, run_underlying hu, hc]; rfl) (vr_undef m)
  rename_i b
  simp only [Option.map_eq_some_iff, Option.bind_eq_some_iff] at e
  obtain ⟨h', ⟨o, ho, e⟩, rfl⟩ := e
  cases o <;> simp only [updObj, reduceCtorEq, Option.map_eq_some_iff] at e
  rename_i l
  obtain ⟨l', hl', rfl⟩ := e
  simp only [delOf, Option.bind_eq_some_iff] at hl'
  obtain ⟨q, hq, hl'⟩ := hl'
  obtain ⟨L, hm, rfl⟩ := vr_map hv
  obtain ⟨es, ck, hw, hR⟩ := H.map_at ho hm
  have hf := found_perm (P := P) (w := w) (kt := kt) (key := u) (fun x b hb vx hx => c2 w m B x b hb u vx hu' hx) hq hR
  have hc := c1 w m es.isEmpty B u hck hu'
  cases q with
  | none =>
    simp only [Option.some.injEq] at hl'
    subst hl'
    have h3 := findKey_none hd hf
    obtain ⟨g1, g2⟩ := H.put ho hm (o' := .map l) (ob := .map es ck) hR
    refine ⟨m, _, undef, ?_, vr_undef m, g1, g2⟩
    simp [Builtin.delete_, ht, run_underlying hu, run_getObj_map hw, hc, h3, run_setObj_map hw]
    rfl
  | some v0 =>
    obtain ⟨es1, e0, es2, l1, p, l2, f1, f2, hes, q1, q2, rfl, q3, q4, q5, q6, _, q7, q8⟩ := hf
    have := remA_app q7 (fun x hx => q8 x (List.mem_append_left _ hx)) hl'
    subst this
    have h3 := findKey_some hd (es2 := es2) q2 (fun e' he' => q1 e' (List.mem_append_left _ he'))
    rw [← hes] at h3
    have hlt : es1.length < es.size := by rw [← Array.length_toList, hes]; simp
    have hmod : (es.eraseIdxIfInBounds es1.length).toList = es1 ++ es2 := by
      unfold Array.eraseIdxIfInBounds
      rw [dif_pos hlt, Array.toList_eraseIdx, hes]
      rw [List.eraseIdx_append_of_length_le (Nat.le_refl _)]
      simp
    obtain ⟨g1, g2⟩ := H.put ho hm (o' := .map (l1 ++ l2)) (ob := .map (es.eraseIdxIfInBounds es1.length) ck) (by
      refine ⟨f1 ++ f2, ?_, All2.append q3 q4⟩
      rw [hmod]; exact q5)
    refine ⟨m, _, undef, ?_, vr_undef m, g1, g2⟩
    simp [Builtin.delete_, ht, run_underlying hu, run_getObj_map hw, hc, h3, run_setObj_map hw]
    rfl
end
end Go.Ev

/- New blocks, whatever the world. -/
set_option linter.unusedSimpArgs false
namespace Go.Ev

/-- How many elements a row has room for, when it is laid. -/
def capO : AObj → Nat
  | .cells _ el => el.length
  | _ => 0
/-- A computation that lays one new block. -/
def ASim (P : Program) (m : Ren) (s : Sem Value) (o : AObj) (k : Bn → AV) : Prop :=
  ∃ (ob : Obj) (cap : Nat) (vv : Nat → Value), cap = capO o ∧ (∀ w : World, s.run P w = .ok (vv w.heap.size) (w.alloc ob)) ∧ (∀ B, OR m ⟨B, 0, cap⟩ o ob) ∧ (∀ (m' : Ren) b B, m' b = some ⟨B, 0, cap⟩ → VR m' (k b) (vv B))

section
variable {P : Program} {m : Ren} {h : AHeap} {w : World}

theorem ASim.sim (H : HR m h w) {s : Sem Value} {o : AObj} {k : Bn → AV} (a : ASim P m s o k) : SimV P m h w s (h.new o) (k h.next) := by
  obtain ⟨ob, cap, vv, _, h1, h2, h3⟩ := a
  obtain ⟨g1, g2⟩ := H.new (o := o) (ob := ob) (L := ⟨w.heap.size, 0, cap⟩) rfl ((h2 _).mono (Ren.le_set H.next_none _))
  exact ⟨_, _, _, h1 w, h3 _ _ _ (by simp [Ren.set]), g1, g2⟩

theorem or_cells {esz : Nat} {el : List (List AV)} (hz : 0 < esz) (hl : ∀ e ∈ el, e.length = esz) {c : List Value} (hc : VRs m el.flatten c) (e : TypeId) (B : Nat) : OR m ⟨B, 0, el.length⟩ (.cells esz el) (.cells c.toArray e (0, 0)) := by
  have hlen := hc.length
  rw [flatten_length hl] at hlen
  exact ⟨rfl, hz, hl, by simp [hlen], Nat.le_refl _, by simpa [hlen] using hc⟩
theorem or_one {l : List AV} (hz : l.isEmpty = false) {c : List Value} (hc : VRs m l c) (e : TypeId) (B : Nat) : OR m ⟨B, 0, 1⟩ (.cells (lenL l) [l]) (.cells c.toArray e (0, 0)) := by
  have : 0 < l.length := by cases l <;> simp_all
  rw [lenL_eq]
  exact or_cells (el := [l]) this (by simp) (by simpa using hc) e B

/-! alloc -/
noncomputable def oneA (z : AV) : Option (AObj × (Bn → AV)) := bif z.cells.isEmpty then none else some (.cells (lenL z.cells) [z.cells], fun b => .ptr b 0)
theorem oneA_spec {z : AV} {o : AObj} {k : Bn → AV} (e : oneA z = some (o, k)) : z.cells.isEmpty = false ∧ o = .cells (lenL z.cells) [z.cells] ∧ k = fun b => .ptr b 0 := by
  unfold oneA at e
  cases he : z.cells.isEmpty with
  | true => rw [he] at e; cases e
  | false => rw [he] at e; simp only [cond_false, Option.some.injEq, Prod.mk.injEq] at e; exact ⟨rfl, e.1.symm, e.2.symm⟩
theorem alloc_sim {t : TypeId} {z : AV} (hz : zrO P t = some z) {o : AObj} {k : Bn → AV} (e : oneA z = some (o, k)) : ASim P m (Instr.alloc t true (.tuple #[])) o k := by
  obtain ⟨he, rfl, rfl⟩ := oneA_spec e
  obtain ⟨v, _, hr, i, hi, hiz⟩ := run_zero (P := P) hz default
  refine ⟨.cells v.cells t (0, 0), 1, fun B => .pointer (some ⟨B, 0, none⟩), rfl, ?_, ?_, ?_⟩
  · intro w
    simp [Instr.alloc, zeroValue, run_typeInfo w hi, hiz, newVar, newRow]
  · intro B; exact or_one he (hr m).cells t B
  · intro m' b B hb; exact .ptr b 0 _ hb
theorem box_sim {t : TypeId} {z : AV} {v : Value} (hv : VR m z v) {o : AObj} {k : Bn → AV} (e : oneA z = some (o, k)) : ASim P m (Instr.box t v) o k := by
  obtain ⟨he, rfl, rfl⟩ := oneA_spec e
  refine ⟨.cells v.cells t (0, 0), 1, fun B => .pointer (some ⟨B, 0, none⟩), rfl, ?_, ?_, ?_⟩
  · intro w
    simp [Instr.box, newVar, newRow]
  · intro B; exact or_one he hv.cells t B
  · intro m' b B hb; exact .ptr b 0 _ hb

noncomputable def bsA (sz : Option Nat) (len : Nat) (z : Option AV) (ps : List (Nat × Operand)) (T : Tr AV) : Option (AObj × (Bn → AV)) :=
  sz.bind fun sz => z.bind fun z => bif (lenL z.cells).beq sz && Nat.ble 1 sz && (len * sz).ble 16777216 then
    (xElems ps sz T (repL z.cells len)).bind fun el => some (.cells sz el, fun b => .sl b 0 len (.exact len)) else none
theorem bs_sim {T : Tr AV} {a : Act} (hF : FR m T a.tmps) {t : TypeId} {len : Nat} {parts : Array (Nat × Operand)} {o : AObj} {k : Bn → AV}
    (e : bsA ((elO P t).bind (szO P)) len ((elO P t).bind (zrO P)) parts.toList T = some (o, k)) : ASim P m (Instr.buildSlice t len (parts.map fun (i, x) => (i, a.eval x))) o k := by
  simp only [bsA, Option.bind_eq_some_iff] at e
  obtain ⟨sz, ⟨et, het, hsz⟩, z, ⟨et', het', hz⟩, e⟩ := e
  rw [het] at het'; cases het'
  obtain ⟨hb, e⟩ := cond_bind.1 e
  simp only [Option.bind_eq_some_iff, Option.some.injEq, Prod.mk.injEq] at e
  simp only [Bool.and_eq_true, Nat.beq_eq, Nat.ble_eq, lenL_eq] at hb
  obtain ⟨⟨hb1, hb2⟩, hb3⟩ := hb
  obtain ⟨el, hel, rfl, rfl⟩ := e
  rw [repL_eq] at hel
  obtain ⟨v, _, hr, i, hi, hiz⟩ := run_zero (P := P) hz default
  obtain ⟨ie, hie, hie2, _⟩ := szO_spec hsz
  rw [hi] at hie; cases hie
  have hcz := (hr m).cells
  have hrep : ∀ e ∈ List.replicate len z.cells, e.length = sz := fun e he => by rw [List.eq_of_mem_replicate he]; exact hb1
  have hu := elO_spec het
  by_cases h0 : len = 0
  · subst h0
    obtain ⟨c', h1, h2, h3, h4⟩ := elems_sim hF (c := []) hel hrep (by simp [All2])
    simp only [List.length_replicate] at h4
    have h1' : Instr.fill (fun i => some (i * sz, sz)) #[] (parts.map fun (i, x) => (i, a.eval x)).toList = some c'.toArray := by rw [Array.toList_map]; exact h1
    simp only [Array.toList_map] at h1'
    refine ⟨.cells c'.toArray et (0, 0), 0, fun B => .slice (some ⟨B, 0, none⟩) 0 0, h4.symm, ?_, ?_, ?_⟩
    · intro w
      simp [Instr.buildSlice, run_underlying hu, run_sz hsz, newRow, Array.range_zero', h1']
    · intro B
      have := or_cells (m := m) (by omega) h3 h2 et B
      rw [h4] at this; exact this
    · intro m' b B hb; exact .sl b 0 0 _ _ _ hb rfl
  · have hpos : ¬ len * sz = 0 := by
      have : 0 < len * sz := Nat.mul_pos (by omega) (by omega)
      omega
    obtain ⟨hmc, hms⟩ := made_cells hcz (by omega) len
    rw [hb1] at hmc hms
    obtain ⟨c', h1, h2, h3, h4⟩ := elems_sim hF hel hrep hmc
    simp only [List.length_replicate] at h4
    refine ⟨.cells c'.toArray et (0, 0), len, fun B => .slice (some ⟨B, 0, none⟩) len len, h4.symm, ?_, ?_, ?_⟩
    · intro w
      refine run_buildSlice w t et len _ c'.toArray i v hu hi hiz (by rw [hie2]; omega) (by rw [hie2]; exact hpos) ?_
      rw [hie2, Array.toList_map]
      exact h1
    · intro B
      have := or_cells (m := m) (by omega) h3 h2 et B
      rw [h4] at this; exact this
    · intro m' b B hb; exact .sl b 0 len _ _ _ hb rfl

noncomputable def msA (sz by_ : Option Nat) (z : Option AV) (l c : AV) : Option (AObj × (Bn → AV)) :=
  sz.bind fun sz => by_.bind fun by_ => z.bind fun z => match l, c with
    | .int _ (.ofNat l), .int _ (.ofNat c) => bif (lenL z.cells).beq sz && Nat.ble 1 sz && l.ble c && (by_ * c).ble 281474976710656 && c.ble 9223372036854775807 then
        some (.cells sz (repL z.cells c), fun b => .sl b 0 l (.exact c)) else none
    | _, _ => none
theorem ms_sim {t : TypeId} {A B : AV} {x y : Value} (hx : VR m A x) (hy : VR m B y) {o : AObj} {k : Bn → AV}
    (e : msA ((elO P t).bind (szO P)) ((elO P t).bind fun e => (P.info? e).map (·.bytes)) ((elO P t).bind (zrO P)) A B = some (o, k)) : ASim P m (Instr.makeSlice t x y) o k := by
  simp only [msA, Option.bind_eq_some_iff] at e
  obtain ⟨sz, ⟨et, het, hsz⟩, by_, ⟨et', het', hby⟩, z, ⟨et'', het'', hz⟩, e⟩ := e
  rw [het] at het' het''; cases het'; cases het''
  split at e
  case h_2 => cases e
  case h_1 kl ln kc cn =>
    obtain ⟨hb, e⟩ := cond_some.1 e
    simp only [Bool.and_eq_true, Nat.beq_eq, Nat.ble_eq, lenL_eq] at hb
    obtain ⟨⟨⟨⟨hb1, hb2⟩, hb3⟩, hb4⟩, hb5⟩ := hb
    simp only [Prod.mk.injEq] at e
    obtain ⟨rfl, rfl⟩ := e
    obtain ⟨v, _, hr, i, hi, hiz⟩ := run_zero (P := P) hz default
    obtain ⟨ie, hie, hie2, _⟩ := szO_spec hsz
    rw [hi] at hie; cases hie
    rw [hi] at hby
    simp only [Option.map_some, Option.some.injEq] at hby
    have hcz := (hr m).cells
    have hu := elO_spec het
    rw [vr_int hx, vr_int hy]
    obtain ⟨hmc, hms⟩ := made_cells hcz (by omega) cn
    rw [hb1] at hmc hms
    rw [repL_eq]
    refine ⟨.cells ((Array.range (cn * sz)).map (v.cells[· % v.cells.size]!)) et (0, 0), cn, fun B => .slice (some ⟨B, 0, none⟩) ln cn, by simp [capO], ?_, ?_, ?_⟩
    · intro w
      have hrun := run_make (P := P) w t et i v hu hi hiz kl kc (Int.ofNat ln) (Int.ofNat cn) (by simp) (by simp; omega)
        (by rw [hby]; have : ((by_ * cn : Nat) : Int) ≤ 281474976710656 := by omega
            simpa using this) (by simp; omega)
      rw [hrun]
      simp [hie2]
      rfl
    · intro B
      have := or_cells (m := m) (esz := sz) (el := List.replicate cn z.cells) (by omega) (fun e he => by rw [List.eq_of_mem_replicate he]; exact hb1) hmc et B
      rw [List.length_replicate] at this
      exact this
    · intro m' b B hb; exact .sl b 0 ln _ _ _ hb rfl

theorem mm_sim (t : TypeId) : ASim P m (Instr.makeMap t none) (.map []) (fun b => .map b) :=
  ⟨.map #[] 0, 0, fun B => .map (some B), rfl, fun w => rfl, fun B => ⟨[], by simp, trivial⟩, fun m' b B hb => .map b _ hb⟩

/-! nilCheck -/
def isPtr (P : Program) (t : TypeId) : Bool := match P.underlying t with | some (.pointer _) => true | _ => false
/-- The method of a name, of a type's values: no field is gone through, and the receiver is as it stands. -/
def metF (P : Program) (t : TypeId) (r : Method) : Option FuncId :=
  bif r.path.isEmpty then (match r.func with
    | some (f, true) => bif isPtr P t then some f else none
    | some (f, false) => bif isPtr P t then none else some f
    | none => none) else none
def metO (P : Program) (t : TypeId) (name : String) : Option FuncId :=
  (P.info? t).bind fun i => (P.underlying t).bind fun _ => (i.methods.find? (·.name == name)).bind (metF P t)
theorem metO_spec {t : TypeId} {name : String} {f : FuncId} (e : metO P t name = some f) : ∃ i r pr d, P.info? t = some i ∧ P.underlying t = some d ∧ i.methods.find? (·.name == name) = some r ∧ r.path = #[] ∧ r.func = some (f, pr) ∧
    ((pr = true ∧ ∃ e, d = .pointer e) ∨ (pr = false ∧ ∀ e, d ≠ .pointer e)) := by
  simp only [metO, Option.bind_eq_some_iff] at e
  obtain ⟨i, hi, d, hd, r, hr, e⟩ := e
  unfold metF at e
  obtain ⟨hp, e⟩ := cond_bind.1 e
  have hp : r.path = #[] := by simpa using hp
  have hptr : isPtr P t = true ↔ ∃ e, d = .pointer e := by
    unfold isPtr
    rw [hd]
    cases d <;> simp
  split at e
  · rename_i f' hf
    obtain ⟨h1, rfl⟩ := cond_some.1 e
    exact ⟨i, r, true, d, hi, hd, hr, hp, hf, .inl ⟨rfl, hptr.1 h1⟩⟩
  · rename_i f' hf
    cases h1 : isPtr P t with
    | true => rw [h1] at e; cases e
    | false =>
      rw [h1] at e
      simp only [cond_false, Option.some.injEq] at e
      subst e
      refine ⟨i, r, false, d, hi, hd, hr, hp, hf, .inr ⟨rfl, fun e he => ?_⟩⟩
      rw [hptr.2 ⟨e, he⟩] at h1; cases h1
  · cases e
theorem run_method {t : TypeId} {name : String} {f : FuncId} (e : metO P t name = some f) (n : Nat) (v : Value) (w : World) : (method (n + 1) t v name).run P w = .ok (f, v) w := by
  obtain ⟨i, r, pr, d, hi, hd, hr, hp, hf, hc⟩ := metO_spec e
  rcases hc with ⟨rfl, te, rfl⟩ | ⟨rfl, hne⟩
  · simp [method, run_typeInfo w hi, hr, hp, follow, hf, receiverAt, run_underlying hd, Place.get]
  · have : (receiverAt t (.val v) false (some ((name.splitOn ".").getLastD name))).run P w = .ok v w := by
      cases d <;> first | exact absurd rfl (hne _) | simp [receiverAt, run_underlying hd, Place.get]
    simp only [method, Sem.run_bind, run_typeInfo w hi, Result.andThen_ok, hr, hp, follow, hf, Array.isEmpty_empty, if_true, Sem.run_pure, this]
theorem run_nilAhead {t : TypeId} {name : String} {f : FuncId} (e : metO P t name = some f) (hd0 : ∃ te, P.underlying t = some (.pointer te)) (n : Nat) (v : Value) (w : World) : (nilAhead (n + 1) t v name).run P w = .ok (some false) w := by
  obtain ⟨i, r, pr, d, hi, hd, hr, hp, hf, hc⟩ := metO_spec e
  obtain ⟨te, hte⟩ := hd0
  rw [hd] at hte; cases hte
  rcases hc with ⟨rfl, te, _⟩ | ⟨rfl, hne⟩
  · simp [nilAhead, run_typeInfo w hi, hr, hp, followBlind, hf]
  · exact absurd rfl (hne _)
def nilA (P : Program) : AV → Option AV
  | .nilp => none
  | .nili => none
  | .nilf => none
  | .fn (.method name) (.ifc t v :: l) c => bif (metO P t name).isSome && isPtr P t then some (.fn (.method name) (.ifc t v :: l) c) else none
  | .fn (.method _) _ _ => none
  | x => some x
end
end Go.Ev

/- The operations, by their kinds. -/
set_option linter.unusedSimpArgs false
namespace Go.Ev

/-- Who is called. -/
inductive CallT where
  | fn (f : FuncId)
  | yld (b : Bn)

inductive OpK where
  | q (f : Tr AV → Option AV)
  | r (f : AHeap → Tr AV → Option AV)
  | a (f : Tr AV → Option (AObj × (Bn → AV)))
  | e (f : AHeap → Tr AV → Option (AHeap × AV))
  | call (f : Tr AV → Option (CallT × List AV))
  | bad

noncomputable def evP : Option Operand → Tr AV → Option (Option AV)
  | none => fun _ => some none
  | some x => fun T => (evO x T).map some

/-- A function value is called. -/
noncomputable def callV (P : Program) : AV → List AV → Option (CallT × List AV)
  | .fn (.func f) l c, args => some (.fn f, appL l (appL args c))
  | .fn (.method name) l _, args => match appL l args with
    | .ifc t v :: rest => (metO P t name).map fun f => (.fn f, v :: rest)
    | _ => none
  | .yld b, args => some (.yld b, args)
  | _, _ => none
def callM (P : Program) (name : String) : AV → List AV → Option (CallT × List AV)
  | .ifc t v, args => (metO P t name).map fun f => (.fn f, v :: args)
  | _, _ => none

section
variable (P : Program)
def isMapK : Option LnK → Bool
  | some .map => true
  | _ => false
noncomputable def blK (b : Builtin) (ts : Array TypeId) (args : List Operand) : OpK :=
  match b, args with
  | .append, [x, y] => match ts[0]?, ts[1]? with
    | some t, some tx => .e fun h T => (evO x T).bind fun a => (evO y T).bind fun b => appA (apK P tx) ((elO P t).bind (szO P)) ((elO P t).bind fun e => (P.info? e).map (·.bytes)) ((elO P t).bind (zrO P)) h a b
    | _, _ => .bad
  | .len, [x] => match ts[0]? with
    | some t => bif isMapK (lnK P t) then .r fun h T => (evO x T).bind (lenA (lnK P t) h) else .q fun T => (evO x T).bind (lenA (lnK P t) ⟨.xH, .leaf⟩)
    | none => .bad
  | .copy, [x, y] => match ts[0]? with
    | some t => .e fun h T => (evO x T).bind fun a => (evO y T).bind fun b => copyA ((elO P t).bind (szO P)) h a b
    | none => .bad
  | .clear, [x] => match ts[0]? with
    | some t => .e fun h T => (evO x T).bind fun a => clearA ((elO P t).bind (zrO P)) h a
    | none => .bad
  | .delete, [x, y] => match ts[0]? with
    | some t => .e fun h T => (evO x T).bind fun a => (evO y T).bind fun b => delA (keyO P t) h a b
    | none => .bad
  | .max, l => .q fun T => (evOs l T).bind (mmA maxA)
  | .min, l => .q fun T => (evOs l T).bind (mmA minA)
  | _, _ => .bad
noncomputable def opK : Op → OpK
  | .move x => .q (evO x)
  | .assign x => .q (evO x)
  | .pick c a b => .q (xPick (evO c) (evO a) (evO b))
  | .alloc t => .a fun _ => (zrO P t).bind oneA
  | .box _ x => .a fun T => (evO x T).bind oneA
  | .build t ps => .q (xBuild (zrO P t) (buildPlaces P t ps.toList))
  | .buildSlice t len ps => .a (bsA ((elO P t).bind (szO P)) len ((elO P t).bind (zrO P)) ps.toList)
  | .load t x => .r (xLoad (agO P t) (evO x))
  | .store t x y => .e fun h T => (xStore (szO P t) (evO x) (evO y) h T).map fun h => (h, undefA)
  | .nilCheck x => .q fun T => (evO x T).bind (nilA P)
  | .binOp op t x y _ => match op with
    | .eql => .r fun h T => (evO x T).bind fun a => (evO y T).bind fun b => (eqTop P t (isLit x || isLit y) h a b).map .bool
    | .neq => .r fun h T => (evO x T).bind fun a => (evO y T).bind fun b => (eqTop P t (isLit x || isLit y) h a b).map fun r => .bool (!r)
    | op => .q fun T => (evO x T).bind fun a => (evO y T).bind (arith op a)
  | .unOp op _ x => .q fun T => (evO x T).bind (unA op)
  | .convert s d x => .q fun T => (evO x T).bind (cvA (cvK P s d))
  | .makeInterface t x => .q fun T => bif concr P t then (evO x T).map (.ifc t) else none
  | .makeFunc f a b => .q fun T => bif Fn.plain f then (evOs a.toList T).bind fun a => (evOs b.toList T).map (.fn f a) else none
  | .makeMap _ none => .a fun _ => some (.map [], fun b => .map b)
  | .makeSlice t l c => .a fun T => (evO l T).bind fun l => (evO c T).bind (msA ((elO P t).bind (szO P)) ((elO P t).bind fun e => (P.info? e).map (·.bytes)) ((elO P t).bind (zrO P)) l)
  | .slice t x lo hi mx => .r fun h T => (evO x T).bind fun a => (evP lo T).bind fun lo => (evP hi T).bind fun hi => (evP mx T).bind fun mx => sliceA (slK P t) h a lo hi mx
  | .fieldAddr t x f => .q fun T => (evO x T).bind (fieldAddrA (fdO P t f))
  | .field t x f => .q fun T => (evO x T).bind (fieldV (fieldA P t f))
  | .indexAddr t x i => .q fun T => (evO x T).bind fun a => (evO i T).bind (indexAddrA (ixK P t) a)
  | .index t x i => .q fun T => (evO x T).bind fun a => (evO i T).bind (indexA (jxK P t) a)
  | .lookup t x i ok => .r fun h T => (evO x T).bind fun a => (evO i T).bind (lookupA (keyO P t) ((keyO P t).bind fun k => zrO P k.2) ok h a)
  | .mapUpdate t m k x => .e fun h T => (evO m T).bind fun a => (evO k T).bind fun b => (evO x T).bind fun c => (updA (keyO P t) h a b c).map fun h => (h, undefA)
  | .insert t m k x => .e fun h T => (evO m T).bind fun a => (evO k T).bind fun b => (evO x T).bind fun c => (updA (keyO P t) h a b c).map fun h => (h, undefA)
  | .extract x i => .q fun T => (evO x T).bind (extractA i)
  | .call c => match c.callee with
    | .builtin b => blK P b c.argTypes c.args.toList
    | .value f => .call fun T => (evO f T).bind fun f => (evOs c.args.toList T).bind (callV P f)
    | .invoke r name => .call fun T => (evO r T).bind fun r => (evOs c.args.toList T).bind (callM P name r)
  | _ => .bad
end

section
variable {P : Program} {m : Ren} {h : AHeap} {w : World}

theorem bind_ok {s : Sem Value} {v : Value} {w w' : World} (hs : s.run P w = .ok v w') : (do pure (Next.value (← s)) : Sem Next).run P w = .ok (.value v) w' := by simp [hs]
theorem bindU_ok {s : Sem Unit} {w w' : World} (hs : s.run P w = .ok () w') : (do s; pure Next.skip : Sem Next).run P w = .ok .skip w' := by simp [hs]

/-- What needs no memory. -/
theorem opq_sim {T : Tr AV} {a : Act} (hF : FR m T a.tmps) {o : Oper} {f : Tr AV → Option AV} (hk : opK P o.op = .q f) {r : AV} (e : f T = some r) :
    ∃ v, (∀ w, (execOp a.eval o).run P w = .ok (.value v) w) ∧ VR m r v := by
  have done : ∀ {s : Sem Value}, (∃ v, (∀ w, s.run P w = .ok v w) ∧ VR m r v) → execOp a.eval o = (do pure (Next.value (← s)) : Sem Next) → ∃ v, (∀ w, (execOp a.eval o).run P w = .ok (.value v) w) ∧ VR m r v := by
    rintro s ⟨v, h1, h2⟩ he
    exact ⟨v, fun w => by rw [he]; exact bind_ok (h1 w), h2⟩
  unfold execOp at *
  cases ho : o.op with
  | move x => simp only [ho, opK, OpK.q.injEq] at hk ⊢; subst hk; exact ⟨_, fun _ => rfl, evO_vr hF e⟩
  | assign x => simp only [ho, opK, OpK.q.injEq] at hk ⊢; subst hk; exact ⟨_, fun _ => rfl, evO_vr hF e⟩
  | pick c x y =>
    simp only [ho, opK, OpK.q.injEq] at hk ⊢; subst hk
    simp only [xPick, Option.bind_eq_some_iff] at e
    obtain ⟨b, hb, e⟩ := e
    split at e
    · rw [vr_bool (evO_vr hF hb)]; exact ⟨_, fun w => by simp [asBool], evO_vr hF e⟩
    · rw [vr_bool (evO_vr hF hb)]; exact ⟨_, fun w => by simp [asBool], evO_vr hF e⟩
    · cases e
  | build t ps =>
    simp only [ho, opK, OpK.q.injEq] at hk ⊢; subst hk
    simp only [ho] at done
    exact done (sim_build hF e) rfl
  | nilCheck x =>
    simp only [ho, opK, OpK.q.injEq] at hk ⊢; subst hk
    simp only [Option.bind_eq_some_iff] at e
    obtain ⟨A, hA, e⟩ := e
    have hv := evO_vr hF hA
    generalize a.eval x = v at hv
    unfold nilA at e
    split at e
    · cases e
    · cases e
    · cases e
    · rename_i name t A l c
      obtain ⟨hc, rfl⟩ := cond_some.1 e
      obtain ⟨cf, cc, rfl, _, h1, _⟩ := vr_fn.1 hv
      obtain ⟨v0, cf', rfl, h2, _⟩ := h1.cons_left
      obtain ⟨v1, rfl, h3⟩ := vr_ifc h2
      rw [Bool.and_eq_true, Option.isSome_iff_exists] at hc
      obtain ⟨⟨f, hf⟩, hp⟩ := hc
      have hp' : ∃ te, P.underlying t = some (.pointer te) := by
        unfold isPtr at hp
        split at hp
        · rename_i te hte; exact ⟨te, hte⟩
        · cases hp
      refine ⟨_, fun w => ?_, hv⟩
      obtain ⟨n, hn⟩ : ∃ n, P.types.size + Made.depth = n + 1 := ⟨P.types.size + Made.depth - 1, by simp only [Made.depth]; omega⟩
      have hn' := run_nilAhead hf hp' n v1 w
      have hg : ((Value.iface t v1 :: cf').toArray[0]? : Option Value) = some (.iface t v1) := by simp
      simp only [hg]
      simp [hn, hn']
    · cases e
    · rename_i h1 h2 h3 h4 h5
      simp only [Option.some.injEq] at e; subst e
      refine ⟨v, fun w => ?_, hv⟩
      cases hv with
      | nilp => exact absurd rfl h1
      | nili => exact absurd rfl h2
      | nilf => exact absurd rfl h3
      | fn f l l' c c' hf hl hh hl' hh' =>
        cases f with
        | method name => exact absurd rfl (h5 name l l')
        | _ => rfl
      | _ => rfl
  | binOp op t x y yt =>
    simp only [ho, opK] at hk ⊢
    have key : (f = fun T => (evO x T).bind fun a => (evO y T).bind (arith op a)) → ∃ v, (∀ w, (do let v ← (do eqGuard op t x y (a.eval x) (a.eval y); binOp op t (a.eval x) (a.eval y) : Sem Value); pure (Next.value v) : Sem Next).run P w = .ok (.value v) w) ∧ VR m r v := by
      rintro rfl
      simp only [Option.bind_eq_some_iff] at e
      obtain ⟨A, hA, B, hB, e⟩ := e
      obtain ⟨h1, v, h2, h3⟩ := arith_sim (P := P) (t := t) (x := x) (y := y) e (evO_vr hF hA) (evO_vr hF hB)
      exact ⟨v, fun w => by simp [h1 w, h2 w], h3⟩
    cases op <;> simp only [reduceCtorEq, OpK.q.injEq] at hk <;> exact key hk.symm
  | unOp op t x =>
    simp only [ho, opK, OpK.q.injEq] at hk ⊢; subst hk
    simp only [Option.bind_eq_some_iff] at e
    obtain ⟨A, hA, e⟩ := e
    simp only [ho] at done
    exact done (un_sim e (evO_vr hF hA)) rfl
  | convert s d x =>
    simp only [ho, opK, OpK.q.injEq] at hk ⊢; subst hk
    simp only [Option.bind_eq_some_iff] at e
    obtain ⟨A, hA, e⟩ := e
    simp only [ho] at done
    exact done (cv_sim e (evO_vr hF hA)) rfl
  | makeInterface t x =>
    simp only [ho, opK, OpK.q.injEq] at hk ⊢; subst hk
    obtain ⟨hc, e⟩ := cond_bind.1 e
    simp only [Option.map_eq_some_iff] at e
    obtain ⟨A, hA, rfl⟩ := e
    simp only [ho] at done
    exact done (mkIfc_sim hc (evO_vr hF hA)) rfl
  | makeFunc f1 l c =>
    simp only [ho, opK, OpK.q.injEq] at hk ⊢; subst hk
    obtain ⟨hc, e⟩ := cond_bind.1 e
    simp only [Option.bind_eq_some_iff, Option.map_eq_some_iff] at e
    obtain ⟨A, hA, B, hB, rfl⟩ := e
    simp only [ho] at done
    have h1 := mkFn_sim (P := P) hc (evOs_vr hF hA) (evOs_vr hF hB)
    refine done (s := Instr.makeFunc f1 (l.map a.eval) (c.map a.eval)) ?_ rfl
    have e1 : ∀ l : Array Operand, (l.toList.map a.eval).toArray = l.map a.eval := fun l => by apply Array.ext'; simp
    rw [e1, e1] at h1
    exact h1
  | fieldAddr t x i =>
    simp only [ho, opK, OpK.q.injEq] at hk ⊢; subst hk
    simp only [Option.bind_eq_some_iff] at e
    obtain ⟨A, hA, e⟩ := e
    simp only [ho] at done
    exact done (fieldAddr_sim e (evO_vr hF hA)) rfl
  | field t x i =>
    simp only [ho, opK, OpK.q.injEq] at hk ⊢; subst hk
    simp only [Option.bind_eq_some_iff] at e
    obtain ⟨A, hA, e⟩ := e
    simp only [ho] at done
    exact done (field_sim e (evO_vr hF hA)) rfl
  | indexAddr t x i =>
    simp only [ho, opK, OpK.q.injEq] at hk ⊢; subst hk
    simp only [Option.bind_eq_some_iff] at e
    obtain ⟨A, hA, B, hB, e⟩ := e
    simp only [ho] at done
    exact done (indexAddr_sim e (evO_vr hF hA) (evO_vr hF hB)) rfl
  | index t x i =>
    simp only [ho, opK, OpK.q.injEq] at hk ⊢; subst hk
    simp only [Option.bind_eq_some_iff] at e
    obtain ⟨A, hA, B, hB, e⟩ := e
    simp only [ho] at done
    exact done (index_sim e (evO_vr hF hA) (evO_vr hF hB)) rfl
  | extract x i =>
    simp only [ho, opK, OpK.q.injEq] at hk ⊢; subst hk
    simp only [Option.bind_eq_some_iff] at e
    obtain ⟨A, hA, e⟩ := e
    simp only [ho] at done
    exact done (extract_sim e (evO_vr hF hA)) rfl
  | call c =>
    simp only [ho, opK] at hk ⊢
    cases hc : c.callee with
    | value g => simp only [hc, reduceCtorEq] at hk
    | invoke r n => simp only [hc, reduceCtorEq] at hk
    | builtin b =>
      simp only [hc] at hk
      obtain ⟨cs, hres⟩ : ∃ cs, ∀ w, (do let d ← resolve a.eval c o.type; invoke d.target d.args : Sem Next).run P w = (builtin b c.argTypes o.type cs (c.args.map a.eval)).run P w := by
        refine ⟨c.args.map fun | .const _ => true | _ => false, fun w => ?_⟩
        simp only [resolve, hc, Sem.run_bind, Sem.run_pure, Result.andThen_ok, invoke]
        rfl
      have fin : ∀ {s : Sem Value}, (∃ v, (∀ w, s.run P w = .ok v w) ∧ VR m r v) → builtin b c.argTypes o.type cs (c.args.map a.eval) = (do pure (Next.value (← s)) : Sem Next) →
          ∃ v, (∀ w, (do let d ← resolve a.eval c o.type; invoke d.target d.args : Sem Next).run P w = .ok (.value v) w) ∧ VR m r v := by
        rintro s ⟨v, h1, h2⟩ he
        exact ⟨v, fun w => by rw [hres, he]; exact bind_ok (h1 w), h2⟩
      have hargs : ∀ {A : List AV}, evOs c.args.toList T = some A → VRs m A (c.args.map a.eval).toList := by
        intro A hA
        have := evOs_vr hF hA
        simpa using this
      unfold blK at hk
      split at hk
      case h_2 x hl =>
        split at hk
        case h_2 => cases hk
        rename_i t ht
        cases hm : isMapK (lnK P t) with
        | true => rw [hm] at hk; cases hk
        | false =>
          rw [hm] at hk
          simp only [cond_false, OpK.q.injEq] at hk; subst hk
          simp only [Option.bind_eq_some_iff] at e
          obtain ⟨A, hA, e⟩ := e
          have hargs : c.args.map a.eval = #[a.eval x] := by apply Array.ext'; simp [hl]
          exact fin (s := Builtin.len_ c.argTypes o.type #[a.eval x]) (lenq_sim ht (by intro h; rw [h] at hm; cases hm) e (evO_vr hF hA)) (by rw [hargs]; rfl)
      case h_6 l hl =>
        simp only [OpK.q.injEq] at hk; subst hk
        simp only [Option.bind_eq_some_iff] at e
        obtain ⟨A, hA, e⟩ := e
        exact fin (s := Builtin.max_ c.argTypes o.type (c.args.map a.eval)) (max_all e (hargs hA)) rfl
      case h_7 l hl =>
        simp only [OpK.q.injEq] at hk; subst hk
        simp only [Option.bind_eq_some_iff] at e
        obtain ⟨A, hA, e⟩ := e
        exact fin (s := Builtin.min_ c.argTypes o.type (c.args.map a.eval)) (min_all e (hargs hA)) rfl
      all_goals (first | (cases hk; done) | (split at hk <;> cases hk; done) | (split at hk <;> first | (cases hk; done) | (revert hk; generalize isMapK _ = bb; cases bb <;> (intro hk; cases hk))))
  | makeMap t r => cases r <;> simp [ho, opK] at hk
  | _ => simp [ho, opK] at hk
end
end Go.Ev

/- The operations' other kinds. -/
set_option linter.unusedSimpArgs false
namespace Go.Ev

section
variable {P : Program} {m : Ren} {h : AHeap} {w : World}

theorem eqTop_int {t : TypeId} {l : Bool} {k : IntKind} {n : Int} {B : AV} {b : Bool} (e : eqTop P t l h (.int k n) B = some b) : ∃ n', B = .int k n' ∧ b = decide (n = n') := by
  have prim : ∀ {td : TypeDesc}, eqPt td (.int k n) B = some b → ∃ n', B = .int k n' ∧ b = decide (n = n') := by
    intro td e
    unfold eqPt at e
    have e := (cond_bind.1 e).2
    cases B <;> simp only [eqP, reduceCtorEq] at e
    obtain ⟨hk, rfl⟩ := cond_some.1 e
    rw [kEq_eq] at hk; subst hk
    exact ⟨_, rfl, rfl⟩
  have noA : ∀ {d : Nat} {u : TypeId} , eqA P d u (.int k n) B = some b → ∃ n', B = .int k n' ∧ b = decide (n = n') := by
    intro d u e
    cases d with
    | zero => simp [eqA] at e
    | succ d =>
      unfold eqA at e
      cases hu : P.underlying u with
      | none => rw [hu] at e; cases e
      | some td =>
        rw [hu] at e
        cases td <;> first | exact prim e | (cases e; done) | skip
        cases hs : P.stoodInHeld u <;> rw [hs] at e <;> cases e
  unfold eqTop at e
  cases hu : P.underlying t with
  | none => rw [hu] at e; cases e
  | some td =>
    rw [hu] at e
    cases td <;> first | exact prim e | (cases e; done) | skip
    case pointer te =>
      dsimp only at e
      cases hs : szO P te with
      | none => rw [hs] at e; cases e
      | some n =>
        rw [hs] at e
        cases n with
        | zero => cases e
        | succ n => cases B <;> simp [eqPtr] at e
    case struct fs =>
      dsimp only at e
      cases hg : P.eqGuardType P.depth t with
      | true => rw [hg] at e; cases e
      | false => rw [hg] at e; exact noA e
    case array n te =>
      dsimp only at e
      cases hg : P.eqGuardType P.depth t with
      | true => rw [hg] at e; cases e
      | false => rw [hg] at e; exact noA e
theorem eqTop_str {t : TypeId} {l : Bool} {s : List UInt8} {B : AV} {b : Bool} (e : eqTop P t l h (.str s) B = some b) : ∃ s', B = .str s' ∧ b = bytesEq s s' := by
  have prim : ∀ {td : TypeDesc}, eqPt td (.str s) B = some b → ∃ s', B = .str s' ∧ b = bytesEq s s' := by
    intro td e
    unfold eqPt at e
    have e := (cond_bind.1 e).2
    cases B <;> simp only [eqP, reduceCtorEq, Option.some.injEq] at e
    exact ⟨_, rfl, e.symm⟩
  have noA : ∀ {d : Nat} {u : TypeId} , eqA P d u (.str s) B = some b → ∃ s', B = .str s' ∧ b = bytesEq s s' := by
    intro d u e
    cases d with
    | zero => simp [eqA] at e
    | succ d =>
      unfold eqA at e
      cases hu : P.underlying u with
      | none => rw [hu] at e; cases e
      | some td =>
        rw [hu] at e
        cases td <;> first | exact prim e | (cases e; done) | skip
        cases hs : P.stoodInHeld u <;> rw [hs] at e <;> cases e
  unfold eqTop at e
  cases hu : P.underlying t with
  | none => rw [hu] at e; cases e
  | some td =>
    rw [hu] at e
    cases td <;> first | exact prim e | (cases e; done) | skip
    case pointer te =>
      dsimp only at e
      cases hs : szO P te with
      | none => rw [hs] at e; cases e
      | some n =>
        rw [hs] at e
        cases n with
        | zero => cases e
        | succ n => cases B <;> simp [eqPtr] at e
    case struct fs =>
      dsimp only at e
      cases hg : P.eqGuardType P.depth t with
      | true => rw [hg] at e; cases e
      | false => rw [hg] at e; exact noA e
    case array n te =>
      dsimp only at e
      cases hg : P.eqGuardType P.depth t with
      | true => rw [hg] at e; cases e
      | false => rw [hg] at e; exact noA e

theorem eq_bin (H : HR m h w) {t : TypeId} {x y : Operand} {A B : AV} {b : Bool} (e : eqTop P t (isLit x || isLit y) h A B = some b) {vx vy : Value} (hx : VR m A vx) (hy : VR m B vy) :
    (do eqGuard .eql t x y vx vy; binOp .eql t vx vy : Sem Value).run P w = .ok (.bool b) w ∧ (do eqGuard .neq t x y vx vy; binOp .neq t vx vy : Sem Value).run P w = .ok (.bool !b) w := by
  have h1 := fun op => (eqTop_sim (P := P) H e hx hy (op := op)).1
  have h2 := (eqTop_sim (P := P) H e hx hy (op := .eql)).2
  have key : (binOp .eql t vx vy).run P w = .ok (.bool b) w ∧ (binOp .neq t vx vy).run P w = .ok (.bool !b) w := by
    by_cases hi : ∃ k n, A = .int k n
    · obtain ⟨k, n, rfl⟩ := hi
      obtain ⟨n', rfl, rfl⟩ := eqTop_int e
      rw [vr_int hx, vr_int hy]
      constructor
      · simp [binOp, Op.intCmp]; rfl
      · simp [binOp, Op.intCmp]; rfl
    · by_cases hs : ∃ s, A = .str s
      · obtain ⟨s, rfl⟩ := hs
        obtain ⟨s', rfl, rfl⟩ := eqTop_str e
        rw [vr_str hx, vr_str hy, bytesEq_eq]
        constructor
        · simp [binOp, Op.stringOp, beq_toListBytes, ByteArray.toList_eq]
        · simp [binOp, Op.stringOp, beq_toListBytes, ByteArray.toList_eq, bne]
      · refine binOp_eql_run h2 ?_ ?_ ?_ ?_
        · rintro k n rfl; cases hx; exact hi ⟨_, _, rfl⟩
        · rintro s rfl; cases hx; exact hs ⟨_, rfl⟩
        · rintro k n rfl; cases hx
        · rintro k n n' rfl; cases hx
  constructor
  · simp [h1, key.1]
  · simp [h1, key.2]

theorem evP_vr {T : Tr AV} {a : Act} (hF : FR m T a.tmps) {x : Option Operand} {A : Option AV} (e : evP x T = some A) : OptR m A (x.map a.eval) := by
  cases x with
  | none => simp only [evP, Option.some.injEq] at e; subst e; trivial
  | some x =>
    simp only [evP, Option.map_eq_some_iff] at e
    obtain ⟨b, hb, rfl⟩ := e
    exact evO_vr hF hb

theorem execOp_call {c : Call} {o : Oper} {a : Act} (ho : o.op = .call c) : execOp a.eval o = (do let d ← resolve a.eval c o.type; invoke d.target d.args : Sem Next) := by unfold execOp; simp only [ho]
theorem run_builtin {c : Call} {o : Oper} {a : Act} (ho : o.op = .call c) {b : Builtin} (hc : c.callee = .builtin b) : ∃ cs, ∀ w, (execOp a.eval o).run P w = (builtin b c.argTypes o.type cs (c.args.map a.eval)).run P w := by
  refine ⟨c.args.map fun | .const _ => true | _ => false, fun w => ?_⟩
  rw [execOp_call ho]
  simp only [resolve, hc, Sem.run_bind, Sem.run_pure, Result.andThen_ok, invoke]
  rfl

/-- What reads memory. -/
theorem opr_sim (H : HR m h w) {T : Tr AV} {a : Act} (hF : FR m T a.tmps) {o : Oper} {f : AHeap → Tr AV → Option AV} (hk : opK P o.op = .r f) {r : AV} (e : f h T = some r) :
    ∃ v, (execOp a.eval o).run P w = .ok (.value v) w ∧ VR m r v := by
  have done : ∀ {s : Sem Value}, (∃ v, s.run P w = .ok v w ∧ VR m r v) → execOp a.eval o = (do pure (Next.value (← s)) : Sem Next) → ∃ v, (execOp a.eval o).run P w = .ok (.value v) w ∧ VR m r v := by
    rintro s ⟨v, h1, h2⟩ he
    exact ⟨v, by rw [he]; exact bind_ok h1, h2⟩
  cases ho : o.op with
  | load t x =>
    simp only [ho, opK, OpK.r.injEq] at hk; subst hk
    exact done (sim_load H hF e) (by unfold execOp; simp only [ho])
  | binOp op t x y yt =>
    simp only [ho, opK] at hk
    cases op <;> simp only [reduceCtorEq, OpK.r.injEq] at hk
    · subst hk
      simp only [Option.bind_eq_some_iff, Option.map_eq_some_iff] at e
      obtain ⟨A, hA, B, hB, b, hb, rfl⟩ := e
      exact done ⟨_, (eq_bin H hb (evO_vr hF hA) (evO_vr hF hB)).1, .bool _⟩ (by unfold execOp; simp only [ho])
    · subst hk
      simp only [Option.bind_eq_some_iff, Option.map_eq_some_iff] at e
      obtain ⟨A, hA, B, hB, b, hb, rfl⟩ := e
      exact done ⟨_, (eq_bin H hb (evO_vr hF hA) (evO_vr hF hB)).2, .bool _⟩ (by unfold execOp; simp only [ho])
  | slice t x lo hi mx =>
    simp only [ho, opK, OpK.r.injEq] at hk; subst hk
    simp only [Option.bind_eq_some_iff] at e
    obtain ⟨A, hA, L, hL, U, hU, M, hM, e⟩ := e
    exact done (slice_sim H e (evO_vr hF hA) (evP_vr hF hL) (evP_vr hF hU) (evP_vr hF hM)) (by unfold execOp; simp only [ho])
  | lookup t x i ok =>
    simp only [ho, opK, OpK.r.injEq] at hk; subst hk
    simp only [Option.bind_eq_some_iff] at e
    obtain ⟨A, hA, B, hB, e⟩ := e
    exact done (lookup_sim H e (evO_vr hF hA) (evO_vr hF hB)) (by unfold execOp; simp only [ho])
  | call c =>
    simp only [ho, opK] at hk
    cases hc : c.callee with
    | value g => simp only [hc, reduceCtorEq] at hk
    | invoke r n => simp only [hc, reduceCtorEq] at hk
    | builtin b =>
      simp only [hc] at hk
      obtain ⟨cs, hres⟩ := run_builtin (P := P) (a := a) ho hc
      unfold blK at hk
      split at hk
      case h_2 x hl =>
        split at hk
        case h_2 => cases hk
        rename_i t ht
        cases hm : isMapK (lnK P t) with
        | false => rw [hm] at hk; cases hk
        | true =>
        rw [hm] at hk
        simp only [cond_true, OpK.r.injEq] at hk
        subst hk
        simp only [Option.bind_eq_some_iff] at e
        obtain ⟨A, hA, e⟩ := e
        have hargs : c.args.map a.eval = #[a.eval x] := by apply Array.ext'; simp [hl]
        obtain ⟨v, h1, h2⟩ := len_sim (P := P) H (ty := o.type) ht e (evO_vr hF hA)
        refine ⟨v, ?_, h2⟩
        rw [hres, hargs]
        exact bind_ok h1
      all_goals (first | (cases hk; done) | (split at hk <;> cases hk; done) | (split at hk <;> first | (cases hk; done) | (revert hk; generalize isMapK _ = bb; cases bb <;> (intro hk; cases hk))))
  | makeMap t r => cases r <;> simp [ho, opK] at hk
  | _ => simp [ho, opK] at hk

/-- What lays a new block. -/
def ASimN (P : Program) (m : Ren) (s : Sem Next) (o : AObj) (k : Bn → AV) : Prop :=
  ∃ (ob : Obj) (cap : Nat) (vv : Nat → Value), cap = capO o ∧ (∀ w : World, s.run P w = .ok (.value (vv w.heap.size)) (w.alloc ob)) ∧ (∀ B, OR m ⟨B, 0, cap⟩ o ob) ∧ (∀ (m' : Ren) b B, m' b = some ⟨B, 0, cap⟩ → VR m' (k b) (vv B))
theorem ASim.next {s : Sem Value} {o : AObj} {k : Bn → AV} (h : ASim P m s o k) : ASimN P m (do pure (Next.value (← s)) : Sem Next) o k := by
  obtain ⟨ob, cap, vv, h0, h1, h2, h3⟩ := h
  exact ⟨ob, cap, vv, h0, fun w => bind_ok (h1 w), h2, h3⟩
theorem opa_sim {T : Tr AV} {a : Act} (hF : FR m T a.tmps) {o : Oper} {f : Tr AV → Option (AObj × (Bn → AV))} (hk : opK P o.op = .a f) {ob : AObj} {k : Bn → AV} (e : f T = some (ob, k)) :
    ASimN P m (execOp a.eval o) ob k := by
  have done : ∀ {s : Sem Value}, ASim P m s ob k → execOp a.eval o = (do pure (Next.value (← s)) : Sem Next) → ASimN P m (execOp a.eval o) ob k := by
    intro s h1 he
    rw [he]; exact h1.next
  cases ho : o.op with
  | alloc t =>
    simp only [ho, opK, OpK.a.injEq] at hk; subst hk
    simp only [Option.bind_eq_some_iff] at e
    obtain ⟨z, hz, e⟩ := e
    exact done (alloc_sim hz e) (by unfold execOp; simp only [ho])
  | box t x =>
    simp only [ho, opK, OpK.a.injEq] at hk; subst hk
    simp only [Option.bind_eq_some_iff] at e
    obtain ⟨z, hz, e⟩ := e
    exact done (s := Instr.box t (a.eval x)) (box_sim (evO_vr hF hz) e) (by unfold execOp; simp only [ho])
  | buildSlice t len ps =>
    simp only [ho, opK, OpK.a.injEq] at hk; subst hk
    exact done (bs_sim hF e) (by unfold execOp; simp only [ho])
  | makeMap t r =>
    cases r with
    | some r => simp [ho, opK] at hk
    | none =>
      simp only [ho, opK, OpK.a.injEq] at hk; subst hk
      simp only [Option.some.injEq, Prod.mk.injEq] at e
      obtain ⟨rfl, rfl⟩ := e
      exact done (mm_sim t) (by unfold execOp; simp only [ho]; rfl)
  | makeSlice t l c =>
    simp only [ho, opK, OpK.a.injEq] at hk; subst hk
    simp only [Option.bind_eq_some_iff] at e
    obtain ⟨A, hA, B, hB, e⟩ := e
    exact done (ms_sim (evO_vr hF hA) (evO_vr hF hB) e) (by unfold execOp; simp only [ho])
  | binOp op t x y yt => simp only [ho, opK] at hk; cases op <;> simp at hk
  | call c =>
    simp only [ho, opK] at hk
    cases hc : c.callee with
    | value g => simp only [hc, reduceCtorEq] at hk
    | invoke r n => simp only [hc, reduceCtorEq] at hk
    | builtin b =>
      simp only [hc] at hk
      unfold blK at hk
      split at hk
      all_goals (first | (cases hk; done) | (split at hk <;> cases hk; done) | (split at hk <;> first | (cases hk; done) | (revert hk; generalize isMapK _ = bb; cases bb <;> (intro hk; cases hk))))
  | _ => simp [ho, opK] at hk

/-- What an operation hands back. -/
def NxR (m : Ren) (r : AV) (nx : Next) : Prop := (nx = .skip ∧ r = undefA) ∨ ∃ v, nx = .value v ∧ VR m r v

/-- What writes memory. -/
theorem ope_sim (H : HR m h w) {T : Tr AV} {a : Act} (hF : FR m T a.tmps) {o : Oper} {f : AHeap → Tr AV → Option (AHeap × AV)} (hk : opK P o.op = .e f) {r : AHeap × AV} (e : f h T = some r) :
    ∃ m' w' nx, (execOp a.eval o).run P w = .ok nx w' ∧ NxR m' r.2 nx ∧ HR m' r.1 w' ∧ Ext m h w m' r.1 w' := by
  have unit : ∀ {s : Sem Unit} {h' : AHeap}, (∃ w', s.run P w = .ok () w' ∧ HR m h' w' ∧ Ext m h w m h' w') → execOp a.eval o = (do s; pure Next.skip : Sem Next) → r = (h', undefA) →
      ∃ m' w' nx, (execOp a.eval o).run P w = .ok nx w' ∧ NxR m' r.2 nx ∧ HR m' r.1 w' ∧ Ext m h w m' r.1 w' := by
    rintro s h' ⟨w', h1, h2, h3⟩ he rfl
    exact ⟨m, w', .skip, by rw [he]; exact bindU_ok h1, .inl ⟨rfl, rfl⟩, h2, h3⟩
  cases ho : o.op with
  | store t x y =>
    simp only [ho, opK, OpK.e.injEq] at hk; subst hk
    simp only [Option.map_eq_some_iff] at e
    obtain ⟨h', e, hr⟩ := e
    exact unit (sim_store H hF e) (by unfold execOp; simp only [ho]) hr.symm
  | mapUpdate t x k y =>
    simp only [ho, opK, OpK.e.injEq] at hk; subst hk
    simp only [Option.bind_eq_some_iff, Option.map_eq_some_iff] at e
    obtain ⟨A, hA, B, hB, C, hC, h', e, hr⟩ := e
    exact unit (upd_sim H e (evO_vr hF hA) (evO_vr hF hB) (evO_vr hF hC)) (by unfold execOp; simp only [ho]) hr.symm
  | insert t x k y =>
    simp only [ho, opK, OpK.e.injEq] at hk; subst hk
    simp only [Option.bind_eq_some_iff, Option.map_eq_some_iff] at e
    obtain ⟨A, hA, B, hB, C, hC, h', e, hr⟩ := e
    exact unit (upd_sim H e (evO_vr hF hA) (evO_vr hF hB) (evO_vr hF hC)) (by unfold execOp; simp only [ho]) hr.symm
  | binOp op t x y yt => simp only [ho, opK] at hk; cases op <;> simp at hk
  | makeMap t r => cases r <;> simp [ho, opK] at hk
  | call c =>
    simp only [ho, opK] at hk
    cases hc : c.callee with
    | value g => simp only [hc, reduceCtorEq] at hk
    | invoke r n => simp only [hc, reduceCtorEq] at hk
    | builtin b =>
      simp only [hc] at hk
      obtain ⟨cs, hres⟩ := run_builtin (P := P) (a := a) ho hc
      have fin : ∀ {s : Sem Value}, SimV P m h w s r.1 r.2 → builtin b c.argTypes o.type cs (c.args.map a.eval) = (do pure (Next.value (← s)) : Sem Next) →
          ∃ m' w' nx, (execOp a.eval o).run P w = .ok nx w' ∧ NxR m' r.2 nx ∧ HR m' r.1 w' ∧ Ext m h w m' r.1 w' := by
        rintro s ⟨m', w', v, h1, h2, h3, h4⟩ he
        exact ⟨m', w', .value v, by rw [hres, he]; exact bind_ok h1, .inr ⟨v, rfl, h2⟩, h3, h4⟩
      unfold blK at hk
      split at hk
      case h_1 x y hl =>
        split at hk <;> simp only [OpK.e.injEq, reduceCtorEq] at hk
        rename_i t tx ht htx
        subst hk
        simp only [Option.bind_eq_some_iff] at e
        obtain ⟨A, hA, B, hB, e⟩ := e
        have hargs : c.args.map a.eval = #[a.eval x, a.eval y] := by apply Array.ext'; simp [hl]
        exact fin (app_sim (ty := o.type) H ht htx e (evO_vr hF hA) (evO_vr hF hB)) (by rw [hargs]; rfl)
      case h_3 x y hl =>
        split at hk <;> simp only [OpK.e.injEq, reduceCtorEq] at hk
        rename_i t ht
        subst hk
        simp only [Option.bind_eq_some_iff] at e
        obtain ⟨A, hA, B, hB, e⟩ := e
        have hargs : c.args.map a.eval = #[a.eval x, a.eval y] := by apply Array.ext'; simp [hl]
        exact fin (copy_sim (ty := o.type) H ht e (evO_vr hF hA) (evO_vr hF hB)) (by rw [hargs]; rfl)
      case h_4 x hl =>
        split at hk <;> simp only [OpK.e.injEq, reduceCtorEq] at hk
        rename_i t ht
        subst hk
        simp only [Option.bind_eq_some_iff] at e
        obtain ⟨A, hA, e⟩ := e
        have hargs : c.args.map a.eval = #[a.eval x] := by apply Array.ext'; simp [hl]
        exact fin (clear_sim (ty := o.type) H ht e (evO_vr hF hA)) (by rw [hargs]; rfl)
      case h_5 x y hl =>
        split at hk <;> simp only [OpK.e.injEq, reduceCtorEq] at hk
        rename_i t ht
        subst hk
        simp only [Option.bind_eq_some_iff] at e
        obtain ⟨A, hA, B, hB, e⟩ := e
        have hargs : c.args.map a.eval = #[a.eval x, a.eval y] := by apply Array.ext'; simp [hl]
        exact fin (del_sim (ty := o.type) H ht e (evO_vr hF hA) (evO_vr hF hB)) (by rw [hargs]; rfl)
      all_goals (first | (cases hk; done) | (split at hk <;> cases hk; done) | (split at hk <;> first | (cases hk; done) | (revert hk; generalize isMapK _ = bb; cases bb <;> (intro hk; cases hk))))
  | _ => simp [ho, opK] at hk

/-- Whom a call comes to. -/
def CallR (P : Program) (m : Ren) (s : Sem Next) : CallT → List AV → Prop
  | .fn g, A => ∃ args, VRs m A args ∧ ∀ w, s.run P w = (callFunc g args.toArray).run P w
  | .yld b, A => ∃ L args, m b = some L ∧ VRs m A args ∧ ∀ w, s.run P w = (Instr.yield L.blk args.toArray).run P w
theorem callM_sim {name : String} {R : AV} {l : List AV} {r : CallT × List AV} (e : callM P name R l = some r) {v : Value} {c : List Value} (hv : VR m R v) (hc : VRs m l c) : CallR P m (callMethod v name c.toArray) r.1 r.2 := by
  unfold callM at e
  split at e
  · simp only [Option.map_eq_some_iff] at e
    obtain ⟨f, hf, rfl⟩ := e
    obtain ⟨x, rfl, hx⟩ := vr_ifc hv
    refine ⟨x :: c, ⟨hx, hc⟩, fun w => ?_⟩
    obtain ⟨n, hn⟩ : ∃ n, P.types.size + Made.depth = n + 1 := ⟨P.types.size + Made.depth - 1, by simp only [Made.depth]; omega⟩
    have := run_method hf n x w
    simp [callMethod, hn, this]
  · cases e
theorem callV_sim {F : AV} {l : List AV} {r : CallT × List AV} (e : callV P F l = some r) {v : Value} {c : List Value} (hv : VR m F v) (hc : VRs m l c) :
    CallR P m (do let d ← Deferred.ofValue v c.toArray; invoke d.target d.args : Sem Next) r.1 r.2 := by
  unfold callV at e
  split at e
  · simp only [Option.some.injEq] at e; subst e
    obtain ⟨c1, c2, rfl, _, h1, h2⟩ := vr_fn.1 hv
    refine ⟨c1 ++ (c ++ c2), ?_, fun w => ?_⟩
    · rw [appL_eq, appL_eq]; exact All2.append h1 (All2.append hc h2)
    · simp [Deferred.ofValue, invoke, List.append_assoc]
  · split at e
    · rename_i hl
      simp only [Option.map_eq_some_iff] at e
      obtain ⟨f, hf, rfl⟩ := e
      obtain ⟨c1, c2, rfl, _, h1, h2⟩ := vr_fn.1 hv
      rw [appL_eq] at hl
      have h3 := All2.append h1 hc
      rw [hl] at h3
      obtain ⟨u, c3, hcc, hu, h4⟩ := h3.cons_left
      obtain ⟨x, rfl, hx⟩ := vr_ifc hu
      refine ⟨x :: c3, ⟨hx, h4⟩, fun w => ?_⟩
      obtain ⟨n, hn⟩ : ∃ n, P.types.size + Made.depth = n + 1 := ⟨P.types.size + Made.depth - 1, by simp only [Made.depth]; omega⟩
      have := run_method hf n x w
      have hca : c1.toArray ++ c.toArray = (c1 ++ c).toArray := by simp
      rw [hcc] at hca
      simp [Deferred.ofValue, invoke, hca, callMethod, hn, this]
    · cases e
  · simp only [Option.some.injEq] at e; subst e
    obtain ⟨L, hm, rfl⟩ := vr_yld hv
    exact ⟨L, c, hm, hc, fun w => by simp [Deferred.ofValue, invoke]⟩
  · cases e
theorem opc_sim {T : Tr AV} {a : Act} (hF : FR m T a.tmps) {o : Oper} {f : Tr AV → Option (CallT × List AV)} (hk : opK P o.op = .call f) {r : CallT × List AV} (e : f T = some r) :
    CallR P m (execOp a.eval o) r.1 r.2 := by
  cases ho : o.op with
  | binOp op t x y yt => simp only [ho, opK] at hk; cases op <;> simp at hk
  | makeMap t r => cases r <;> simp [ho, opK] at hk
  | call c =>
    simp only [ho, opK] at hk
    have hargs : ∀ {A : List AV}, evOs c.args.toList T = some A → VRs m A (c.args.toList.map a.eval) := fun hA => evOs_vr hF hA
    have hto : c.args.map a.eval = (c.args.toList.map a.eval).toArray := by apply Array.ext'; simp
    cases hc : c.callee with
    | builtin b =>
      simp only [hc] at hk
      unfold blK at hk
      split at hk
      all_goals (first | (cases hk; done) | (split at hk <;> cases hk; done) | (split at hk <;> first | (cases hk; done) | (revert hk; generalize isMapK _ = bb; cases bb <;> (intro hk; cases hk))))
    | value g =>
      simp only [hc, OpK.call.injEq] at hk; subst hk
      simp only [Option.bind_eq_some_iff] at e
      obtain ⟨F, hg, A, hA, e⟩ := e
      have := callV_sim (P := P) e (evO_vr hF hg) (hargs hA)
      rw [execOp_call ho]
      have h2 : (do let d ← resolve a.eval c o.type; invoke d.target d.args : Sem Next) = (do let d ← Deferred.ofValue (a.eval g) (c.args.toList.map a.eval).toArray; invoke d.target d.args : Sem Next) := by
        simp only [resolve, hc, hto]
      rw [h2]
      exact this
    | invoke x name =>
      simp only [hc, OpK.call.injEq] at hk; subst hk
      simp only [Option.bind_eq_some_iff] at e
      obtain ⟨R, hR, A, hA, e⟩ := e
      have := callM_sim (P := P) e (evO_vr hF hR) (hargs hA)
      rw [execOp_call ho]
      have h2 : ∀ w, (do let d ← resolve a.eval c o.type; invoke d.target d.args : Sem Next).run P w = (callMethod (a.eval x) name (c.args.toList.map a.eval).toArray).run P w := by
        intro w
        simp only [resolve, hc, hto, Sem.run_bind, Sem.run_pure, Result.andThen_ok, invoke]
        simp
        rw [List.take_of_length_le (by simp)]
      unfold CallR at this ⊢
      cases hr : r.1 with
      | fn g => rw [hr] at this; obtain ⟨args, p1, p2⟩ := this; exact ⟨args, p1, fun w => (h2 w).trans (p2 w)⟩
      | yld b => rw [hr] at this; obtain ⟨L, args, p0, p1, p2⟩ := this; exact ⟨L, args, p0, p1, fun w => (h2 w).trans (p2 w)⟩
  | _ => simp [ho, opK] at hk
end
end Go.Ev
