/- Structs that may be compared: '==' of the model is '==' of the data. -/
import Derived.Test.YtnhiplibodkciaaPIx
import Derived.DeepKeys
namespace Go.PI
open Go.RowKit

variable {P : Program} {I : Nat → Prop} {w : World}

/-- The data, piece by piece. -/
def flatT : (τ : Ty) → τ.T → List Lit
  | .bool, b => [.bool b]
  | .int k, n => [.int k n]
  | .str, s => [.string s.data.toList]
  | .pair a b, x => flatT a x.1 ++ flatT b x.2
  | .st a, x => flatT a x
  | .arr _ a, xs => xs.flatMap (flatT a)
  | _, _ => []
def litN : Ty → Nat
  | .bool => 1
  | .int _ => 1
  | .str => 1
  | .pair a b => litN a + litN b
  | .st a => litN a
  | .arr n a => n * litN a
  | _ => 0

/-- The model's type is as it is told. -/
def fieldsK (P : Program) (kl : Nat → Ty → Bool) : List Field → Nat → Ty → Bool
  | [], _, _ => false
  | [f], o, a => (match a with | .pair _ _ => false | _ => true) && Nat.beq f.offset o && kl f.type a && Nat.beq (P.cellsOf f.type) a.sz
  | f :: r, o, .pair a b => Nat.beq f.offset o && kl f.type a && Nat.beq (P.cellsOf f.type) a.sz && fieldsK P kl r (o + a.sz) b
  | _, _, _ => false
def klB (P : Program) : Nat → Nat → Ty → Bool
  | 0, _, _ => false
  | D + 1, t, τ => match P.underlying t, τ with
    | some .bool, .bool => true
    | some (.int q), .int k => decide (q = k)
    | some .string, .str => true
    | some (.array n e), .arr n' a => Nat.beq n n' && klB P D e a && Nat.beq (P.cellsOf e) a.sz && Nat.beq (P.cellsOf t) (n * a.sz)
    | some (.struct fs), .st a => (fs.all (·.name != "_")) && Nat.beq (P.cellsOf t) a.sz && fieldsK P (klB P D) fs.toList 0 a
    | _, _ => false

theorem flat_len {τ : Ty} : ∀ {x : τ.T} {cs : List Value}, K I w τ x cs → (flatT τ x).length = litN τ := by
  induction τ with
  | pair a b iha ihb =>
    rintro x cs ⟨c1, c2, rfl, h1, h2⟩
    show (flatT a x.1 ++ flatT b x.2).length = _
    rw [List.length_append, iha h1, ihb h2]; rfl
  | st a ih => intro x cs h; exact ih (x := x) h
  | arr n a ih =>
    rintro xs cs ⟨hn, h1, h2⟩
    show (List.flatMap (flatT a) xs).length = n * litN a
    rw [← hn]
    have : ∀ l : List a.T, (∀ x ∈ l, (flatT a x).length = litN a) → (l.flatMap (flatT a)).length = l.length * litN a := by
      intro l
      induction l with
      | nil => intro _; simp
      | cons x r ih2 =>
        intro hl
        rw [List.flatMap_cons, List.length_append, hl x List.mem_cons_self, ih2 fun y hy => hl y (List.mem_cons_of_mem _ hy), List.length_cons, Nat.succ_mul, Nat.add_comm]
    refine this xs fun x hx => ?_
    obtain ⟨i, hi⟩ := List.getElem?_of_mem hx
    exact ih (h2 i x hi)
  | _ => intro x cs h; rfl

theorem fields_lits {D : Nat} {kl : Nat → Ty → Bool} (hkl : ∀ t τ (x : τ.T) cs, kl t τ = true → K I w τ x cs → P.keyLits D t cs = some (flatT τ x)) : ∀ {fs : List Field} {o : Nat} {τ : Ty} {x : τ.T} {cs : List Value} (all : List Value), fieldsK P kl fs o τ = true → K I w τ x cs → all.drop o = cs →
    (fs.mapM fun f => P.keyLits D f.type ((all.drop f.offset).take (P.cellsOf f.type))).map List.flatten = some (flatT τ x)
  | [], _, _, _, _, _, h, _, _ => by cases h
  | [f], o, τ, x, cs, all, h, hk, e => by
    have h' : Nat.beq f.offset o = true ∧ kl f.type τ = true ∧ Nat.beq (P.cellsOf f.type) τ.sz = true := by
      unfold fieldsK at h
      simp only [Bool.and_eq_true] at h
      exact ⟨h.1.1.2, h.1.2, h.2⟩
    obtain ⟨h1, h2, h3⟩ := h'
    have hl := K.length hk
    rw [List.mapM_cons, List.mapM_nil, Nat.eq_of_beq_eq_true h1, Nat.eq_of_beq_eq_true h3, e, ← hl, List.take_length, hkl _ _ _ _ h2 hk]
    simp
  | f :: f2 :: r, o, .pair a b, x, cs, all, h, ⟨c1, c2, hc, hk1, hk2⟩, e => by
    simp only [fieldsK, Bool.and_eq_true] at h
    obtain ⟨⟨⟨h1, h2⟩, h3⟩, h4⟩ := h
    have hl := K.length hk1
    have e2 : all.drop (o + a.sz) = c2 := by rw [← List.drop_drop, e, hc, ← hl, List.drop_left]
    have ih := fields_lits hkl (fs := f2 :: r) all h4 hk2 e2
    rw [List.mapM_cons, Nat.eq_of_beq_eq_true h1, Nat.eq_of_beq_eq_true h3, e, hc, ← hl, List.take_left, hkl _ _ _ _ h2 hk1]
    obtain ⟨L, hL, hf⟩ := Option.map_eq_some_iff.1 ih
    rw [hL]
    show some (flatT a x.1 ++ L.flatten) = _
    rw [hf]; rfl
  | f :: f2 :: r, o, .unit, _, _, _, h, _, _ => by simp [fieldsK] at h
  | f :: f2 :: r, o, .bool, _, _, _, h, _, _ => by simp [fieldsK] at h
  | f :: f2 :: r, o, .int _, _, _, _, h, _, _ => by simp [fieldsK] at h
  | f :: f2 :: r, o, .str, _, _, _, h, _, _ => by simp [fieldsK] at h
  | f :: f2 :: r, o, .st _, _, _, _, h, _, _ => by simp [fieldsK] at h
  | f :: f2 :: r, o, .arr _ _, _, _, _, h, _, _ => by simp [fieldsK] at h
  | f :: f2 :: r, o, .sl _, _, _, _, h, _, _ => by simp [fieldsK] at h
  | f :: f2 :: r, o, .ptr _, _, _, _, h, _, _ => by simp [fieldsK] at h
  | f :: f2 :: r, o, .chain _, _, _, _, h, _, _ => by simp [fieldsK] at h

theorem mapM_at {α β : Type} (g : α → β) : ∀ (xs : List α) (f : Nat → Option β), (∀ i x, xs[i]? = some x → f i = some (g x)) → (List.range xs.length).mapM f = some (xs.map g)
  | [], f, _ => rfl
  | x :: xs, f, h => by
    rw [List.length_cons, List.range_succ_eq_map, List.mapM_cons, h 0 x rfl]
    have ih := mapM_at g xs (fun i => f (i + 1)) fun i y hy => h (i + 1) y (by simpa using hy)
    have e : ((List.range xs.length).map Nat.succ).mapM f = (List.range xs.length).mapM fun i => f (i + 1) := by
      generalize List.range xs.length = l
      induction l with
      | nil => rfl
      | cons a l ih => rw [List.map_cons, List.mapM_cons, List.mapM_cons, ih]
    rw [e, ih]
    rfl

theorem lits_ok : ∀ (D t : Nat) (τ : Ty) (x : τ.T) (cs : List Value), klB P D t τ = true → K I w τ x cs → P.keyLits D t cs = some (flatT τ x)
  | 0, _, _, _, _, h, _ => by cases h
  | D + 1, t, τ, x, cs, h, hk => by
    unfold klB at h
    unfold Program.keyLits
    cases hu : P.underlying t with
    | none => rw [hu] at h; cases τ <;> cases h
    | some k =>
      rw [hu] at h
      cases k <;> cases τ <;> first | (cases h; done) | skip
      · rw [show cs = [_] from hk]; rfl
      · obtain ⟨rfl, hk2⟩ := hk
        obtain rfl := of_decide_eq_true h
        simp only
        rw [if_pos ⟨trivial, by simpa [Lit.wf, InK] using hk2⟩]; rfl
      · obtain ⟨rfl, hk2⟩ := hk
        simp only
        rw [if_pos (by simpa [maxLen] using hk2)]; rfl
      · rename_i n e n' a
        simp only [Bool.and_eq_true] at h
        obtain ⟨⟨⟨h1, h2⟩, h3⟩, h4⟩ := h
        obtain rfl := Nat.eq_of_beq_eq_true h1
        obtain ⟨hn, hl, hr⟩ := hk
        have hl' : cs.length = P.cellsOf t := by rw [hl, hn, Nat.eq_of_beq_eq_true h4]
        simp only
        rw [if_pos hl', Nat.eq_of_beq_eq_true h3]
        have := mapM_at (flatT a) x (fun i => P.keyLits D e ((cs.drop (i * a.sz)).take a.sz)) fun i y hy => lits_ok D e a y _ h2 (hr i y hy)
        rw [← hn, this]
        show some (List.flatten (List.map (flatT a) x)) = some (List.flatMap (flatT a) x)
        rw [List.flatMap_def]
      · rename_i fs a
        simp only [Bool.and_eq_true] at h
        obtain ⟨⟨h1, h2⟩, h3⟩ := h
        have hl : cs.length = P.cellsOf t := by rw [K.length hk, Nat.eq_of_beq_eq_true h2]; rfl
        simp only
        rw [if_pos ⟨hl, h1⟩]
        exact fields_lits (kl := klB P D) (fun t τ x cs h k => lits_ok D t τ x cs h k) (fs := fs.toList) cs h3 (τ := a) (x := x) hk (by simp)

theorem beq_ok : ∀ {τ : Ty} {x y : τ.T} {cs ds : List Value} {r : Bool}, K I w τ x cs → K I w τ y ds → beqT τ x y = some r → (r = true ↔ flatT τ x = flatT τ y) := by
  intro τ
  induction τ with
  | unit => intro x y cs ds r _ _ h; obtain rfl := Option.some.inj h; simp [flatT]
  | bool => intro x y cs ds r _ _ h; obtain rfl := Option.some.inj h; simp [flatT]
  | int k => intro x y cs ds r _ _ h; obtain rfl := Option.some.inj h; simp [flatT]
  | str => intro x y cs ds r _ _ h; obtain rfl := Option.some.inj h; simp [flatT, ByteArray.toList_eq]
  | pair a b iha ihb =>
    rintro x y cs ds r ⟨c1, c2, rfl, h1, h2⟩ ⟨d1, d2, rfl, h3, h4⟩ h
    simp only [beqT] at h
    split at h
    · rename_i p q hp hq
      obtain rfl := Option.some.inj h
      have ea := iha h1 h3 hp
      have eb := ihb h2 h4 hq
      show _ ↔ flatT a x.1 ++ flatT b x.2 = flatT a y.1 ++ flatT b y.2
      rw [Bool.and_eq_true, ea, eb]
      constructor
      · rintro ⟨e1, e2⟩; rw [e1, e2]
      · intro e
        exact List.append_inj e (by rw [flat_len h1, flat_len h3])
    · cases h
  | st a ih => intro x y cs ds r h1 h2 h; exact ih (x := x) (y := y) h1 h2 h
  | arr n a ih =>
    intro x y cs ds r h1 h2 h
    cases a with
    | int k =>
      simp only [beqT, Option.some.injEq] at h
      subst h
      rw [decide_eq_true_eq]
      show x = y ↔ List.flatMap (fun m => [Lit.int k m]) x = List.flatMap (fun m => [Lit.int k m]) y
      have e : ∀ l : List Int, List.flatMap (fun m => [Lit.int k m]) l = l.map (Lit.int k) := by
        intro l
        induction l with
        | nil => rfl
        | cons a l ih => rw [List.flatMap_cons, ih]; rfl
      rw [e, e]
      refine ⟨fun h => by rw [h], fun h => ?_⟩
      have := congrArg (List.map fun l : Lit => match l with | .int _ n => n | _ => 0) h
      simpa [List.map_map, Function.comp_def] using this
    | _ => simp [beqT] at h
  | _ => intro x y cs ds r _ _ h; simp [beqT] at h

/-- Struct types that may be compared. -/
def eqB (P : Program) (t : Nat) (τ : Ty) : Bool := klB P 50 t τ && P.keyTypeAt 50 t && (match P.underlying t with | some (.struct _) => true | _ => false) && Nat.beq (P.cellsOf t) τ.sz && !(P.eqGuardType P.depth t)

theorem eqB_ok {t : Nat} {τ : Ty} (h : eqB P t τ = true) : EqHyp P t τ := by
  simp only [eqB, Bool.and_eq_true, Bool.not_eq_true'] at h
  obtain ⟨⟨⟨⟨h1, h2⟩, h3⟩, h4⟩, h5⟩ := h
  intro J J' w x y cs ds r hx hy hr
  refine ⟨?_, h5⟩
  have hx' : K (fun b => J b ∨ J' b) w τ x cs := hx.mono (fun b k => .inl k) (stays_refl _ _)
  have hy' : K (fun b => J b ∨ J' b) w τ y ds := hy.mono (fun b k => .inr k) (stays_refl _ _)
  have hiff := beq_ok hx' hy' hr
  have formed : ∀ {z : τ.T} {cs : List Value}, K (fun b => J b ∨ J' b) w τ z cs → (Value.agg cs.toArray).formed P t = true := by
    intro z cs hz
    have hl := K.length hz
    unfold Value.formed
    cases hu : P.underlying t with
    | none => rw [hu] at h3; cases h3
    | some k =>
      rw [hu] at h3
      cases k <;> first | (cases h3; done) | skip
      simp [hl, Nat.eq_of_beq_eq_true h4]
  obtain ⟨r', hr', hiff'⟩ := run_equalIn_deep (9950) 50 t h2 w 50 50 (.agg cs.toArray) (.agg ds.toArray) (flatT τ x) (flatT τ y) (formed hx') (formed hy') (by simpa [Value.cells] using lits_ok 50 t τ x cs h1 hx') (by simpa [Value.cells] using lits_ok 50 t τ y ds h1 hy')
  have : r' = r := by rw [Bool.eq_iff_iff, hiff', hiff]
  rw [← this]
  exact hr'

/-- Types that may be compared, by a list. -/
def eqsB (P : Program) (tb : Nat → Option TI) (E : List Nat) : Bool := E.all fun t => match tb t with
  | some ti => eqB P t ti.ty
  | none => true

def withE (c : Ctx) (E : List Nat) : Ctx := { c with eqs := fun t => memb t E }
theorem env_E {c : Ctx} {E : List Nat} (h : EnvFull P c) (hE : eqsB P c.tb E = true) : EnvFull P (withE c E) :=
  { tb := h.tb, mixed := h.mixed, orc := h.orc, eqs := fun t ti ht hti => by
      have hm : t ∈ E := memb_iff.1 ht
      have := List.all_eq_true.1 hE t hm
      have hti : c.tb t = some ti := hti
      rw [hti] at this
      exact eqB_ok this }

/-- A callee more. -/
def addO (c : Ctx) (f : Nat) (o : Orc) : Ctx := { c with orc := fun n => bif Nat.beq f n then some o else c.orc n }
theorem env_add {c : Ctx} {f : Nat} {o : Orc} (h : EnvFull P c) (ho : CallOk P f o) : EnvFull P (addO c f o) :=
  { tb := h.tb, mixed := h.mixed, eqs := h.eqs, orc := fun k o' e => by
      have e : (bif Nat.beq f k then some o else c.orc k) = some o' := e
      cases hk : Nat.beq f k with
      | true =>
        rw [hk] at e
        obtain rfl := Option.some.inj e
        rw [← Nat.eq_of_beq_eq_true hk]
        exact ho
      | false => rw [hk] at e; exact h.orc k o' e }
theorem env_base {c : Ctx} (h : EnvFull P c) (b : Nat) : EnvFull P { c with base := b } := { tb := h.tb, mixed := h.mixed, eqs := h.eqs, orc := h.orc }

end Go.PI
