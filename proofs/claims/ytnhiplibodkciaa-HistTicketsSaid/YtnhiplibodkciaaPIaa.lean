/- Loops by what a round comes to: what is said of a loop, so that code around it can be gone through at once. -/
import Derived.Test.YtnhiplibodkciaaPIx
namespace Go.PI
open Go.RowKit

variable {P : Program} {c : Ctx} {g : Cfg} {s st : St} {a : Act} {w : World}

/-- A state as it is told at a loop's head, and behind the loop. -/
def norm (base : Nat) (h : Shape) (s : St) : St := ⟨(s.shape base h).t, (s.shape base h).m, []⟩

theorem Ok.norm (hg : g.m0 = []) (hok : Ok g s a w) (base : Nat) (h : Shape) : Ok g (Go.PI.norm base h s) a w := by
  obtain ⟨μ, I, h⟩ := shape_ok hok base h
  exact ⟨μ, I, { toMRel := h.toMRel, tm := h.tm, len := h.len, dfr := h.dfr, kept := fun n hn _ => absurd (by rw [hg]; rfl) hn }⟩

/-- A round, and how its end is told. -/
def round (c : Ctx) (p : Par) (h : Exit → Shape) (a : Code) (s : St) : Br (Exit × St) := (ev c p a s).bind fun r => .ret (r.1, norm c.base (h r.1) r.2)

theorem Tri.norm {code : Code} {Q : Exit → St → Prop} (hg : g.m0 = []) {base : Nat} {h : Exit → Shape} (ht : Tri P g code s fun e st => Q e (Go.PI.norm base (h e) st)) : Tri P g code s Q := by
  intro a w hok
  refine wp_mono (ht a w hok) ?_
  rintro e a' w' ⟨st, h1, h2⟩
  exact ⟨_, h1, h2.norm hg base (h e)⟩

/-- What is said of a loop: the state at its head is parsed; what it comes to. -/
def loopO {X : Type} (base : Nat) (h : Shape) (parse : St → Option X) (F : X → Br (Exit × St)) : St → Br (Exit × St) := fun s => match parse (norm base h s) with
  | some x => F x
  | none => .no

theorem LoopOk.mk (he : EnvFull P c) (hg : g.m0 = []) (p : Par) {b : Code} (hlo : LoOk P g p b) (h : Exit → Shape) {X : Type} (S : X → St) (m : X → Nat) {parse : St → Option X} (hparse : ∀ s x, parse s = some x → s = S x) (F : X → Br (Exit × St))
    (hr : ∀ x r, (F x).run = some r → (∃ x', (round c p h b (S x)).run = some (.normal, S x') ∧ m x' < m x ∧ (F x').run = some r) ∨ (r.1 ≠ .normal ∧ (round c p h b (S x)).run = some r)) : LoopOk P g (loopO c.base (h .normal) parse F) b := by
  intro s y st hs
  unfold loopO at hs
  split at hs
  · rename_i x hx
    refine Tri.weaken (fun a w hok => hok.norm hg c.base (h .normal)) ?_
    refine Tri.loop (fun n s => ∃ x, s = S x ∧ m x = n ∧ (F x).run = some (y, st)) (n := m x) ⟨x, hparse _ _ hx, rfl, hs⟩ ?_
    rintro n s ⟨x, rfl, rfl, hF⟩
    refine Tri.norm hg (base := c.base) (h := h) ?_
    rcases hr x _ hF with ⟨x', h1, h2, h3⟩ | ⟨h1, h2⟩
    · obtain ⟨⟨e, s1⟩, k1, k2⟩ := Br.bind_some h1
      obtain ⟨rfl, k3⟩ := Prod.mk.inj (Option.some.inj k2)
      refine (Tri.ev_ok he p b hlo k1).mono ?_
      rintro e s' ⟨rfl, rfl⟩
      exact ⟨_, h2, x', k3, rfl, h3⟩
    · obtain ⟨⟨e, s1⟩, k1, k2⟩ := Br.bind_some h2
      obtain ⟨k0, k3⟩ := Prod.mk.inj (Option.some.inj k2)
      refine (Tri.ev_ok he p b hlo k1).mono ?_
      rintro e' s' ⟨rfl, rfl⟩
      simp only at k0 k3 h1
      subst k0 k3
      cases e' with
      | normal => exact absurd rfl h1
      | _ => exact ⟨rfl, rfl⟩
  · cases hs

/-- Whether something is so, as a truth. -/
noncomputable def tru (p : Prop) : Bool := @decide p (Classical.propDecidable p)
theorem tru_iff {p : Prop} : tru p = true ↔ p := by
  unfold tru
  exact @decide_eq_true_iff p (Classical.propDecidable p)

/-! ### states by their holes -/

inductive Hole
  | slot (i : Nat) (b : Bool) (τ : Ty)
  | cell (n j : Nat) (b : Bool) (τ : Ty)
  | tv (n : Nat) (b : Bool) (τ : Ty)
  | ar (n : Nat) (b : Bool) (e : Nat) (τ : Ty)

@[reducible] def Hole.T : Hole → Type
  | .slot _ _ τ => τ.T
  | .cell _ _ _ τ => τ.T
  | .tv _ _ τ => τ.T
  | .ar _ _ _ τ => List τ.T

@[reducible] def Holes : List Hole → Type
  | [] => Unit
  | h :: r => h.T × Holes r

def C.exact (b : Bool) (τ : Ty) : C → Option τ.T
  | .ty b' σ x => if h : σ = τ then (bif b == b' then some (h ▸ x) else none) else none
  | _ => none

def Hole.read : (h : Hole) → St → Option h.T
  | .slot i b τ, s => match s.t.getD i (.c .bad) with
    | .c x => x.exact b τ
    | _ => none
  | .cell n j b τ, s => match look n s.m with
    | some (.dv l) => (l.getD j .bad).exact b τ
    | _ => none
  | .tv n b τ, s => match look n s.m with
    | some (.tv b' σ x) => if h : σ = τ then (bif b == b' then some (h ▸ x) else none) else none
    | _ => none
  | .ar n b e τ, s => match look n s.m with
    | some (.ar b' e' σ x) => if h : σ = τ then (bif (b == b') && Nat.beq e e' then some (h ▸ x) else none) else none
    | _ => none

def Hole.put : (h : Hole) → h.T → St → St
  | .slot i b τ, x, s => ⟨s.t.set i (.c (.ty b τ x)), s.m, s.k⟩
  | .cell n j b τ, x, s => match look n s.m with
    | some (.dv l) => ⟨s.t, setm n (.dv (l.set j (.ty b τ x))) s.m, s.k⟩
    | _ => s
  | .tv n b τ, x, s => ⟨s.t, setm n (.tv b τ x) s.m, s.k⟩
  | .ar n b e τ, x, s => ⟨s.t, setm n (.ar b e τ x) s.m, s.k⟩

def Hole.blank : Hole → St → St
  | .slot i _ _, s => ⟨s.t.set i (.c .bad), s.m, s.k⟩
  | .cell n j _ _, s => match look n s.m with
    | some (.dv l) => ⟨s.t, setm n (.dv (l.set j .bad)) s.m, s.k⟩
    | _ => s
  | .tv n _ _, s => ⟨s.t, setm n (.dv []) s.m, s.k⟩
  | .ar n _ _ _, s => ⟨s.t, setm n (.dv []) s.m, s.k⟩

theorem C.exact_ok {b : Bool} {τ : Ty} {c : C} {x : τ.T} (h : c.exact b τ = some x) : c = .ty b τ x := by
  unfold C.exact at h
  split at h
  · rename_i b' σ y
    split at h
    · rename_i e
      subst e
      cases hb : b == b' with
      | false => rw [hb] at h; cases h
      | true =>
        rw [hb] at h
        obtain rfl := Option.some.inj h
        rw [beq_iff_eq.1 hb]
    · cases h
  · cases h

theorem setm_setm (n : Nat) (b b' : MB) : ∀ m : Mem, setm n b (setm n b' m) = setm n b m
  | [] => by simp [setm, beq_same]
  | (k, x) :: r => by
    simp only [setm]
    cases hk : Nat.beq k n with
    | true => simp [setm, hk]
    | false => simp only [cond_false, setm, hk]; rw [setm_setm n b b' r]
theorem setm_look {n : Nat} {b : MB} : ∀ {m : Mem}, look n m = some b → setm n b m = m
  | [], h => by cases h
  | (k, x) :: r, h => by
    simp only [look] at h
    simp only [setm]
    cases hk : Nat.beq k n with
    | true => rw [hk] at h; obtain rfl := Option.some.inj h; rfl
    | false => rw [hk] at h; simp only [cond_false] at h ⊢; rw [setm_look h]

theorem Hole.back {h : Hole} {s : St} {x : h.T} (hr : h.read s = some x) : h.put x (h.blank s) = s := by
  cases h with
  | slot i b τ =>
    simp only [Hole.read] at hr
    split at hr
    · rename_i y hy
      have e := C.exact_ok hr
      subst e
      have hlt : i < s.t.length := by
        by_cases hlt : i < s.t.length
        · exact hlt
        · rw [List.getD, List.getElem?_eq_none (Nat.not_lt.1 hlt)] at hy
          cases hy
      show (⟨(s.t.set i (.c .bad)).set i (.c (.ty b τ x)), s.m, s.k⟩ : St) = s
      rw [List.set_set]
      have : s.t.set i (.c (.ty b τ x)) = s.t := by
        rw [List.getD, List.getElem?_eq_getElem hlt] at hy
        simp only [Option.getD_some] at hy
        rw [← hy, List.set_getElem_self]
      rw [this]
    · cases hr
  | cell n j b τ =>
    simp only [Hole.read] at hr
    split at hr
    · rename_i l hl
      have e := C.exact_ok hr
      have hlt : j < l.length := by
        by_cases hlt : j < l.length
        · exact hlt
        · rw [List.getD, List.getElem?_eq_none (Nat.not_lt.1 hlt)] at e
          cases e
      simp only [Hole.blank, hl, Hole.put, look_setm_same]
      rw [setm_setm, List.set_set]
      have : l.set j (.ty b τ x) = l := by
        rw [List.getD, List.getElem?_eq_getElem hlt] at e
        simp only [Option.getD_some] at e
        rw [← e, List.set_getElem_self]
      rw [this, setm_look hl]
    · cases hr
  | tv n b τ =>
    simp only [Hole.read] at hr
    split at hr
    · rename_i b' σ y hl
      split at hr
      · rename_i e
        subst e
        cases hb : b == b' with
        | false => rw [hb] at hr; cases hr
        | true =>
          rw [hb] at hr
          obtain rfl := Option.some.inj hr
          rw [beq_iff_eq.1 hb]
          simp only [Hole.blank, Hole.put]
          rw [setm_setm, setm_look hl]
      · cases hr
    · cases hr
  | ar n b e τ =>
    simp only [Hole.read] at hr
    split at hr
    · rename_i b' e' σ y hl
      split at hr
      · rename_i e1
        subst e1
        cases hb : (b == b') && Nat.beq e e' with
        | false => rw [hb] at hr; cases hr
        | true =>
          rw [hb] at hr
          obtain rfl := Option.some.inj hr
          rw [Bool.and_eq_true] at hb
          rw [beq_iff_eq.1 hb.1, Nat.eq_of_beq_eq_true hb.2]
          simp only [Hole.blank, Hole.put]
          rw [setm_setm, setm_look hl]
      · cases hr
    · cases hr

def fillH : (l : List Hole) → Holes l → St → St
  | [], _, s => s
  | h :: r, x, s => h.put x.1 (fillH r x.2 s)
def readH : (l : List Hole) → St → Option (Holes l × St)
  | [], s => some ((), s)
  | h :: r, s => match h.read s with
    | some x => match readH r (h.blank s) with
      | some (xs, s) => some ((x, xs), s)
      | none => none
    | none => none

theorem readH_ok : ∀ {l : List Hole} {s s' : St} {xs : Holes l}, readH l s = some (xs, s') → s = fillH l xs s'
  | [], s, s', xs, h => by
    obtain ⟨_, rfl⟩ := Prod.mk.inj (Option.some.inj h)
    rfl
  | h :: r, s, s', xs, hr => by
    simp only [readH] at hr
    split at hr
    · rename_i x hx
      split at hr
      · rename_i ys s1 hy
        obtain ⟨rfl, rfl⟩ := Prod.mk.inj (Option.some.inj hr)
        simp only [fillH]
        rw [← readH_ok hy, Hole.back hx]
      · cases hr
    · cases hr

/-! ### what is left without its holes is compared -/
def C.same : C → C → Bool
  | .tt, .tt => true
  | .ff, .ff => true
  | .ref n i o, .ref n' i' o' => Nat.beq n n' && Nat.beq i i' && Nat.beq o o'
  | .mfull n, .mfull n' => Nat.beq n n'
  | .nils, .nils => true
  | .nilp, .nilp => true
  | .bad, .bad => true
  | _, _ => false
def sameL : List C → List C → Bool
  | [], [] => true
  | x :: r, y :: l => x.same y && sameL r l
  | _, _ => false
def D.same : D → D → Bool
  | .c x, .c y => x.same y
  | .agg x, .agg y => sameL x y
  | .tup x, .tup y => sameL x y
  | .fn f x, .fn f' y => Nat.beq f f' && sameL x y
  | _, _ => false
def sameT : List D → List D → Bool
  | [], [] => true
  | x :: r, y :: l => x.same y && sameT r l
  | _, _ => false
def sameM : Mem → Mem → Bool
  | [], [] => true
  | (n, .dv x) :: r, (n', .dv y) :: l => Nat.beq n n' && sameL x y && sameM r l
  | _, _ => false

theorem C.same_ok {x y : C} (h : x.same y = true) : x = y := by
  cases x <;> cases y <;> simp only [C.same, Bool.and_eq_true] at h <;> first | rfl | (cases h; done) | skip
  · rw [Nat.eq_of_beq_eq_true h.1.1, Nat.eq_of_beq_eq_true h.1.2, Nat.eq_of_beq_eq_true h.2]
  · rw [Nat.eq_of_beq_eq_true h]
theorem sameL_ok : ∀ {x y : List C}, sameL x y = true → x = y
  | [], [], _ => rfl
  | x :: r, y :: l, h => by
    simp only [sameL, Bool.and_eq_true] at h
    rw [C.same_ok h.1, sameL_ok h.2]
  | [], _ :: _, h => by cases h
  | _ :: _, [], h => by cases h
theorem D.same_ok {x y : D} (h : x.same y = true) : x = y := by
  cases x <;> cases y <;> simp only [D.same, Bool.and_eq_true] at h <;> first | (cases h; done) | skip
  · rw [C.same_ok h]
  · rw [sameL_ok h]
  · rw [sameL_ok h]
  · rw [Nat.eq_of_beq_eq_true h.1, sameL_ok h.2]
theorem sameT_ok : ∀ {x y : List D}, sameT x y = true → x = y
  | [], [], _ => rfl
  | x :: r, y :: l, h => by
    simp only [sameT, Bool.and_eq_true] at h
    rw [D.same_ok h.1, sameT_ok h.2]
  | [], _ :: _, h => by cases h
  | _ :: _, [], h => by cases h
theorem sameM_ok : ∀ {x y : Mem}, sameM x y = true → x = y
  | [], [], _ => rfl
  | (n, x) :: r, (n', y) :: l, h => by
    cases x <;> cases y <;> simp only [sameM, Bool.and_eq_true] at h <;> first | cases h; done | skip
    rw [Nat.eq_of_beq_eq_true h.1.1, sameL_ok h.1.2, sameM_ok h.2]
  | [], _ :: _, h => by cases h
  | (n, x) :: _, [], h => by cases x <;> cases h

/-- Slots, with what is known of some. -/
def slotsT (l : List (Nat × D)) : Nat → Nat → List D
  | _, 0 => []
  | i, n + 1 => (match l.find? fun p => Nat.beq p.1 i with
    | some (_, d) => d
    | none => .c .bad) :: slotsT l (i + 1) n

/-- A state's frame: how many slots; those that are known; memory. -/
structure Skel where
  n : Nat
  t : List (Nat × D)
  m : List (Nat × List C)
def Skel.bare (f : Skel) : St := ⟨slotsT f.t 0 f.n, f.m.map fun p => (p.1, .dv p.2), []⟩

/-- A state by a frame and its holes. -/
def Skel.fill (f : Skel) (l : List Hole) (x : Holes l) : St := fillH l x f.bare
def Skel.parse (f : Skel) (l : List Hole) (s : St) : Option (Holes l) := match readH l s with
  | some (x, s') => bif sameT s'.t f.bare.t && sameM s'.m f.bare.m && s'.k.isEmpty then some x else none
  | none => none
theorem Skel.parse_ok {f : Skel} {l : List Hole} {s : St} {x : Holes l} (h : f.parse l s = some x) : s = f.fill l x := by
  unfold Skel.parse at h
  split at h
  · rename_i y s' hy
    cases hb : sameT s'.t f.bare.t && sameM s'.m f.bare.m && s'.k.isEmpty with
    | false => rw [hb] at h; cases h
    | true =>
      rw [hb] at h
      obtain rfl := Option.some.inj h
      simp only [Bool.and_eq_true, List.isEmpty_iff] at hb
      rw [readH_ok hy]
      unfold Skel.fill
      congr 1
      obtain ⟨t, m, k⟩ := s'
      simp only at hb
      rw [sameT_ok hb.1.1, sameM_ok hb.1.2, hb.2]
      rfl
  · cases h

end Go.PI
