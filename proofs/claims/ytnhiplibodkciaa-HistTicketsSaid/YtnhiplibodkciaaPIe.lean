/- How the pure interpreter's state stands to the model's: the relation, and what keeps it. -/
import Derived.Test.YtnhiplibodkciaaPId
import Derived.Laws.AppendOwn
namespace Go.PI
open Go.RowKit

abbrev Mx : Nat := 9223372036854775807

/-- A value reads as typed data. -/
def VK (I : Nat → Prop) (w : World) (τ : Ty) (x : τ.T) (v : Value) : Prop :=
  (τ.isAgg = true → ∃ cs : List Value, v = .agg cs.toArray ∧ K I w τ x cs) ∧ (τ.isAgg = false → K I w τ x [v])

theorem VK.mono {I I' : Nat → Prop} {w w' : World} (hI : ∀ b, I b → I' b) (hs : Stays I w w') {τ : Ty} {x : τ.T} {v : Value} (h : VK I w τ x v) : VK I' w' τ x v :=
  ⟨fun e => let ⟨cs, h1, h2⟩ := h.1 e; ⟨cs, h1, h2.mono hI hs⟩, fun e => (h.2 e).mono hI hs⟩

theorem K.noP {J J' : Nat → Prop} {w w' : World} : ∀ {τ : Ty} {x : τ.T} {cs : List Value}, τ.hasP = false → K J w τ x cs → K J' w' τ x cs
  | .unit, _, _, _, h => h
  | .bool, _, _, _, h => h
  | .int _, _, _, _, h => h
  | .str, _, _, _, h => h
  | .pair a b, _, _, e, ⟨c1, c2, h0, h1, h2⟩ => by
    simp only [Ty.hasP, Bool.or_eq_false_iff] at e
    exact ⟨c1, c2, h0, K.noP e.1 h1, K.noP e.2 h2⟩
  | .st a, _, _, e, h => K.noP (τ := a) e h
  | .arr n a, _, _, e, ⟨h1, h2⟩ => ⟨h1, h2.imp fun _ _ h => K.noP (τ := a) e h⟩
  | .sl a, _, _, e, _ => by cases e
  | .ptr a, _, _, e, _ => by cases e
  | .chain a, _, _, e, _ => by cases e

theorem VK.noP {J J' : Nat → Prop} {w w' : World} {τ : Ty} {x : τ.T} {v : Value} (e : τ.hasP = false) (h : VK J w τ x v) : VK J' w' τ x v :=
  ⟨fun h1 => let ⟨cs, h2, h3⟩ := h.1 h1; ⟨cs, h2, h3.noP e⟩, fun h1 => (h.2 h1).noP e⟩

/-- Names: the block that stands for one, and how many cells it has. -/
abbrev Nm := Nat → Option (Nat × Nat)
/-- How many elements a name's block has, and of how many cells each. -/
abbrev Sh := Nat → Option (Nat × Nat)

def MB.shape : MB → Nat × Nat
  | .tv _ τ _ => (1, τ.sz)
  | .ar _ _ τ xs => (xs.length, τ.sz)
  | .dv l => (1, l.length)
def shp (m : Mem) : Sh := fun n => (look n m).map MB.shape

def OwnAt (μ : Nm) (sh : Sh) (n : Nat) (A : Option Addr) (cap : Nat) : Prop :=
  (A = none ∧ cap = 0) ∨ ∃ b q len z, μ n = some (b, q) ∧ sh n = some (len, z) ∧ A = some ⟨b, 0, none⟩ ∧ q = cap * z

def RC (μ : Nm) (I : Bool → Nat → Prop) (w : World) (sh : Sh) : C → Value → Prop
  | .ty b τ x, v => VK (I b) w τ x v
  | .tt, v => v = .bool true
  | .ff, v => v = .bool false
  | .ref n i o, v => ∃ b q len z, μ n = some (b, q) ∧ sh n = some (len, z) ∧ i < len ∧ v = .pointer (some ⟨b, i * z + o, none⟩)
  | .eref t τ xs i o, v => ∃ (ad : Addr) (cells : List Value), v = .pointer (some ⟨ad.block, ad.off + (i * τ.sz + o), none⟩) ∧ i < xs.length ∧ I t ad.block ∧ CellsAt w ad cells ∧ Row (K (I t) w τ) τ.sz xs cells
  | .mfull n, v => ∃ len z A cap, sh n = some (len, z) ∧ v = .slice A len cap ∧ len ≤ cap ∧ cap ≤ Mx ∧ OwnAt μ sh n A cap
  | .msl n s l cp, v => ∃ A cap, v = .slice A l cap ∧ l ≤ cap ∧ cap ≤ Mx ∧ (cp = true → cap = l) ∧ (∃ len z, sh n = some (len, z) ∧ s + l ≤ len ∧ (0 < l → ∃ b q, μ n = some (b, q) ∧ A = some ⟨b, s * z, none⟩)) ∧ (s = 0 → cp = false → OwnAt μ sh n A cap)
  | .nils, v => v = .slice none 0 0
  | .nilp, v => v = .pointer none
  | .bad, _ => True

/-- Cells, one by one. -/
def RL (μ : Nm) (I : Bool → Nat → Prop) (w : World) (sh : Sh) (l : List C) (vs : List Value) : Prop :=
  l.length = vs.length ∧ ∀ (j : Nat) (c : C) (v : Value), l[j]? = some c → vs[j]? = some v → RC μ I w sh c v

def RD (μ : Nm) (I : Bool → Nat → Prop) (w : World) (sh : Sh) : D → Value → Prop
  | .c x, v => RC μ I w sh x v
  | .agg l, v => ∃ vs : List Value, v = .agg vs.toArray ∧ RL μ I w sh l vs ∧ ∀ u ∈ vs, u.oneCell' = true
  | .tup l, v => ∃ vs : List Value, v = .tuple vs.toArray ∧ RL μ I w sh l vs
  | .fn f l, v => ∃ vs : List Value, v = .func (.func f) #[] vs.toArray ∧ RL μ I w sh l vs

/-- A block of one's own. -/
def BR (μ : Nm) (I : Bool → Nat → Prop) (w : World) (sh : Sh) (mb : MB) (b q : Nat) : Prop :=
  ∃ cur e, w.heap[b]? = some (.cells cur e (0, 0)) ∧ cur.size = q ∧ match mb with
    | .tv t τ x => K (I t) w τ x cur.toList
    | .ar t e' τ xs => e = e' ∧ ∃ cap, q = cap * τ.sz ∧ xs.length ≤ cap ∧ cap ≤ Mx ∧ Row (K (I t) w τ) τ.sz xs (cur.toList.take (xs.length * τ.sz))
    | .dv l => RL μ I w sh l cur.toList ∧ ∀ u ∈ cur.toList, u.oneCell' = true

/-- What a stretch of steps may touch: where it began, what is kept for good, what may be written. -/
structure Cfg where
  w0 : World
  I0 : Bool → Nat → Prop
  L0 : Nat → Prop
  m0 : Mem
  μ0 : Nm

structure MRel (g : Cfg) (m : Mem) (w : World) (μ : Nm) (I : Bool → Nat → Prop) : Prop where
  mem : ∀ n mb, look n m = some mb → (∃ b q, μ n = some (b, q) ∧ BR μ I w (shp m) mb b q) ∨ (μ n = none ∧ ∃ t e τ, mb = .ar t e τ [])
  inj : ∀ n n' b q q', μ n = some (b, q) → μ n' = some (b, q') → look n m ≠ none → look n' m ≠ none → n = n'
  sep : ∀ n b q, look n m ≠ none → μ n = some (b, q) → ¬ I true b
  isub : ∀ b, I false b → I true b
  ilt : ∀ b, I true b → b < w.heap.size
  i0 : ∀ t b, g.I0 t b → I t b
  inew : ∀ t b, I t b → g.I0 t b ∨ g.L0 b ∨ g.w0.heap.size ≤ b
  live : ∀ n b q, look n m ≠ none → μ n = some (b, q) → g.L0 b ∨ g.w0.heap.size ≤ b
  os : w.os = g.w0.os
  tape : w.tape = g.w0.tape
  output : w.output = g.w0.output
  size : g.w0.heap.size ≤ w.heap.size
  keep : ∀ b, b < g.w0.heap.size → ¬ g.L0 b → w.heap[b]? = g.w0.heap[b]?

structure Rel (g : Cfg) (s : St) (a : Act) (w : World) (μ : Nm) (I : Bool → Nat → Prop) : Prop extends MRel g s.m w μ I where
  tm : ∀ i, RD μ I w (shp s.m) (s.t.getD i (.c .bad)) (a.tmps.getD i undef)
  len : s.t.length = a.tmps.size
  dfr : a.defers = []
  kept : ∀ n, look n g.m0 ≠ none → n ∉ s.k → μ n = g.μ0 n ∧ shp s.m n = shp g.m0 n

/-- The state stands for what is there. -/
def Ok (g : Cfg) (s : St) (a : Act) (w : World) : Prop := ∃ μ I, Rel g s a w μ I

theorem OwnAt.same {μ μ' : Nm} {sh sh' : Sh} {n : Nat} {A : Option Addr} {cap : Nat} (h : OwnAt μ sh n A cap) (e1 : μ' n = μ n) (e2 : sh' n = sh n) : OwnAt μ' sh' n A cap := by
  unfold OwnAt at *
  rw [e1, e2]
  exact h

/-- A cell's worth stays, where nothing that it speaks of has turned. -/
theorem RC.same {μ μ' : Nm} {I I' : Bool → Nat → Prop} {w w' : World} {sh sh' : Sh} (hI : ∀ t b, I t b → I' t b) (hs : ∀ t, Stays (I t) w w') {c : C} (hn : ∀ n, c.has n = true → μ' n = μ n ∧ sh' n = sh n) {v : Value} (h : RC μ I w sh c v) : RC μ' I' w' sh' c v := by
  cases c with
  | ty b τ x => exact VK.mono (hI b) (hs b) h
  | tt => exact h
  | ff => exact h
  | ref n i o =>
    obtain ⟨e1, e2⟩ := hn n (by simp [C.has])
    simp only [RC, e1, e2] at *
    exact h
  | eref t τ xs i o =>
    obtain ⟨ad, cells, h1, h2, h3, h4, h5⟩ := h
    exact ⟨ad, cells, h1, h2, hI _ _ h3, h4.stays (hs t) h3, h5.imp fun _ _ k => k.mono (hI t) (hs t)⟩
  | mfull n =>
    obtain ⟨e1, e2⟩ := hn n (by simp [C.has])
    obtain ⟨len, z, A, cap, h1, h2, h3, h4, h5⟩ := h
    exact ⟨len, z, A, cap, e2.trans h1, h2, h3, h4, h5.same e1 e2⟩
  | msl n s l cp =>
    obtain ⟨e1, e2⟩ := hn n (by simp [C.has])
    obtain ⟨A, cap, h1, h2, h3, h4, ⟨len, z, h5, h6, h7⟩, h8⟩ := h
    exact ⟨A, cap, h1, h2, h3, h4, ⟨len, z, e2.trans h5, h6, fun hl => by rw [e1]; exact h7 hl⟩, fun a b => (h8 a b).same e1 e2⟩
  | nils => exact h
  | nilp => exact h
  | bad => exact h

theorem RL.map {μ μ' : Nm} {I I' : Bool → Nat → Prop} {w w' : World} {sh sh' : Sh} {φ : C → C} {l : List C} {vs : List Value} (h : RL μ I w sh l vs) (hφ : ∀ c v, c ∈ l → v ∈ vs → RC μ I w sh c v → RC μ' I' w' sh' (φ c) v) : RL μ' I' w' sh' (l.map φ) vs := by
  refine ⟨by rw [List.length_map]; exact h.1, fun j c v hc hv => ?_⟩
  rw [List.getElem?_map] at hc
  obtain ⟨c0, h0, rfl⟩ := Option.map_eq_some_iff.1 hc
  exact hφ _ _ (List.mem_of_getElem? h0) (List.mem_of_getElem? hv) (h.2 j c0 v h0 hv)

theorem RL.imp {μ μ' : Nm} {I I' : Bool → Nat → Prop} {w w' : World} {sh sh' : Sh} {l : List C} {vs : List Value} (h : RL μ I w sh l vs) (hφ : ∀ c v, c ∈ l → RC μ I w sh c v → RC μ' I' w' sh' c v) : RL μ' I' w' sh' l vs :=
  ⟨h.1, fun j c v hc hv => hφ _ _ (List.mem_of_getElem? hc) (h.2 j c v hc hv)⟩

def D.map (φ : C → C) : D → D
  | .c x => .c (φ x)
  | .agg l => .agg (l.map φ)
  | .tup l => .tup (l.map φ)
  | .fn f l => .fn f (l.map φ)

theorem D.kill_map (n : Nat) : D.kill n = D.map (C.kill n) := by funext d; cases d <;> rfl
theorem D.freeze_map (n : Nat) (mb : MB) : D.freeze n mb = D.map (C.freeze n mb) := by funext d; cases d <;> rfl

theorem RD.map {μ μ' : Nm} {I I' : Bool → Nat → Prop} {w w' : World} {sh sh' : Sh} {φ : C → C} {d : D} {v : Value} (h : RD μ I w sh d v) (hφ : ∀ c v, RC μ I w sh c v → RC μ' I' w' sh' (φ c) v) : RD μ' I' w' sh' (d.map φ) v := by
  cases d with
  | c x => exact hφ _ _ h
  | agg l => obtain ⟨vs, e, h1, h2⟩ := h; exact ⟨vs, e, h1.map fun c v _ _ => hφ c v, h2⟩
  | tup l => obtain ⟨vs, e, h1⟩ := h; exact ⟨vs, e, h1.map fun c v _ _ => hφ c v⟩
  | fn f l => obtain ⟨vs, e, h1⟩ := h; exact ⟨vs, e, h1.map fun c v _ _ => hφ c v⟩

theorem D.map_id (d : D) : d.map id = d := by cases d <;> simp [D.map]

theorem RD.imp {μ μ' : Nm} {I I' : Bool → Nat → Prop} {w w' : World} {sh sh' : Sh} {d : D} {v : Value} (h : RD μ I w sh d v) (hφ : ∀ c v, RC μ I w sh c v → RC μ' I' w' sh' c v) : RD μ' I' w' sh' d v := by
  have := h.map (φ := id) (μ' := μ') (I' := I') (w' := w') (sh' := sh') hφ
  rwa [D.map_id] at this

/-! ### memory's names -/
theorem look_delm_same (n : Nat) : ∀ m : Mem, look n (delm n m) = none
  | [] => rfl
  | (k, b) :: r => by
    simp only [delm]
    cases hk : Nat.beq k n with
    | true => exact look_delm_same n r
    | false => simp only [cond_false, look, hk]; exact look_delm_same n r
theorem look_delm_other {n k : Nat} (h : k ≠ n) : ∀ m : Mem, look k (delm n m) = look k m
  | [] => rfl
  | (j, b) :: r => by
    simp only [delm]
    cases hj : Nat.beq j n with
    | true =>
      have : Nat.beq j k = false := by
        rw [Nat.eq_of_beq_eq_true hj]
        cases hh : Nat.beq n k with
        | true => exact absurd (Nat.eq_of_beq_eq_true hh).symm h
        | false => rfl
      simp only [cond_true, look, this, cond_false]
      exact look_delm_other h r
    | false => simp only [cond_false, look]; rw [look_delm_other h r]
theorem look_map (f : MB → MB) (n : Nat) : ∀ m : Mem, look n (m.map fun p => (p.1, f p.2)) = (look n m).map f
  | [] => rfl
  | (k, b) :: r => by
    simp only [List.map_cons, look]
    cases Nat.beq k n with
    | true => rfl
    | false => exact look_map f n r
theorem beq_ne {k n : Nat} (h : k ≠ n) : Nat.beq k n = false := by
  cases hh : Nat.beq k n with
  | true => exact absurd (Nat.eq_of_beq_eq_true hh) h
  | false => rfl
theorem beq_same (n : Nat) : Nat.beq n n = true := Nat.beq_refl n
theorem look_setm_same (n : Nat) (mb : MB) : ∀ m : Mem, look n (setm n mb m) = some mb
  | [] => by simp [setm, look, beq_same]
  | (k, b) :: r => by
    simp only [setm]
    cases hk : Nat.beq k n with
    | true => simp [look, hk]
    | false => simp only [cond_false, look, hk]; exact look_setm_same n mb r
theorem look_setm_other {n k : Nat} (mb : MB) (h : k ≠ n) : ∀ m : Mem, look k (setm n mb m) = look k m
  | [] => by simp [setm, look, beq_ne (Ne.symm h)]
  | (j, b) :: r => by
    simp only [setm]
    cases hj : Nat.beq j n with
    | true =>
      have : Nat.beq j k = false := by rw [Nat.eq_of_beq_eq_true hj]; exact beq_ne (Ne.symm h)
      simp only [cond_true, look, this, cond_false]
    | false => simp only [cond_false, look]; rw [look_setm_other mb h r]

theorem has_beq {n : Nat} {c : C} : ∀ {k : Nat}, c.has k = true → c.has n = false → k ≠ n := by
  intro k h1 h2 e
  subst e
  rw [h1] at h2
  cases h2

end Go.PI
