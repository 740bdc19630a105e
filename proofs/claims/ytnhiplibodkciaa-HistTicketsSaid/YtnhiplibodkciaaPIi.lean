/- Values by their cells, typed or not. -/
import Derived.Test.YtnhiplibodkciaaPIh
namespace Go.PI
open Go.RowKit

variable {P : Program} {μ : Nm} {I : Bool → Nat → Prop} {w : World} {sh : Sh}

theorem or_mono (hs : ∀ b, I false b → I true b) (t u : Bool) : (∀ b, I t b → I (t || u) b) ∧ (∀ b, I u b → I (t || u) b) := by
  cases t <;> cases u <;> simp <;> assumption

theorem K.up {t u : Bool} (h : ∀ b, I t b → I u b) {τ : Ty} {x : τ.T} {cs : List Value} (hk : K (I t) w τ x cs) : K (I u) w τ x cs := hk.mono h (stays_refl _ _)
theorem VK.up {t u : Bool} (h : ∀ b, I t b → I u b) {τ : Ty} {x : τ.T} {v : Value} (hk : VK (I t) w τ x v) : VK (I u) w τ x v := hk.mono h (stays_refl _ _)

theorem RL.cons {c : C} {l : List C} {vs : List Value} (h : RL μ I w sh (c :: l) vs) : ∃ v r, vs = v :: r ∧ RC μ I w sh c v ∧ RL μ I w sh l r := by
  obtain ⟨h1, h2⟩ := h
  match vs, h1 with
  | v :: r, h1 =>
    refine ⟨v, r, rfl, h2 0 c v rfl rfl, by simpa using h1, fun j c' v' hc hv => h2 (j + 1) c' v' (by simpa using hc) (by simpa using hv)⟩

theorem RL.mk_cons {c : C} {l : List C} {v : Value} {r : List Value} (h : RC μ I w sh c v) (hl : RL μ I w sh l r) : RL μ I w sh (c :: l) (v :: r) := by
  refine ⟨by simp [hl.1], fun j c' v' hc hv => ?_⟩
  cases j with
  | zero =>
    obtain rfl : c = c' := by simpa using hc
    obtain rfl : v = v' := by simpa using hv
    exact h
  | succ j => exact hl.2 j c' v' (by simpa using hc) (by simpa using hv)

theorem RL.append {l l' : List C} {vs vs' : List Value} (h : RL μ I w sh l vs) (h' : RL μ I w sh l' vs') : RL μ I w sh (l ++ l') (vs ++ vs') := by
  refine ⟨by simp [h.1, h'.1], fun j c v hc hv => ?_⟩
  by_cases hj : j < l.length
  · rw [List.getElem?_append_left hj] at hc
    rw [List.getElem?_append_left (by rw [← h.1]; exact hj)] at hv
    exact h.2 j c v hc hv
  · rw [List.getElem?_append_right (by omega)] at hc
    rw [List.getElem?_append_right (by rw [← h.1]; omega)] at hv
    rw [← h.1] at hv
    exact h'.2 _ c v hc hv

theorem RL.nil : RL μ I w sh [] [] := ⟨rfl, fun j c v hc => by simp at hc⟩

theorem RL.take {l : List C} {vs : List Value} (h : RL μ I w sh l vs) (n : Nat) : RL μ I w sh (l.take n) (vs.take n) := by
  refine ⟨by simp [h.1], fun j c v hc hv => ?_⟩
  rw [List.getElem?_take] at hc hv
  split at hc
  · rename_i hj
    rw [if_pos hj] at hv
    exact h.2 j c v hc hv
  · cases hc
theorem RL.drop {l : List C} {vs : List Value} (h : RL μ I w sh l vs) (n : Nat) : RL μ I w sh (l.drop n) (vs.drop n) := by
  refine ⟨by simp [h.1], fun j c v hc hv => ?_⟩
  rw [List.getElem?_drop] at hc hv
  exact h.2 _ c v hc hv

theorem piece_zero (z : Nat) (c r : List Value) (h : c.length = z) : piece z (c ++ r) 0 = c := by
  unfold piece
  rw [Nat.zero_mul, List.drop_zero, List.take_append_of_le_length (by omega), List.take_of_length_le (by omega)]
theorem piece_succ (z : Nat) (c r : List Value) (h : c.length = z) (i : Nat) : piece z (c ++ r) (i + 1) = piece z r i := by
  unfold piece
  rw [List.drop_append, List.drop_eq_nil_of_le (by rw [Nat.add_mul]; omega), List.nil_append, h, Nat.add_mul]
  congr 2
  omega
theorem Row.cons {α : Type} {R : α → List Value → Prop} {z : Nat} {x : α} {xs : List α} {c r : List Value} (hc : c.length = z) (h : R x c) (hr : Row R z xs r) : Row R z (x :: xs) (c ++ r) := by
  refine ⟨by rw [List.length_append, hc, hr.1, List.length_cons, Nat.add_mul]; omega, fun i y hy => ?_⟩
  cases i with
  | zero =>
    obtain rfl : x = y := by simpa using hy
    rw [piece_zero z c r hc]
    exact h
  | succ i =>
    rw [piece_succ z c r hc]
    exact hr.2 i y (by simpa using hy)
theorem Row.nil {α : Type} (R : α → List Value → Prop) (z : Nat) : Row R z [] [] := ⟨by simp, fun i x hx => by simp at hx⟩
theorem Row.uncons {α : Type} {R : α → List Value → Prop} {z : Nat} {x : α} {xs : List α} {cells : List Value} (h : Row R z (x :: xs) cells) : ∃ c r, cells = c ++ r ∧ c.length = z ∧ R x c ∧ Row R z xs r := by
  have hl := h.1
  rw [List.length_cons, Nat.add_mul] at hl
  have e : cells = cells.take z ++ cells.drop z := (List.take_append_drop z cells).symm
  have hc : (cells.take z).length = z := by rw [List.length_take]; omega
  refine ⟨cells.take z, cells.drop z, e, hc, ?_, by rw [List.length_drop]; omega, fun i y hy => ?_⟩
  · have := h.2 0 x rfl
    rw [e, piece_zero z _ _ hc] at this
    exact this
  · have := h.2 (i + 1) y (by simpa using hy)
    rw [e, piece_succ z _ _ hc] at this
    exact this

theorem retype_ok (hs : ∀ b, I false b → I true b) : ∀ {σ : Ty} {l rest : List C} {b : Bool} {x : σ.T}, retype σ l = some ((b, x), rest) → ∀ {vs : List Value}, RL μ I w sh l vs →
    ∃ v1 v2, vs = v1 ++ v2 ∧ K (I b) w σ x v1 ∧ RL μ I w sh rest v2
  | .unit, l, rest, b, x, h, vs, hl => by
    simp only [retype] at h
    obtain ⟨h1, rfl⟩ := Prod.mk.inj (Option.some.inj h)
    exact ⟨[], vs, rfl, rfl, hl⟩
  | .pair p q, l, rest, b, x, h, vs, hl => by
    simp only [retype] at h
    split at h
    · rename_i t y l1 h1
      split at h
      · rename_i u z l2 h2
        obtain ⟨h3, rfl⟩ := Prod.mk.inj (Option.some.inj h)
        obtain ⟨rfl, rfl⟩ := Prod.mk.inj h3
        obtain ⟨v1, v2, rfl, k1, r1⟩ := retype_ok hs h1 hl
        obtain ⟨v3, v4, rfl, k2, r2⟩ := retype_ok hs h2 r1
        exact ⟨v1 ++ v3, v4, by simp, ⟨v1, v3, rfl, k1.up (or_mono hs t u).1, k2.up (or_mono hs t u).2⟩, r2⟩
      · cases h
    · cases h
  | .st p, l, rest, b, x, h, vs, hl => retype_ok (σ := p) hs h hl
  | .arr n p, l, rest, b, x, h, vs, hl => by
    simp only [retype] at h
    have main : ∀ (n : Nat) (l rest : List C) (b : Bool) (x : List p.T) (vs : List Value), manyRe (retype p) n l = some ((b, x), rest) → RL μ I w sh l vs → ∃ v1 v2, vs = v1 ++ v2 ∧ (x.length = n ∧ Row (K (I b) w p) p.sz x v1) ∧ RL μ I w sh rest v2 := by
      intro n
      induction n with
      | zero =>
        intro l rest b x vs h hl
        simp only [manyRe] at h
        obtain ⟨h3, rfl⟩ := Prod.mk.inj (Option.some.inj h)
        obtain ⟨rfl, rfl⟩ := Prod.mk.inj h3
        exact ⟨[], vs, rfl, ⟨rfl, Row.nil _ _⟩, hl⟩
      | succ n ih =>
        intro l rest b x vs h hl
        simp only [manyRe] at h
        split at h
        · rename_i t y l1 h1
          split at h
          · rename_i u z l2 h2
            obtain ⟨h3, rfl⟩ := Prod.mk.inj (Option.some.inj h)
            obtain ⟨rfl, rfl⟩ := Prod.mk.inj h3
            obtain ⟨v1, v2, rfl, k1, r1⟩ := retype_ok hs h1 hl
            obtain ⟨v3, v4, rfl, ⟨k2, k3⟩, r2⟩ := ih _ _ _ _ _ h2 r1
            refine ⟨v1 ++ v3, v4, by simp, ⟨by simp [k2], Row.cons k1.length (k1.up (or_mono hs t u).1) (k3.imp fun _ _ k => k.up (or_mono hs t u).2)⟩, r2⟩
          · cases h
        · cases h
    exact main n l rest b x vs h hl
  | .bool, c :: l, rest, b, x, h, vs, hl => leaf .bool rfl rfl h hl
  | .int k, c :: l, rest, b, x, h, vs, hl => leaf (.int k) rfl rfl h hl
  | .str, c :: l, rest, b, x, h, vs, hl => leaf .str rfl rfl h hl
  | .sl p, c :: l, rest, b, x, h, vs, hl => leaf (.sl p) rfl rfl h hl
  | .ptr p, c :: l, rest, b, x, h, vs, hl => leaf (.ptr p) rfl rfl h hl
  | .chain p, c :: l, rest, b, x, h, vs, hl => leaf (.chain p) rfl rfl h hl
  | .bool, [], _, _, _, h, _, _ => by simp [retype] at h
  | .int _, [], _, _, _, h, _, _ => by simp [retype] at h
  | .str, [], _, _, _, h, _, _ => by simp [retype] at h
  | .sl _, [], _, _, _, h, _, _ => by simp [retype] at h
  | .ptr _, [], _, _, _, h, _, _ => by simp [retype] at h
  | .chain _, [], _, _, _, h, _, _ => by simp [retype] at h
  where
  leaf (σ : Ty) (ha : σ.isAgg = false) (hr : ∀ {c : C} {l : List C}, retype σ (c :: l) = match c.asTy σ with | some q => some (q, l) | none => none) {c : C} {l rest : List C} {b : Bool} {x : σ.T} (h : retype σ (c :: l) = some ((b, x), rest)) {vs : List Value} (hl : RL μ I w sh (c :: l) vs) :
      ∃ v1 v2, vs = v1 ++ v2 ∧ K (I b) w σ x v1 ∧ RL μ I w sh rest v2 := by
    rw [hr] at h
    split at h
    · rename_i q hq
      obtain ⟨rfl, rfl⟩ := Prod.mk.inj (Option.some.inj h)
      obtain ⟨v, r, rfl, hc, hr⟩ := hl.cons
      exact ⟨[v], r, rfl, (asTyC_ok hc hq).2 ha, hr⟩
    · cases h

theorem asTy_ok (hs : ∀ b, I false b → I true b) {σ : Ty} {d : D} {b : Bool} {x : σ.T} (h : d.asTy σ = some (b, x)) {v : Value} (hd : RD μ I w sh d v) : VK (I b) w σ x v := by
  cases d with
  | c c => exact asTyC_ok hd h
  | agg l =>
    simp only [D.asTy] at h
    cases ha : σ.isAgg with
    | false => simp [ha] at h
    | true =>
      simp only [ha, cond_true] at h
      split at h
      · rename_i q hq
        obtain rfl := Option.some.inj h
        obtain ⟨vs, rfl, hl, h1⟩ := hd
        obtain ⟨v1, v2, rfl, hk, hr⟩ := retype_ok hs hq hl
        have : v2 = [] := by
          have := hr.1
          simpa using this.symm
        subst this
        rw [List.append_nil]
        exact ⟨fun _ => ⟨v1, rfl, hk⟩, fun e => by rw [ha] at e; cases e⟩
      · cases h
  | tup l => simp [D.asTy] at h
  | fn f l => simp [D.asTy] at h

theorem asTyS_ok (hs : ∀ b, I false b → I true b) {σ : Ty} {d : D} {b : Bool} {x : σ.T} (h : d.asTyS σ = some (b, x)) {v : Value} (hd : RD μ I w sh d v) : VK (I b) w σ x v := by
  unfold D.asTyS at h
  split at h
  · cases hp : σ.hasP with
    | true => simp [hp] at h
    | false => simp only [hp, cond_false] at h; exact asTy_ok hs h hd
  · cases h
  · cases h
  · exact asTy_ok hs h hd

theorem cellsC_ok {t : Bool} : ∀ {τ : Ty} {x : τ.T} {cs : List Value}, K (I t) w τ x cs → RL μ I w sh (cellsC t τ x) cs
  | .unit, _, cs, h => by rw [show cs = [] from h]; exact RL.nil
  | .pair a b, x, cs, h => by
    obtain ⟨c1, c2, rfl, h1, h2⟩ := h
    exact (cellsC_ok h1).append (cellsC_ok h2)
  | .st a, x, cs, h => cellsC_ok (τ := a) h
  | .arr n a, xs, cs, h => by
    obtain ⟨_, h⟩ := h
    have main : ∀ (xs : List a.T) (cs : List Value), Row (K (I t) w a) a.sz xs cs → RL μ I w sh (manyC (cellsC t a) xs) cs := by
      intro xs
      induction xs with
      | nil =>
        intro cs h
        have := h.1
        simp only [List.length_nil, Nat.zero_mul] at this
        rw [List.eq_nil_of_length_eq_zero this]
        exact RL.nil
      | cons x xs ih =>
        intro cs h
        obtain ⟨c, r, rfl, _, h1, h2⟩ := h.uncons
        exact (cellsC_ok h1).append (ih r h2)
    exact main xs cs h
  | .bool, x, cs, h => leaf .bool rfl h
  | .int k, x, cs, h => leaf (.int k) rfl h
  | .str, x, cs, h => leaf .str rfl h
  | .sl p, x, cs, h => leaf (.sl p) rfl h
  | .ptr p, x, cs, h => leaf (.ptr p) rfl h
  | .chain p, x, cs, h => leaf (.chain p) rfl h
  where
  leaf (σ : Ty) (ha : σ.isAgg = false) {x : σ.T} {cs : List Value} (h : K (I t) w σ x cs) : RL μ I w sh [.ty t σ x] cs := by
    have hl := h.length
    rw [sz_one ha] at hl
    match cs, hl with
    | [v], _ => exact RL.mk_cons ⟨(fun e => by rw [ha] at e; cases e), fun _ => h⟩ RL.nil

theorem zero_K (J : Nat → Prop) (w : World) : ∀ τ : Ty, K J w τ τ.zero (zeroV τ)
  | .unit => rfl
  | .bool => rfl
  | .int k => ⟨rfl, by cases k <;> simp [InK, Ty.zero, IntKind.min, IntKind.max, IntKind.signed, IntKind.bits]⟩
  | .str => ⟨rfl, by simp [Ty.zero]⟩
  | .pair a b => ⟨_, _, rfl, zero_K J w a, zero_K J w b⟩
  | .st a => zero_K J w a
  | .arr n a => by
    refine ⟨by simp [Ty.zero], ?_⟩
    show Row _ _ (List.replicate n a.zero) (List.replicate n (zeroV a)).flatten
    have hz := zero_K J w a
    induction n with
    | zero => exact Row.nil _ _
    | succ n ih =>
      rw [List.replicate_succ, List.replicate_succ, List.flatten_cons]
      exact Row.cons hz.length hz ih
  | .sl a => ⟨none, 0, rfl, by simp [Ty.zero], by simp, fun h => absurd rfl h⟩
  | .ptr a => rfl
  | .chain a => ⟨_, rfl, rfl⟩

theorem zeroC_ok : ∀ τ : Ty, RL μ I w sh (zeroC τ) (zeroV τ)
  | .unit => RL.nil
  | .bool => RL.mk_cons (RD.ofBool (μ := μ) (I := I) (w := w) (sh := sh) _ _) RL.nil
  | .int k => RL.mk_cons (RD.ofInt (μ := μ) (I := I) (w := w) (sh := sh) (zero_K (I false) w (.int k)).2 _) RL.nil
  | .str => RL.mk_cons (RD.ofStr (μ := μ) (I := I) (w := w) (sh := sh) (by simp [Ty.zero]) _) RL.nil
  | .pair a b => (zeroC_ok a).append (zeroC_ok b)
  | .st a => zeroC_ok a
  | .arr n a => by
    show RL _ _ _ _ (manyC (fun _ => zeroC a) (List.replicate n ())) (List.replicate n (zeroV a)).flatten
    induction n with
    | zero => exact RL.nil
    | succ n ih =>
      rw [List.replicate_succ, List.replicate_succ, List.flatten_cons]
      exact (zeroC_ok a).append ih
  | .sl a => RL.mk_cons rfl RL.nil
  | .ptr a => RL.mk_cons rfl RL.nil
  | .chain a => RL.mk_cons rfl RL.nil

theorem cells_one {c : C} (hc : c ≠ .bad) {v : Value} (h : RC μ I w sh c v) (ha : ∀ b τ x, c = .ty b τ x → τ.isAgg = false) : v.cells = #[v] ∧ v.oneCell' = true := by
  have key : v.oneCell' = true → v.cells = #[v] ∧ v.oneCell' = true := fun h1 => ⟨by cases v <;> first | rfl | (simp [Value.oneCell'] at h1), h1⟩
  apply key
  cases c with
  | ty b τ x => exact (h.2 (ha b τ x rfl)).one v (by simp)
  | tt => obtain rfl : v = _ := h; rfl
  | ff => obtain rfl : v = _ := h; rfl
  | ref n i o => obtain ⟨_, _, _, _, _, _, _, rfl⟩ := h; rfl
  | eref t τ xs i o => obtain ⟨_, _, rfl, _⟩ := h; rfl
  | mfull n => obtain ⟨_, _, _, _, _, rfl, _⟩ := h; rfl
  | msl n s l cp => obtain ⟨_, _, rfl, _⟩ := h; rfl
  | nils => obtain rfl : v = _ := h; rfl
  | nilp => obtain rfl : v = _ := h; rfl
  | bad => exact absurd rfl hc

/-- A value's cells, one by one. -/
theorem cells_ok {d : D} {l : List C} (h : d.cells = some l) {v : Value} (hd : RD μ I w sh d v) : RL μ I w sh l v.cells.toList ∧ ∀ u ∈ v.cells.toList, u.oneCell' = true := by
  have single : ∀ x : C, x ≠ .bad → (∀ b τ y, x = .ty b τ y → τ.isAgg = false) → RC μ I w sh x v → RL μ I w sh [x] v.cells.toList ∧ ∀ u ∈ v.cells.toList, u.oneCell' = true := by
    intro x hx ha hr
    obtain ⟨e, h1⟩ := cells_one hx hr ha
    rw [e]
    exact ⟨RL.mk_cons hr RL.nil, fun u hu => by obtain rfl : u = v := by simpa using hu
                                                exact h1⟩
  unfold D.cells at h
  split at h
  · rename_i b τ x
    cases ha : τ.isAgg with
    | true =>
      simp only [ha, cond_true] at h
      obtain rfl := Option.some.inj h
      have hk := VK.cells hd
      exact ⟨cellsC_ok hk, hk.one⟩
    | false =>
      simp only [ha, cond_false] at h
      obtain rfl := Option.some.inj h
      exact single _ (by simp) (fun b' τ' y e => by injection e with _ e2 _; subst e2; exact ha) hd
  · cases h
  · rename_i x hx1 hx2
    obtain rfl := Option.some.inj h
    exact single _ (fun e => hx2 (by rw [e])) (fun b τ y e => absurd (by rw [e]) (hx1 b τ y)) hd
  · obtain rfl := Option.some.inj h
    obtain ⟨vs, rfl, h1, h2⟩ := hd
    exact ⟨by simpa [Value.cells] using h1, by simpa [Value.cells] using h2⟩
  · cases h

end Go.PI
