/- The parts of a value of a kind, by the place of their first cell: read and replaced. -/
import Derived.Test.YtnhiplibodkciaaPIa
namespace Go.PI
open Go.RowKit

def here (τ : Ty) (o : Nat) (σ : Ty) : Option (τ.T → σ.T) := if h : o = 0 ∧ τ = σ then some (fun x => cast (congrArg Ty.T h.2) x) else none

/-- The part of kind σ whose first cell is the o-th. -/
def sub : (τ : Ty) → Nat → (σ : Ty) → Option (τ.T → σ.T)
  | .pair a b, o, σ => match here (.pair a b) o σ with
    | some f => some f
    | none => if o < a.sz then (sub a o σ).map (fun f x => f x.1) else (sub b (o - a.sz) σ).map (fun f x => f x.2)
  | .st a, o, σ => match here (.st a) o σ with
    | some f => some f
    | none => sub a o σ
  | .arr n a, o, σ => match here (.arr n a) o σ with
    | some f => some f
    | none => if o < n * a.sz then (sub a (o % a.sz) σ).map (fun f (x : List a.T) => f (x.getD (o / a.sz) a.zero)) else none
  | .unit, o, σ => here .unit o σ
  | .bool, o, σ => here .bool o σ
  | .int k, o, σ => here (.int k) o σ
  | .str, o, σ => here .str o σ
  | .sl a, o, σ => here (.sl a) o σ
  | .ptr a, o, σ => here (.ptr a) o σ
  | .chain a, o, σ => here (.chain a) o σ

def hereSet (τ : Ty) (o : Nat) (σ : Ty) : Option (τ.T → σ.T → τ.T) := if h : o = 0 ∧ τ = σ then some (fun _ y => cast (congrArg Ty.T h.2.symm) y) else none

/-- That part replaced. -/
def put : (τ : Ty) → Nat → (σ : Ty) → Option (τ.T → σ.T → τ.T)
  | .pair a b, o, σ => match hereSet (.pair a b) o σ with
    | some f => some f
    | none => if o < a.sz then (put a o σ).map (fun f x y => (f x.1 y, x.2)) else (put b (o - a.sz) σ).map (fun f x y => (x.1, f x.2 y))
  | .st a, o, σ => match hereSet (.st a) o σ with
    | some f => some f
    | none => put a o σ
  | .arr n a, o, σ => match hereSet (.arr n a) o σ with
    | some f => some f
    | none => if o < n * a.sz then (put a (o % a.sz) σ).map (fun f (x : List a.T) y => x.set (o / a.sz) (f (x.getD (o / a.sz) a.zero) y)) else none
  | .unit, o, σ => hereSet .unit o σ
  | .bool, o, σ => hereSet .bool o σ
  | .int k, o, σ => hereSet (.int k) o σ
  | .str, o, σ => hereSet .str o σ
  | .sl a, o, σ => hereSet (.sl a) o σ
  | .ptr a, o, σ => hereSet (.ptr a) o σ
  | .chain a, o, σ => hereSet (.chain a) o σ

variable {I : Nat → Prop} {w : World}

theorem here_K {τ σ : Ty} {o : Nat} {f : τ.T → σ.T} (h : here τ o σ = some f) {x : τ.T} {cs : List Value} (hk : K I w τ x cs) : o + σ.sz ≤ τ.sz ∧ K I w σ (f x) ((cs.drop o).take σ.sz) := by
  unfold here at h
  split at h
  · rename_i hh
    obtain ⟨rfl, rfl⟩ := hh
    obtain rfl := Option.some.inj h
    refine ⟨by omega, ?_⟩
    rw [List.drop_zero, List.take_of_length_le (by rw [hk.length]; exact Nat.le_refl _)]
    exact hk
  · cases h

theorem piece_of_drop (z o n : Nat) (cs : List Value) (hz : 0 < z) (m : Nat) (hm : o % z + m ≤ z) : ((piece z cs (o / z)).drop (o % z)).take m = (cs.drop o).take m := by
  unfold piece
  rw [List.drop_take, List.take_take, List.drop_drop, Nat.min_eq_left (by omega), Nat.mul_comm, Nat.div_add_mod]

theorem sub_K : ∀ {τ σ : Ty} {o : Nat} {f : τ.T → σ.T}, sub τ o σ = some f → ∀ {x : τ.T} {cs : List Value}, K I w τ x cs → o + σ.sz ≤ τ.sz ∧ K I w σ (f x) ((cs.drop o).take σ.sz)
  | .unit, _, _, _, h, _, _, hk => here_K h hk
  | .bool, _, _, _, h, _, _, hk => here_K h hk
  | .int _, _, _, _, h, _, _, hk => here_K h hk
  | .str, _, _, _, h, _, _, hk => here_K h hk
  | .sl _, _, _, _, h, _, _, hk => here_K h hk
  | .ptr _, _, _, _, h, _, _, hk => here_K h hk
  | .chain _, _, _, _, h, _, _, hk => here_K h hk
  | .pair a b, σ, o, f, h, x, cs, hk => by
    unfold sub at h
    split at h
    · rename_i g hg
      obtain rfl := Option.some.inj h
      exact here_K hg hk
    · obtain ⟨c1, c2, rfl, h1, h2⟩ := hk
      have l1 := h1.length
      split at h
      · rename_i hlt
        obtain ⟨g, hg, rfl⟩ := Option.map_eq_some_iff.1 h
        obtain ⟨q, r⟩ := sub_K hg h1
        refine ⟨by simp only [Ty.sz]; omega, ?_⟩
        rw [List.drop_append_of_le_length (by omega), List.take_append_of_le_length (by rw [List.length_drop]; omega)]
        exact r
      · rename_i hge
        obtain ⟨g, hg, rfl⟩ := Option.map_eq_some_iff.1 h
        obtain ⟨q, r⟩ := sub_K hg h2
        refine ⟨by simp only [Ty.sz]; omega, ?_⟩
        rw [List.drop_append, List.drop_eq_nil_of_le (by omega), List.nil_append, l1]
        exact r
  | .st a, σ, o, f, h, x, cs, hk => by
    unfold sub at h
    split at h
    · rename_i g hg
      obtain rfl := Option.some.inj h
      exact here_K hg hk
    · exact sub_K (τ := a) h hk
  | .arr n a, σ, o, f, h, xs, cs, hk => by
    unfold sub at h
    split at h
    · rename_i g hg
      obtain rfl := Option.some.inj h
      exact here_K hg hk
    · split at h
      · rename_i hlt
        obtain ⟨g, hg, rfl⟩ := Option.map_eq_some_iff.1 h
        obtain ⟨hn, hl, hr⟩ := hk
        have hz : 0 < a.sz := by
          rcases Nat.eq_zero_or_pos a.sz with hz | hz
          · rw [hz] at hlt; omega
          · exact hz
        have hi : o / a.sz < List.length xs := by rw [hn, Nat.div_lt_iff_lt_mul hz]; exact hlt
        have hx := hr (o / a.sz) _ (List.getElem?_eq_getElem hi)
        obtain ⟨q, r⟩ := sub_K hg hx
        have hd := Nat.div_add_mod o a.sz
        have hle : (o / a.sz + 1) * a.sz ≤ n * a.sz := Nat.mul_le_mul_right _ (by omega)
        refine ⟨?_, ?_⟩
        · simp only [Ty.sz]
          rw [Nat.add_mul, Nat.mul_comm] at hle
          omega
        · rw [piece_of_drop _ _ n _ hz _ q] at r
          have e : (List.getD xs (o / a.sz) a.zero) = xs[o / a.sz] := by simp [List.getD, hi]
          show K I w σ (g (List.getD xs (o / a.sz) a.zero)) _
          rw [e]
          exact r
      · cases h

/-- Cells with others in their place from the o-th on. -/
def splice (cs : List Value) (o : Nat) (c : List Value) : List Value := cs.take o ++ c ++ cs.drop (o + c.length)

theorem splice_length (cs : List Value) (o : Nat) (c : List Value) (h : o + c.length ≤ cs.length) : (splice cs o c).length = cs.length := by
  simp only [splice, List.length_append, List.length_take, List.length_drop]
  omega

theorem hereSet_K {τ σ : Ty} {o : Nat} {f : τ.T → σ.T → τ.T} (h : hereSet τ o σ = some f) {x : τ.T} {cs : List Value} (hk : K I w τ x cs) {y : σ.T} {c : List Value} (hy : K I w σ y c) : o + σ.sz ≤ τ.sz ∧ K I w τ (f x y) (splice cs o c) := by
  unfold hereSet at h
  split at h
  · rename_i hh
    obtain ⟨rfl, rfl⟩ := hh
    obtain rfl := Option.some.inj h
    refine ⟨by omega, ?_⟩
    have : splice cs 0 c = c := by
      unfold splice
      rw [List.take_zero, List.nil_append, List.drop_eq_nil_of_le (by rw [hk.length, hy.length]; omega), List.append_nil]
    rw [this]
    exact hy
  · cases h

theorem piece_splice_same (z o : Nat) (cs c : List Value) (i n : Nat) (hl : cs.length = n * z) (hi : i < n) (ho : o / z = i) (hz : 0 < z) (hc : o % z + c.length ≤ z) : piece z (splice cs o c) i = splice (piece z cs i) (o % z) c := by
  have hd := Nat.div_add_mod o z
  rw [ho, Nat.mul_comm] at hd
  have hle : (i + 1) * z ≤ n * z := Nat.mul_le_mul_right _ hi
  rw [Nat.add_mul] at hle
  apply List.ext_getElem?
  intro j
  simp only [piece, splice, List.getElem?_take, List.getElem?_drop, List.getElem?_append, List.length_append, List.length_take, List.length_drop, hl]
  by_cases hj : j < z
  · simp only [hj, if_true]
    by_cases h1 : j < o % z
    · rw [if_pos (by omega), if_pos (by omega), if_pos (by omega), if_pos (by omega), if_pos (by omega), if_pos (by omega)]
    · by_cases h2 : j < o % z + c.length
      · rw [if_pos (by omega), if_neg (by omega), if_pos (by omega), if_neg (by omega)]
        congr 1
        omega
      · rw [if_neg (by omega), if_neg (by omega), if_pos (by omega)]
        congr 1
        omega
  · simp only [hj, if_false]
    rw [if_neg (by omega), if_neg (by omega)]

theorem piece_splice_other (z o : Nat) (cs c : List Value) (i n : Nat) (hl : cs.length = n * z) (hi : i < n) (ho : o / z ≠ i) (hz : 0 < z) (hc : o % z + c.length ≤ z) (hlt : o / z < n) : piece z (splice cs o c) i = piece z cs i := by
  have hd := Nat.div_add_mod o z
  rw [Nat.mul_comm] at hd
  have hle : (i + 1) * z ≤ n * z := Nat.mul_le_mul_right _ hi
  have hle2 : (o / z + 1) * z ≤ n * z := Nat.mul_le_mul_right _ hlt
  rw [Nat.add_mul] at hle hle2
  have hcase : (i + 1) * z ≤ o / z * z ∨ (o / z + 1) * z ≤ i * z := by
    rcases Nat.lt_or_gt_of_ne ho with h | h
    · exact .inr (Nat.mul_le_mul_right _ h)
    · exact .inl (Nat.mul_le_mul_right _ h)
  rw [Nat.add_mul, Nat.add_mul] at hcase
  apply List.ext_getElem?
  intro j
  simp only [piece, splice, List.getElem?_take, List.getElem?_drop, List.getElem?_append, List.length_append, List.length_take, List.length_drop, hl]
  by_cases hj : j < z
  · simp only [hj, if_true]
    rcases hcase with h | h
    · rw [if_pos (by omega), if_pos (by omega), if_pos (by omega)]
    · rw [if_neg (by omega)]
      congr 1
      omega
  · simp only [hj, if_false]

theorem put_K : ∀ {τ σ : Ty} {o : Nat} {f : τ.T → σ.T → τ.T}, put τ o σ = some f → ∀ {x : τ.T} {cs : List Value}, K I w τ x cs → ∀ {y : σ.T} {c : List Value}, K I w σ y c → o + σ.sz ≤ τ.sz ∧ K I w τ (f x y) (splice cs o c)
  | .unit, _, _, _, h, _, _, hk, _, _, hy => hereSet_K h hk hy
  | .bool, _, _, _, h, _, _, hk, _, _, hy => hereSet_K h hk hy
  | .int _, _, _, _, h, _, _, hk, _, _, hy => hereSet_K h hk hy
  | .str, _, _, _, h, _, _, hk, _, _, hy => hereSet_K h hk hy
  | .sl _, _, _, _, h, _, _, hk, _, _, hy => hereSet_K h hk hy
  | .ptr _, _, _, _, h, _, _, hk, _, _, hy => hereSet_K h hk hy
  | .chain _, _, _, _, h, _, _, hk, _, _, hy => hereSet_K h hk hy
  | .pair a b, σ, o, f, h, x, cs, hk, y, c, hy => by
    unfold put at h
    split at h
    · rename_i g hg
      obtain rfl := Option.some.inj h
      exact hereSet_K hg hk hy
    · obtain ⟨c1, c2, rfl, h1, h2⟩ := hk
      have l1 := h1.length
      have l2 := h2.length
      have lc := hy.length
      split at h
      · rename_i hlt
        obtain ⟨g, hg, rfl⟩ := Option.map_eq_some_iff.1 h
        obtain ⟨q, r⟩ := put_K hg h1 hy
        refine ⟨by simp only [Ty.sz]; omega, splice c1 o c, c2, ?_, r, h2⟩
        unfold splice
        rw [List.take_append_of_le_length (by omega), List.drop_append_of_le_length (by omega), List.append_assoc, List.append_assoc, List.append_assoc]
      · rename_i hge
        obtain ⟨g, hg, rfl⟩ := Option.map_eq_some_iff.1 h
        obtain ⟨q, r⟩ := put_K hg h2 hy
        refine ⟨by simp only [Ty.sz]; omega, c1, splice c2 (o - a.sz) c, ?_, h1, r⟩
        unfold splice
        rw [List.take_append, List.take_of_length_le (by omega), List.drop_append, List.drop_eq_nil_of_le (by omega), List.nil_append, l1, List.append_assoc, List.append_assoc, List.append_assoc]
        congr 4
        omega
  | .st a, σ, o, f, h, x, cs, hk, y, c, hy => by
    unfold put at h
    split at h
    · rename_i g hg
      obtain rfl := Option.some.inj h
      exact hereSet_K hg hk hy
    · exact put_K (τ := a) h hk hy
  | .arr n a, σ, o, f, h, xs, cs, hk, y, c, hy => by
    unfold put at h
    split at h
    · rename_i g hg
      obtain rfl := Option.some.inj h
      exact hereSet_K hg hk hy
    · split at h
      · rename_i hlt
        obtain ⟨g, hg, rfl⟩ := Option.map_eq_some_iff.1 h
        obtain ⟨hn, hl, hr⟩ := hk
        have hz : 0 < a.sz := by
          rcases Nat.eq_zero_or_pos a.sz with hz | hz
          · rw [hz] at hlt; omega
          · exact hz
        have hi : o / a.sz < List.length xs := by rw [hn, Nat.div_lt_iff_lt_mul hz]; exact hlt
        have hx := hr (o / a.sz) _ (List.getElem?_eq_getElem hi)
        obtain ⟨q, r⟩ := put_K hg hx hy
        have lc := hy.length
        have hd := Nat.div_add_mod o a.sz
        have hle : (o / a.sz + 1) * a.sz ≤ n * a.sz := Nat.mul_le_mul_right _ (by omega)
        have hbound : o + σ.sz ≤ n * a.sz := by
          rw [Nat.add_mul, Nat.mul_comm] at hle
          omega
        have e : (List.getD xs (o / a.sz) a.zero) = xs[o / a.sz] := by simp [List.getD, hi]
        refine ⟨hbound, by simpa using hn, ?_, ?_⟩
        · rw [splice_length _ _ _ (by rw [lc, hl, hn]; exact hbound), List.length_set, hl]
        · intro i z hz'
          rw [List.getElem?_set] at hz'
          by_cases hio : o / a.sz = i
          · rw [if_pos hio, if_pos hi] at hz'
            obtain rfl := Option.some.inj hz'
            rw [piece_splice_same a.sz o cs c i _ hl (hio ▸ hi) hio hz (by rw [lc]; exact q)]
            rw [e]
            subst hio
            exact r
          · rw [if_neg hio] at hz'
            have hil : i < List.length xs := by
              rcases Nat.lt_or_ge i (List.length xs) with hh | hh
              · exact hh
              · rw [List.getElem?_eq_none hh] at hz'; cases hz'
            rw [piece_splice_other a.sz o cs c i _ hl hil hio hz (by rw [lc]; exact q) hi]
            exact hr i z hz'
      · cases h

end Go.PI
