/- Predicates of numbers made by picks are trees. -/
import Derived.Test.YtnhiplibodkciaaEvM
namespace Go.Proofs.Ytnhiplibodkciaa
open Go.PI Go
variable {env : List Bnd} {L : Nd → Val × Bool}

/-- What was made: a tree of so many parts at most; which pick is next. -/
def PN (env : List Bnd) (L : Nd → Val × Bool) (m : Nat) (at' : Int) (y : (List Nd × Int) × Unit) : Prop := ∃ t, TmOk sch3 env L t ∧ y.1.1 = t.flat ∧ t.flat.length ≤ m ∧ at' ≤ y.1.2 ∧ y.1.2 ≤ at' + m

theorem pn_leaf {n : Nd} {m : Nat} {at' : Int} (h : LeafOk sch3 env L n) (hm : 1 ≤ m) : PN env L m at' (([n], at' + 1), ()) :=
  ⟨.leaf n, h, rfl, by simpa [Tm.flat] using hm, by dsimp only; omega, by dsimp only; omega⟩
theorem pn_un {op : Int} {m : Nat} {at' : Int} {l : List Nd} {k : Int} (h : PN env L m (at' + 1) ((l, k), ())) (ho : op = 3 ∨ op = 13) : PN env L (m + 1) at' ((l ++ [nO op], k), ()) := by
  obtain ⟨t, h1, h2, h3, h4, h5⟩ := h
  dsimp only at h2 h4 h5
  subst h2
  exact ⟨.un (nO op) t, ⟨nodeOk_O (by omega) (by omega), ho, h1⟩, rfl, by simpa [Tm.flat] using h3, by dsimp only; omega, by dsimp only; omega⟩
theorem pn_bin {op : Int} {m j : Nat} {at' : Int} {l r : List Nd} {k i : Int} (h : PN env L m (at' + 1) ((l, k), ())) (h' : PN env L j k ((r, i), ())) (ho : 4 ≤ op ∧ op ≤ 15 ∧ op ≠ 13) : PN env L (m + j + 1) at' ((l ++ r ++ [nO op], i), ()) := by
  obtain ⟨t, h1, h2, h3, h4, h5⟩ := h
  obtain ⟨u, g1, g2, g3, g4, g5⟩ := h'
  dsimp only at h2 h4 h5 g2 g4 g5
  subst h2 g2
  exact ⟨.bin (nO op) t u, ⟨nodeOk_O (by omega) (by omega), ho, h1, g1⟩, rfl, by simp [Tm.flat]; omega, by dsimp only; omega, by dsimp only; omega⟩
theorem PN.mono {m m' : Nat} {at' : Int} {y : (List Nd × Int) × Unit} (h : PN env L m at' y) (hm : m ≤ m') : PN env L m' at' y := by
  obtain ⟨t, h1, h2, h3, h4, h5⟩ := h
  exact ⟨t, h1, h2, by omega, h4, by omega⟩
theorem PN.len {m : Nat} {at' : Int} {l : List Nd} {k : Int} (h : PN env L m at' ((l, k), ())) : l.length ≤ m ∧ at' ≤ k ∧ k ≤ at' + m := by
  obtain ⟨t, h1, h2, h3, h4, h5⟩ := h
  dsimp only at h2 h4 h5
  rw [h2]
  exact ⟨h3, h4, h5⟩

theorem vc_i {c : Int} (h : -100 ≤ c ∧ c ≤ 100) : VC (iV c) := ⟨.i c ⟨by omega, by omega⟩, (by show c ≠ _; omega), (show (0 : Nat) ≤ 64 by decide)⟩

theorem numberR_step (hE : E2 env L) (p : List Int) (at' d : Int) (m : Nat) (hm : m ≤ 30) (hd : 0 ≤ d) (hd3 : d ≤ 3) (h0 : 0 ≤ at') (B : Int) (hB : B ≤ 5000) (h1 : at' ≤ B)
    (G : (List Int) × (Int × (Int × Unit)) → Option ((List Nd × Int) × Unit)) (hG : d ≠ 0 → ∀ at', 0 ≤ at' → at' ≤ B + 100 → ∃ l k, G (p, at', d - 1, ()) = some ((l, k), ()) ∧ PN env L m at' ((l, k), ())) :
    ∃ l k, numberR G (p, at', d, ()) = some ((l, k), ()) ∧ PN env L (2 * m + 1) at' ((l, k), ()) := by
  show ∃ l k, (numberR_B G (p, at', d, ())).run = some ((l, k), ()) ∧ _
  unfold numberR_B
  have hw : IntKind.wrap .i64 (at' + 1) = at' + 1 := wrap_small (by omega) (by omega)
  have hwd : IntKind.wrap .i64 (d - 1) = d - 1 := wrap_small (by omega) (by omega)
  have hx := mask_in (List.getD p (Int.toNat at') 0) 65535 (by decide) (by decide)
  dsimp only
  generalize IntKind.wrap IntKind.i64 (↑(BitVec.toNat (BitVec.ofInt (IntKind.bits IntKind.i64) (List.getD p (Int.toNat at') 0) &&& BitVec.ofInt (IntKind.bits IntKind.i64) 65535)) : Int) = x at hx ⊢
  have hq : 0 ≤ Int.fdiv x (2 ^ min (Int.toNat 4) (IntKind.bits IntKind.i64)) := Int.fdiv_nonneg hx.1 (by decide)
  generalize Int.fdiv x (2 ^ min (Int.toNat 4) (IntKind.bits IntKind.i64)) = q at hq ⊢
  have hC := mask_in q 31 (by decide) (by decide)
  generalize IntKind.wrap IntKind.i64 (↑(BitVec.toNat (BitVec.ofInt (IntKind.bits IntKind.i64) q &&& BitVec.ofInt (IntKind.bits IntKind.i64) 31)) : Int) = C at hC ⊢
  have hY := tmod3 q hq
  generalize Int.tmod q 3 = Y at hY ⊢
  generalize Int.tmod x 6 = X
  have hwC : IntKind.wrap .i64 (C - 8) = C - 8 := wrap_small (by omega) (by omega)
  have hwY : IntKind.wrap .i64 (4 + Y) = 4 + Y := wrap_small (by omega) (by omega)
  have hYb : (decide (0 ≤ Y) && decide (Y < (↑(List.length (List.set (List.set (List.set (List.replicate 3 ByteArray.empty) 0 { data := #[97] }) 1 { data := #[98] }) 2 { data := #[99] })) : Int))) = true := by rcases hY with rfl | rfl | rfl <;> rfl
  have hset : ∀ n : Nd, List.set (List.replicate 1 (0, (0, 0, ByteArray.empty, false), ByteArray.empty, ByteArray.empty)) 0 n = [n] := fun n => rfl
  have hl1 : ∀ n : Nd, List.length [n] = 1 := fun n => rfl
  have h40 : IntKind.wrap .i64 (4 + Int.tmod (Int.fdiv 0 (2 ^ min (Int.toNat 4) (IntKind.bits IntKind.i64))) 3) = 4 := by decide
  rw [hw, hwd, hwC, hwY, h40]
  have m8 : VC (iV (-8)) := vc_i (by omega)
  have mC : VC (iV (C - 8)) := vc_i (by omega)
  by_cases hlt : at' < (p.length : Int)
  · simp only [Br.run, decide_eq_true hlt, decide_eq_true h0, Bool.and_self, cond_true, cond_false, hYb]
    by_cases hd0 : d = 0
    · subst hd0
      simp only [beq_self_eq_true, cond_true]
      by_cases hX : (X == 0) = true
      · simp only [hX, cond_true]
        exact ⟨_, _, rfl, pn_leaf (hE.c _ mC) (by omega)⟩
      · have hX' : (X == 0) = false := by simpa using hX
        simp only [hX', cond_false]
        exact ⟨_, _, rfl, pn_leaf (hE.x _ hY) (by omega)⟩
    · have hd0' : (d == 0) = false := by simpa using hd0
      simp only [hd0', cond_false]
      by_cases h2 : X < 2
      · simp only [decide_eq_true h2, cond_true]
        by_cases hX : (X == 0) = true
        · simp only [hX, cond_true]
          exact ⟨_, _, rfl, pn_leaf (hE.c _ mC) (by omega)⟩
        · have hX' : (X == 0) = false := by simpa using hX
          simp only [hX', cond_false]
          exact ⟨_, _, rfl, pn_leaf (hE.x _ hY) (by omega)⟩
      · simp only [decide_eq_false h2, cond_false]
        obtain ⟨l, k, hGl, hPl⟩ := hG hd0 (at' + 1) (by omega) (by omega)
        obtain ⟨q1, q2, q3⟩ := hPl.len
        simp only [hGl, Br.run]
        by_cases h5 : (X == 5) = true
        · simp only [h5, cond_true, cond_false, Bool.cond_decide]
          refine ⟨_, _, if_pos ?_, (pn_un hPl (.inl rfl)).mono (by omega)⟩
          show (l.length + 1) * 80 ≤ 140737488355328
          omega
        · have h5' : (X == 5) = false := by simpa using h5
          obtain ⟨r, i, hGr, hPr⟩ := hG hd0 k (by omega) (by omega)
          obtain ⟨g1, g2, g3⟩ := hPr.len
          simp only [h5', cond_false, hGr, Br.run, cond_true, Bool.cond_decide]
          refine ⟨_, _, (if_pos ?_).trans (if_pos ?_), (pn_bin (op := 4 + Y) hPl hPr (by omega)).mono (by omega)⟩
          · omega
          · show ((l ++ r).length + 1) * 80 ≤ 140737488355328
            rw [List.length_append]
            omega
  · simp only [Br.run, decide_eq_false hlt, cond_true, cond_false]
    by_cases hd0 : d = 0
    · subst hd0
      simp only [beq_self_eq_true, cond_true]
      exact ⟨_, _, rfl, pn_leaf (hE.c _ m8) (by omega)⟩
    · have hd0' : (d == 0) = false := by simpa using hd0
      simp only [hd0', cond_false]
      exact ⟨_, _, rfl, pn_leaf (hE.c _ m8) (by omega)⟩

theorem number0 (hE : E2 env L) (p : List Int) (k : Nat) (at' : Int) (h0 : 0 ≤ at') (h1 : at' ≤ 2000) : ∃ l i, numberR_k (k + 1) (p, at', 0, ()) = some ((l, i), ()) ∧ PN env L 1 at' ((l, i), ()) :=
  numberR_step hE p at' 0 0 (by omega) (by omega) (by omega) h0 2000 (by omega) h1 (numberR_k k) (fun h => absurd rfl h)
theorem number1 (hE : E2 env L) (p : List Int) (k : Nat) (at' : Int) (h0 : 0 ≤ at') (h1 : at' ≤ 1900) : ∃ l i, numberR_k (k + 2) (p, at', 1, ()) = some ((l, i), ()) ∧ PN env L 3 at' ((l, i), ()) :=
  numberR_step hE p at' 1 1 (by omega) (by omega) (by omega) h0 1900 (by omega) h1 (numberR_k (k + 1)) (fun _ a g0 g1 => number0 hE p k a g0 (by omega))
theorem number2 (hE : E2 env L) (p : List Int) (k : Nat) (at' : Int) (h0 : 0 ≤ at') (h1 : at' ≤ 1800) : ∃ l i, numberR_k (k + 3) (p, at', 2, ()) = some ((l, i), ()) ∧ PN env L 7 at' ((l, i), ()) :=
  numberR_step hE p at' 2 3 (by omega) (by omega) (by omega) h0 1800 (by omega) h1 (numberR_k (k + 2)) (fun _ a g0 g1 => number1 hE p k a g0 (by omega))
theorem number3 (hE : E2 env L) (p : List Int) (k : Nat) (at' : Int) (h0 : 0 ≤ at') (h1 : at' ≤ 1700) : ∃ l i, numberR_k (k + 4) (p, at', 3, ()) = some ((l, i), ()) ∧ PN env L 15 at' ((l, i), ()) :=
  numberR_step hE p at' 3 7 (by omega) (by omega) (by omega) h0 1700 (by omega) h1 (numberR_k (k + 3)) (fun _ a g0 g1 => number2 hE p k a g0 (by omega))
/-- Numbers, by how deep. -/
theorem numberF (hE : E2 env L) (p : List Int) {d : Int} (hd : 0 ≤ d ∧ d ≤ 3) (at' : Int) (h0 : 0 ≤ at') (h1 : at' ≤ 1700) : ∃ l i, numberRF (p, at', d, ()) = some ((l, i), ()) ∧ PN env L (if d = 3 then 15 else 7) at' ((l, i), ()) := by
  obtain rfl | rfl | rfl | rfl : d = 0 ∨ d = 1 ∨ d = 2 ∨ d = 3 := by omega
  · obtain ⟨l, i, h, hp⟩ := number0 hE p 1 at' h0 (by omega)
    exact ⟨l, i, h, hp.mono (by decide)⟩
  · obtain ⟨l, i, h, hp⟩ := number1 hE p 1 at' h0 (by omega)
    exact ⟨l, i, h, hp.mono (by decide)⟩
  · obtain ⟨l, i, h, hp⟩ := number2 hE p 1 at' h0 (by omega)
    exact ⟨l, i, h, hp.mono (by decide)⟩
  · obtain ⟨l, i, h, hp⟩ := number3 hE p 1 at' h0 (by omega)
    exact ⟨l, i, h, hp.mono (by decide)⟩
end Go.Proofs.Ytnhiplibodkciaa
