/- Predicates made by picks are trees, that come to truths. -/
import Derived.Test.YtnhiplibodkciaaEvS
namespace Go.Proofs.Ytnhiplibodkciaa
open Go.PI Go
variable {env : List Bnd} {L : Nd → Val × Bool}

theorem tmod6 (x : Int) (h : 0 ≤ x) : 0 ≤ Int.tmod x 6 ∧ Int.tmod x 6 ≤ 5 := by
  have h1 := Int.tmod_nonneg 6 h
  have h2 := Int.tmod_lt_of_pos x (show (0 : Int) < 6 by decide)
  omega

theorem vc_s {k : Int} (h : k = 0 ∨ k = 1 ∨ k = 2) : VC (sV (List.getD (List.set (List.set (List.set (List.replicate 3 ByteArray.empty) 0 { data := #[117] }) 1 { data := #[118] }) 2 { data := #[105, 116, 39, 115] }) (Int.toNat k) ByteArray.empty)) := by
  rcases h with rfl | rfl | rfl
  · exact ⟨.s _, (show (0 : Int) ≠ -9223372036854775808 by decide), (show (1 : Nat) ≤ 64 by decide)⟩
  · exact ⟨.s _, (show (0 : Int) ≠ -9223372036854775808 by decide), (show (1 : Nat) ≤ 64 by decide)⟩
  · exact ⟨.s _, (show (0 : Int) ≠ -9223372036854775808 by decide), (show (4 : Nat) ≤ 64 by decide)⟩
theorem vc_b (b : Bool) : VC (bV b) := ⟨.b b, (show (0 : Int) ≠ -9223372036854775808 by decide), (show (0 : Nat) ≤ 64 by decide)⟩

theorem small80 {a b : Nat} (ha : a ≤ 40) (hb : b ≤ 40) : (a + b + 1) * 80 ≤ 140737488355328 := by omega
theorem small80' {a b : Nat} (ha : a ≤ 40) (hb : b ≤ 40) : (a + b) * 80 ≤ 140737488355328 := by omega
theorem small80a {a b : List Nd} (ha : a.length ≤ 40) (hb : b.length ≤ 40) : ((a ++ b).length + 1) * 80 ≤ 140737488355328 := by
  rw [List.length_append]
  exact small80 ha hb

set_option maxHeartbeats 400000 in
theorem truthR_step (hE : E2 env L) (p : List Int) (at' d : Int) (m : Nat) (hm : m ≤ 40) (hm7 : 7 ≤ m) (hd : 0 ≤ d) (hd3 : d ≤ 2) (h0 : 0 ≤ at') (B : Int) (hB : B ≤ 1500) (h1 : at' ≤ B)
    (G : (List Int) × (Int × (Int × Unit)) → Option ((List Nd × Int) × Unit)) (hG : d ≠ 0 → ∀ at', 0 ≤ at' → at' ≤ B + 100 → ∃ l k, G (p, at', d - 1, ()) = some ((l, k), ()) ∧ PN env L m at' ((l, k), ())) :
    ∃ l k, truthR G (p, at', d, ()) = some ((l, k), ()) ∧ PN env L (2 * m + 1) at' ((l, k), ()) := by
  show ∃ l k, (truthR_B G (p, at', d, ())).run = some ((l, k), ()) ∧ _
  unfold truthR_B
  have hw : IntKind.wrap .i64 (at' + 1) = at' + 1 := wrap_small (by omega) (by omega)
  have hwd : IntKind.wrap .i64 (d - 1) = d - 1 := wrap_small (by omega) (by omega)
  have hmin : (if 2 < d then 2 else d) = d := if_neg (by omega)
  have hx := mask_in (List.getD p (Int.toNat at') 0) 65535 (by decide) (by decide)
  dsimp only
  generalize IntKind.wrap IntKind.i64 (↑(BitVec.toNat (BitVec.ofInt (IntKind.bits IntKind.i64) (List.getD p (Int.toNat at') 0) &&& BitVec.ofInt (IntKind.bits IntKind.i64) 65535)) : Int) = x at hx ⊢
  have hq : 0 ≤ Int.fdiv x (2 ^ min (Int.toNat 4) (IntKind.bits IntKind.i64)) := Int.fdiv_nonneg hx.1 (by decide)
  generalize Int.fdiv x (2 ^ min (Int.toNat 4) (IntKind.bits IntKind.i64)) = q at hq ⊢
  have hr : 0 ≤ Int.fdiv x (2 ^ min (Int.toNat 6) (IntKind.bits IntKind.i64)) := Int.fdiv_nonneg hx.1 (by decide)
  generalize Int.fdiv x (2 ^ min (Int.toNat 6) (IntKind.bits IntKind.i64)) = r at hr ⊢
  have hs : 0 ≤ Int.fdiv x (2 ^ min (Int.toNat 8) (IntKind.bits IntKind.i64)) := Int.fdiv_nonneg hx.1 (by decide)
  generalize Int.fdiv x (2 ^ min (Int.toNat 8) (IntKind.bits IntKind.i64)) = s at hs ⊢
  have hC := mask_in q 1 (by decide) (by decide)
  generalize IntKind.wrap IntKind.i64 (↑(BitVec.toNat (BitVec.ofInt (IntKind.bits IntKind.i64) q &&& BitVec.ofInt (IntKind.bits IntKind.i64) 1)) : Int) = C at hC ⊢
  have hY := tmod3 q hq
  generalize Int.tmod q 3 = Y at hY ⊢
  have hZ := tmod3 r hr
  generalize Int.tmod r 3 = Z at hZ ⊢
  have hU := tmod6 q hq
  generalize Int.tmod q 6 = U at hU ⊢
  have hV := tmod6 s hs
  generalize Int.tmod s 6 = V at hV ⊢
  generalize Int.tmod x 7 = X
  have hwC : IntKind.wrap .i64 (14 + C) = 14 + C := wrap_small (by omega) (by omega)
  have hwU : IntKind.wrap .i64 (7 + U) = 7 + U := wrap_small (by omega) (by omega)
  have hwV : IntKind.wrap .i64 (7 + V) = 7 + V := wrap_small (by omega) (by omega)
  have hYb : (decide (0 ≤ Y) && decide (Y < (↑(List.length (List.set (List.set (List.set (List.replicate 3 ByteArray.empty) 0 { data := #[97] }) 1 { data := #[98] }) 2 { data := #[99] })) : Int))) = true := by rcases hY with rfl | rfl | rfl <;> rfl
  have hZb : (decide (0 ≤ Z) && decide (Z < (↑(List.length (List.set (List.set (List.set (List.replicate 3 ByteArray.empty) 0 { data := #[117] }) 1 { data := #[118] }) 2 { data := #[105, 116, 39, 115] })) : Int))) = true := by rcases hZ with rfl | rfl | rfl <;> rfl
  have h70 : IntKind.wrap .i64 (7 + Int.tmod (Int.fdiv 0 (2 ^ min (Int.toNat 4) (IntKind.bits IntKind.i64))) 6) = 7 := by decide
  have hn7 : (if d = 3 then 15 else 7) = 7 := if_neg (by omega)
  -- two numbers
  obtain ⟨a, i, hGa, hPa⟩ := numberF hE p (d := d) ⟨hd, by omega⟩ (at' + 1) (by omega) (by omega)
  rw [hn7] at hPa
  obtain ⟨a1, a2, a3⟩ := hPa.len
  obtain ⟨b, j, hGb, hPb⟩ := numberF hE p (d := d) ⟨hd, by omega⟩ i (by omega) (by omega)
  rw [hn7] at hPb
  obtain ⟨b1, b2, b3⟩ := hPb.len
  have num : ∀ op : Int, (4 ≤ op ∧ op ≤ 15 ∧ op ≠ 13) → PN env L (2 * m + 1) at' ((a ++ b ++ [nO op], j), ()) := fun op ho => (pn_bin (op := op) hPa hPb ho).mono (by omega)
  have nb1 : (a.length + b.length) * 80 ≤ 140737488355328 := small80' (by omega) (by omega)
  have nb2 : ((a ++ b).length + 1) * 80 ≤ 140737488355328 := small80a (by omega) (by omega)
  rw [h70]
  simp only [hw, hwd, hmin, hwC, hwU, hwV]
  by_cases hlt : at' < (p.length : Int)
  · simp only [Br.run, decide_eq_true hlt, decide_eq_true h0, Bool.and_self, cond_true, cond_false, hYb, hZb, hGa, hGb]
    by_cases h6 : (X == 6) = true
    · simp only [h6, cond_true]
      exact ⟨_, _, rfl, pn_leaf (hE.c _ (vc_b _)) (by omega)⟩
    have h6' : (X == 6) = false := by simpa using h6
    simp only [h6', cond_false]
    by_cases h5 : (X == 5) = true
    · simp only [h5, cond_true]
      refine ⟨_, _, rfl, .bin (nO (7 + V)) (.leaf _) (.leaf _), ⟨nodeOk_O (by omega) (by omega), by show 4 ≤ 7 + V ∧ 7 + V ≤ 15 ∧ 7 + V ≠ 13; omega, hE.s Y hY, hE.c _ (vc_s hZ)⟩, rfl, ?_, ?_, ?_⟩
      · show 3 ≤ 2 * m + 1; omega
      · dsimp only; omega
      · dsimp only; omega
    have h5' : (X == 5) = false := by simpa using h5
    simp only [h5', cond_false]
    by_cases hd0 : d = 0
    · have hd0' : (d == 0) = true := by simpa using hd0
      simp only [hd0', cond_true, Bool.cond_decide]
      exact ⟨_, _, (if_pos nb1).trans (if_pos nb2), num (7 + U) (by omega)⟩
    have hd0' : (d == 0) = false := by simpa using hd0
    simp only [hd0', cond_false]
    by_cases h2 : X < 2
    · simp only [decide_eq_true h2, cond_true, Bool.cond_decide]
      exact ⟨_, _, (if_pos nb1).trans (if_pos nb2), num (7 + U) (by omega)⟩
    simp only [decide_eq_false h2, cond_false]
    obtain ⟨l, k, hGl, hPl⟩ := hG hd0 (at' + 1) (by omega) (by omega)
    obtain ⟨q1, q2, q3⟩ := hPl.len
    simp only [hGl, Br.run]
    by_cases h3 : (X == 2) = true
    · simp only [h3, cond_true, cond_false, Bool.cond_decide]
      refine ⟨_, _, if_pos ?_, (pn_un hPl (.inr rfl)).mono (by omega)⟩
      exact small80 (b := 0) (Nat.le_trans q1 hm) (by decide)
    · have h3' : (X == 2) = false := by simpa using h3
      obtain ⟨r', i', hGr, hPr⟩ := hG hd0 k (by omega) (by omega)
      obtain ⟨g1, g2, g3⟩ := hPr.len
      simp only [h3', cond_false, hGr, Br.run, cond_true, Bool.cond_decide]
      refine ⟨_, _, (if_pos ?_).trans (if_pos ?_), (pn_bin (op := 14 + C) hPl hPr (by omega)).mono (by omega)⟩
      · exact small80' (Nat.le_trans q1 hm) (Nat.le_trans g1 hm)
      · exact small80a (Nat.le_trans q1 hm) (Nat.le_trans g1 hm)
  · simp only [Br.run, decide_eq_false hlt, cond_true, cond_false, hGa, hGb, Bool.cond_decide]
    by_cases hd0 : d = 0
    · have hd0' : (d == 0) = true := by simpa using hd0
      simp only [hd0', cond_true, cond_false, Bool.cond_decide]
      exact ⟨_, _, (if_pos nb1).trans (if_pos nb2), num 7 (by omega)⟩
    · have hd0' : (d == 0) = false := by simpa using hd0
      simp only [hd0', cond_true, cond_false, Bool.cond_decide]
      exact ⟨_, _, (if_pos nb1).trans (if_pos nb2), num 7 (by omega)⟩

theorem truth2 (hE : E2 env L) (p : List Int) : ∃ l i, truthRF (p, 0, 2, ()) = some ((l, i), ()) ∧ PN env L 63 0 ((l, i), ()) := by
  have t0 : ∀ k (at' : Int), 0 ≤ at' → at' ≤ 1200 → ∃ l i, truthR_k (k + 1) (p, at', 0, ()) = some ((l, i), ()) ∧ PN env L 15 at' ((l, i), ()) := fun k at' h0 h1 =>
    truthR_step hE p at' 0 7 (by omega) (by omega) (by omega) (by omega) h0 1200 (by omega) h1 (truthR_k k) (fun h => absurd rfl h)
  have t1 : ∀ k (at' : Int), 0 ≤ at' → at' ≤ 1100 → ∃ l i, truthR_k (k + 2) (p, at', 1, ()) = some ((l, i), ()) ∧ PN env L 31 at' ((l, i), ()) := fun k at' h0 h1 =>
    truthR_step hE p at' 1 15 (by omega) (by omega) (by omega) (by omega) h0 1100 (by omega) h1 (truthR_k (k + 1)) (fun _ a g0 g1 => t0 k a g0 (by omega))
  exact truthR_step hE p 0 2 31 (by omega) (by omega) (by omega) (by omega) (by omega) 1000 (by omega) (by omega) (truthR_k 3) (fun _ a g0 g1 => t1 1 a g0 (by omega))
end Go.Proofs.Ytnhiplibodkciaa
