/- What predicates come to: whatever picks and events come in, the statement comes to true. -/
import Derived.Test.YtnhiplibodkciaaEvT
namespace Go.Proofs.Ytnhiplibodkciaa
open Go.PI Go
variable {env : List Bnd} {L : Nd → Val × Bool}

theorem holds_tree (hF : FvTot sch3 env) {t : Tm} (h : TmOk sch3 env L t) (hl : t.flat.length ≤ 64) : ∃ b, holdsF (sch3, t.flat, env, ()) = some (b, ()) ∧ holdsR (t.flat, env, ()) = some (b, ()) := by
  have hp := flat_pos t
  have hne : ((t.flat.length : Int) == 0) = false := by rw [beq_eq_false_iff_ne]; omega
  obtain ⟨v, hv, hvv⟩ := evalRF_tree h hl
  unfold holdsF holdsF_B holdsR holdsR_B truthV truthV_B
  simp only [Br.run, hne, cond_false, eval_tree hF h hl, hv]
  by_cases c : (evT L t).2 = true
  · obtain rfl := hvv c
    simp only [c, ↓reduceIte, cond_true]
    have hV := evT_VN h c
    generalize (evT L t).1 = a at hV
    cases hV with
    | i m hm => exact ⟨false, rfl, rfl⟩
    | s x => exact ⟨false, rfl, rfl⟩
    | b u => cases u
             · exact ⟨false, rfl, rfl⟩
             · exact ⟨true, rfl, rfl⟩
  · have c' : (evT L t).2 = false := by simpa using c
    simp only [c', Bool.false_eq_true, ↓reduceIte, cond_false]
    exact ⟨false, rfl, rfl⟩

theorem in_small {n : Int} (h : n = 0 ∨ n = 1 ∨ n = 2 ∨ n = 3) : In64 n := by unfold In64; omega

theorem evalMade_at (p : List Int) (a b : Evt) : evalMade (p, a, b, ()) = some (true, ()) := by
  unfold evalMade evalMade_B
  obtain ⟨k1, y1, t1, n1, s1, b1, hk1, hn1, -, he1⟩ := eventR_at a
  obtain ⟨k2, y2, t2, n2, s2, b2, hk2, hn2, -, he2⟩ := eventR_at b
  have hE := e2_ok (y1 := y1) (t1 := t1) (s1 := s1) (b1 := b1) (y2 := y2) (t2 := t2) (s2 := s2) (b2 := b2) hk1 hk2 (in_small hn1) (in_small hn2)
  have hF : FvTot sch3 (env2 k1 y1 t1 n1 s1 b1 k2 y2 t2 n2 s2 b2) := fv_tot _ (show (2 : Nat) ≤ 64 by decide)
  obtain ⟨l, i, hl, t, ht1, ht2, ht3, -, -⟩ := truth2 hE p
  obtain ⟨m, j, hm, u, hu1, hu2, hu3, -, -⟩ := numberF hE p (d := 3) (by omega) 0 (by omega) (by omega)
  dsimp only at ht2 hu2
  subst ht2 hu2
  have hu3 : u.flat.length ≤ 15 := hu3
  have ht64 : t.flat.length ≤ 64 := by omega
  have hu64 : u.flat.length ≤ 64 := by omega
  have et := eval_tree hF ht1 ht64
  have eu := eval_tree hF hu1 hu64
  obtain ⟨v, rt, hv⟩ := evalRF_tree ht1 ht64
  obtain ⟨w, ru, hw⟩ := evalRF_tree hu1 hu64
  obtain ⟨hb, hh, hr⟩ := holds_tree hF ht1 ht64
  have nt : ¬ ((t.flat.length : Int) > 64) := by omega
  have nu : ¬ ((u.flat.length : Int) > 64) := by omega
  simp only [Br.run, typesR_at, newS_T3, he1, he2, hl, hm, decide_eq_false nt, decide_eq_false nu, cond_false, et, eu, rt, ru, awake14_at, cond_true, hh, hr, beq_self_eq_true]
  by_cases ct : (evT (LM n1 n2 s1 s2) t).2 = true
  · obtain rfl := hv ct
    by_cases cu : (evT (LM n1 n2 s1 s2) u).2 = true
    · obtain rfl := hw cu
      simp only [ct, cu, ↓reduceIte, beq_self_eq_true, cond_true, Bool.not_true, cond_false, decide_true, Bool.and_self]
    · have cu' : (evT (LM n1 n2 s1 s2) u).2 = false := by simpa using cu
      simp only [ct, cu', Bool.false_eq_true, ↓reduceIte, beq_self_eq_true, cond_true, Bool.not_true, Bool.not_false, cond_false, decide_true, Bool.and_self]
  · have ct' : (evT (LM n1 n2 s1 s2) t).2 = false := by simpa using ct
    by_cases cu : (evT (LM n1 n2 s1 s2) u).2 = true
    · obtain rfl := hw cu
      simp only [ct', cu, Bool.false_eq_true, ↓reduceIte, beq_self_eq_true, cond_true, Bool.not_true, Bool.not_false, cond_false, decide_true, Bool.and_self]
    · have cu' : (evT (LM n1 n2 s1 s2) u).2 = false := by simpa using cu
      simp only [ct', cu', Bool.false_eq_true, ↓reduceIte, beq_self_eq_true, cond_true, Bool.not_true, Bool.not_false, cond_false, decide_true, Bool.and_self]
end Go.Proofs.Ytnhiplibodkciaa
