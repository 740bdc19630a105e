/- Predicates as trees: what the reference comes to, from the root on. -/
import Derived.Test.YtnhiplibodkciaaEvP
namespace Go.Proofs.Ytnhiplibodkciaa
open Go.PI Go
variable {s : Sch} {env : List Bnd} {L : Nd → Val × Bool}

theorem partsR_at (op : Int) : partsR (op, ()) = some (pt op, ()) := by
  unfold partsR partsR_B pt
  simp only [Br.run, cond_eq_ite, beq_iff_eq, decide_eq_true_eq, ge_iff_le]
  repeat' split
  all_goals first | rfl | omega

abbrev nZ : Nd := (0, (0, 0, ByteArray.empty, false), ByteArray.empty, ByteArray.empty)
theorem get_mid (l pre post : List Nd) (n : Nd) (h : l = pre ++ n :: post) : List.getD l (Int.toNat (pre.length : Int)) nZ = n := by
  subst h
  have e : Int.toNat (pre.length : Int) = pre.length := by omega
  rw [e]
  simp [List.getD]

theorem evalR_tree : ∀ {t : Tm}, TmOk s env L t → ∀ (l pre post : List Nd) (k : Nat), l = pre ++ t.flat ++ post → l.length ≤ 64 → t.flat.length ≤ k →
    ∃ v, evalR_k k (l, env, (pre.length : Int) + t.flat.length - 1, ()) = some ((v, (evT L t).2, (pre.length : Int)), ()) ∧ ((evT L t).2 = true → v = (evT L t).1)
  | t, h, l, pre, post, 0, hl, h64, hk => by have := flat_pos t; omega
  | .leaf n, h, l, pre, post, k + 1, hl, h64, hk => by
    have ei : (pre.length : Int) + (Tm.leaf n).flat.length - 1 = pre.length := by simp [Tm.flat]
    have hl' : l = pre ++ n :: post := by rw [hl]; simp [Tm.flat]
    have hlen : (pre.length : Int) < (l.length : Int) := by rw [hl']; simp; omega
    rw [ei]
    have hn := get_mid l pre post n hl'
    show ∃ v, (evalR_B (evalR_k k) (l, env, (pre.length : Int), ())).run = _ ∧ _
    unfold evalR_B
    have q0 : ¬ ((pre.length : Int) < 0) := by omega
    have q1 : (0 : Int) ≤ (pre.length : Int) := by omega
    simp only [Br.run, decide_eq_false q0, cond_false, decide_eq_true q1, decide_eq_true hlen, Bool.and_self, cond_true, hn, partsR_at, pt_one h.op, beq_self_eq_true]
    rcases h.op with h1 | h2
    · have b1 : (n.1 == 1) = true := by rw [h1]; rfl
      have hc := h.c h1
      simp only [b1, cond_true, evT, hc]
      exact ⟨_, rfl, fun _ => rfl⟩
    · have b1 : (n.1 == 1) = false := by rw [h2]; rfl
      obtain ⟨z, hz, hzz⟩ := h.r h2 (pre.length : Int)
      have hz' : evalR_w0 (env, (pre.length : Int), 0, (0, 0, ByteArray.empty, false), n, ()) = some z := hz
      simp only [b1, cond_false, hz', Br.run]
      rcases hzz with ⟨v, rfl, hv⟩ | ⟨v, rfl, hv⟩
      · exact ⟨v, rfl, hv⟩
      · refine ⟨zV, ?_, fun q => ?_⟩
        · simp only [evT, hv]
          rfl
        · simp only [evT, hv] at q; cases q
  | .un n t, h, l, pre, post, k + 1, hl, h64, hk => by
    have hop := h.2.1
    have hfl : (Tm.un n t).flat.length = t.flat.length + 1 := by simp [Tm.flat]
    have hl1 : l = pre ++ t.flat ++ (n :: post) := by rw [hl]; simp [Tm.flat]
    have hl2 : l = (pre ++ t.flat) ++ n :: post := hl1
    have ei : (pre.length : Int) + (Tm.un n t).flat.length - 1 = ((pre ++ t.flat).length : Nat) := by rw [hfl, List.length_append]; omega
    have hlen : (((pre ++ t.flat).length : Nat) : Int) < (l.length : Int) := by rw [hl2]; simp only [List.length_append, List.length_cons]; omega
    rw [ei]
    have hn := get_mid l (pre ++ t.flat) post n hl2
    obtain ⟨v, hv, hvv⟩ := evalR_tree h.2.2 l pre (n :: post) k hl1 h64 (by omega)
    show ∃ v, (evalR_B (evalR_k k) (l, env, (((pre ++ t.flat).length : Nat) : Int), ())).run = _ ∧ _
    have hw : IntKind.wrap .i64 ((((pre ++ t.flat).length : Nat) : Int) - 1) = (pre.length : Int) + t.flat.length - 1 := by
      have hle : (pre ++ t.flat).length ≤ l.length := by rw [hl2]; simp only [List.length_append, List.length_cons]; omega
      rw [wrap_small (by omega) (by omega), List.length_append]; omega
    unfold evalR_B
    have q0 : ¬ ((((pre ++ t.flat).length : Nat) : Int) < 0) := by omega
    have q1 : (0 : Int) ≤ (((pre ++ t.flat).length : Nat) : Int) := by omega
    have p1 : ((1 : Int) == 0) = false := rfl
    simp only [Br.run, decide_eq_false q0, cond_false, decide_eq_true q1, decide_eq_true hlen, Bool.and_self, cond_true, hn, partsR_at, pt_un h.2.1, p1, beq_self_eq_true, hw, hv, cond_eq_ite]
    simp only [evT]
    by_cases c : (evT L t).2 = true
    · obtain rfl := hvv c
      have hVN := evT_VN h.2.2 c
      simp only [c, ↓reduceIte]
      rcases hop with h3 | h13
      · have b13 : (n.1 == 13) = false := by rw [h3]; rfl
        simp only [b13, Bool.false_eq_true, ↓reduceIte, h3]
        generalize (evT L t).1 = a at hVN
        cases hVN with
        | i m hm =>
          simp only [beq_self_eq_true, ↓reduceIte, un, okV]
          by_cases hmin : m = -9223372036854775808
          · subst hmin
            exact ⟨_, rfl, fun q => by cases q⟩
          · obtain ⟨m1, m2⟩ := hm
            have w : IntKind.wrap .i64 (0 - m) = -m := by rw [wrap_small (by omega) (by omega)]; omega
            have b : (m != -9223372036854775808) = true := by rw [bne_iff_ne]; exact hmin
            simp only [w, b, ne_eq, hmin, not_false_eq_true, and_self, decide_true, ↓reduceIte]
            exact ⟨_, rfl, fun _ => rfl⟩
        | s x => exact ⟨_, rfl, fun q => by cases q⟩
        | b x => exact ⟨_, rfl, fun q => by cases q⟩
      · have b13 : (n.1 == 13) = true := by rw [h13]; rfl
        simp only [b13, ↓reduceIte, h13]
        generalize (evT L t).1 = a at hVN
        cases hVN with
        | i m hm => exact ⟨_, rfl, fun q => by cases q⟩
        | s x => exact ⟨_, rfl, fun q => by cases q⟩
        | b x => exact ⟨_, rfl, fun q => rfl⟩
    · have c' : (evT L t).2 = false := by simpa using c
      simp only [c', Bool.false_eq_true, ↓reduceIte]
      by_cases b13 : (n.1 == 13) = true
      · simp only [b13, ↓reduceIte]
        exact ⟨_, rfl, fun q => by cases q⟩
      · simp only [b13, Bool.false_eq_true, ↓reduceIte]
        exact ⟨_, rfl, fun q => by cases q⟩
  | .bin n a b, h, l, pre, post, k + 1, hl, h64, hk => by
    have hop := h.2.1
    have hfl : (Tm.bin n a b).flat.length = a.flat.length + b.flat.length + 1 := by simp [Tm.flat]; omega
    have hl1 : l = (pre ++ a.flat) ++ b.flat ++ (n :: post) := by rw [hl]; simp [Tm.flat]
    have hl0 : l = pre ++ a.flat ++ (b.flat ++ n :: post) := by rw [hl]; simp [Tm.flat]
    have hl2 : l = (pre ++ a.flat ++ b.flat) ++ n :: post := hl1
    have ei : (pre.length : Int) + (Tm.bin n a b).flat.length - 1 = ((pre ++ a.flat ++ b.flat).length : Nat) := by rw [hfl]; simp only [List.length_append]; omega
    have hlen : (((pre ++ a.flat ++ b.flat).length : Nat) : Int) < (l.length : Int) := by rw [hl2]; simp only [List.length_append, List.length_cons]; omega
    rw [ei]
    have hn := get_mid l (pre ++ a.flat ++ b.flat) post n hl2
    have hpa := flat_pos a
    have hpb := flat_pos b
    obtain ⟨v, hv, hvv⟩ := evalR_tree h.2.2.2 l (pre ++ a.flat) (n :: post) k hl1 h64 (by omega)
    obtain ⟨u, hu, huu⟩ := evalR_tree h.2.2.1 l pre (b.flat ++ n :: post) k hl0 h64 (by omega)
    show ∃ v, (evalR_B (evalR_k k) (l, env, (((pre ++ a.flat ++ b.flat).length : Nat) : Int), ())).run = _ ∧ _
    have hle : (pre ++ a.flat ++ b.flat).length ≤ l.length := by rw [hl2]; simp only [List.length_append, List.length_cons]; omega
    have hle' : (pre ++ a.flat ++ b.flat).length = (pre ++ a.flat).length + b.flat.length := by simp only [List.length_append]
    have hle2 : (pre ++ a.flat).length = pre.length + a.flat.length := by simp only [List.length_append]
    have hw : IntKind.wrap .i64 ((((pre ++ a.flat ++ b.flat).length : Nat) : Int) - 1) = ((pre ++ a.flat).length : Int) + b.flat.length - 1 := by
      rw [wrap_small (by omega) (by omega)]; omega
    have hw2 : IntKind.wrap .i64 ((((pre ++ a.flat).length : Nat) : Int) - 1) = (pre.length : Int) + a.flat.length - 1 := by
      rw [wrap_small (by omega) (by omega)]; omega
    unfold evalR_B
    have q0 : ¬ ((((pre ++ a.flat ++ b.flat).length : Nat) : Int) < 0) := by omega
    have q1 : (0 : Int) ≤ (((pre ++ a.flat ++ b.flat).length : Nat) : Int) := by omega
    have p1 : ((2 : Int) == 0) = false := rfl
    have p2 : ((2 : Int) == 1) = false := rfl
    simp only [Br.run, decide_eq_false q0, cond_false, decide_eq_true q1, decide_eq_true hlen, Bool.and_self, cond_true, hn, partsR_at, pt_bin h.2.1, p1, p2, hw, hv, hw2, hu, cond_eq_ite]
    simp only [evT]
    by_cases ca : (evT L a).2 = true
    · by_cases cb : (evT L b).2 = true
      · obtain rfl := hvv cb
        obtain rfl := huu ca
        have hVa := evT_VN h.2.2.1 ca
        have hVb := evT_VN h.2.2.2 cb
        simp only [ca, cb, Bool.not_true, Bool.false_eq_true, and_self, ↓reduceIte]
        by_cases he : (evT L a).1.1 = (evT L b).1.1
        · have hne : ((evT L a).1.1 != (evT L b).1.1) = false := by rw [he]; simp
          obtain ⟨w, hw', hww⟩ := both_at h.2.1.1 h.2.1.2.1 h.2.1.2.2 hVa hVb he
          simp only [hne, Bool.false_eq_true, ↓reduceIte, hw', Br.run]
          exact ⟨_, rfl, hww⟩
        · have hne : ((evT L a).1.1 != (evT L b).1.1) = true := by rw [bne_iff_ne]; exact he
          simp only [hne, ↓reduceIte, bi, he]
          exact ⟨_, rfl, fun q => by cases q⟩
      · have cb' : (evT L b).2 = false := by simpa using cb
        simp only [ca, cb', Bool.not_true, Bool.not_false, Bool.false_eq_true, and_false, ↓reduceIte]
        exact ⟨_, rfl, fun q => by cases q⟩
    · have ca' : (evT L a).2 = false := by simpa using ca
      simp only [ca', Bool.not_false, Bool.false_eq_true, false_and, ↓reduceIte]
      exact ⟨_, rfl, fun q => by cases q⟩

theorem evalRF_tree {t : Tm} (h : TmOk s env L t) (h64 : t.flat.length ≤ 64) :
    ∃ v, evalRF (t.flat, env, IntKind.wrap .i64 ((t.flat.length : Int) - 1), ()) = some ((v, (evT L t).2, 0), ()) ∧ ((evT L t).2 = true → v = (evT L t).1) := by
  have hp := flat_pos t
  have hw : IntKind.wrap .i64 ((t.flat.length : Int) - 1) = (([] : List Nd).length : Int) + t.flat.length - 1 := by
    rw [wrap_small (by omega) (by omega)]; simp
  rw [hw]
  obtain ⟨v, hv, hvv⟩ := evalR_tree h t.flat [] [] ((((([] : List Nd).length : Int) + t.flat.length - 1).toNat + 3)) (by simp) h64 (by simp; omega)
  exact ⟨v, hv, hvv⟩
end Go.Proofs.Ytnhiplibodkciaa
