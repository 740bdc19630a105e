/- What Eval comes to: part by part, on a stack. -/
import Derived.Test.YtnhiplibodkciaaEvF
namespace Go.Proofs.Ytnhiplibodkciaa
open Go.PI Go

def FvTot (s : Sch) (env : List Bnd) : Prop := ∀ n : Nd, ∃ v b, fieldV (s, env, n, ()) = some ((v, b), ())
def optV : Option ((Val × Bool) × Unit) → Option Val
  | some ((v, true), ()) => some v
  | _ => none
noncomputable def valS (s : Sch) (env : List Bnd) (st : List Val) (n : Nd) : Option Val :=
  if n.1 = 1 then some n.2.1 else if n.1 = 2 then optV (fieldV (s, env, n, ())) else optV (applyE (n.1, st.drop (st.length - (pt n.1).toNat), ()))
noncomputable def foldS (s : Sch) (env : List Bnd) : List Val → List Nd → Option (List Val)
  | st, [] => some st
  | st, n :: r => match valS s env st n with
    | some v => foldS s env (st.take (st.length - (pt n.1).toNat) ++ [v]) r
    | none => none

theorem pt_one {op : Int} (h : op = 1 ∨ op = 2) : pt op = 0 := by rcases h with rfl | rfl <;> rfl

theorem push_eq (st : List Val) (q : Int) (v : Val) (h0 : 0 ≤ q) (h1 : q ≤ st.length) : List.take (Int.toNat ((st.length : Int) - q) - Int.toNat 0) (List.drop (0 + Int.toNat 0) st) ++ List.set (List.replicate 1 (0, 0, ByteArray.empty, false)) 0 v = st.take (st.length - q.toNat) ++ [v] := by
  have e : Int.toNat ((st.length : Int) - q) - Int.toNat 0 = st.length - q.toNat := by omega
  rw [e]
  rfl
theorem pop_eq (st : List Val) (q : Int) (h0 : 0 ≤ q) (h1 : q ≤ st.length) : List.take (Int.toNat (st.length : Int) - Int.toNat ((st.length : Int) - q)) (List.drop (0 + Int.toNat ((st.length : Int) - q)) st) = st.drop (st.length - q.toNat) := by
  have e : 0 + Int.toNat ((st.length : Int) - q) = st.length - q.toNat := by omega
  rw [e]
  refine List.take_of_length_le ?_
  rw [List.length_drop]
  omega

theorem evalE_w0_at {s : Sch} {env : List Bnd} (hF : FvTot s env) (l : List Nd) (hl : l.length ≤ 64) (v : Val) (i : Int) (st : List Val) (h0 : 0 ≤ i) (h1 : i ≤ l.length) (h2 : (st.length : Int) ≤ i) (h3 : runD st.length (l.drop i.toNat) ≠ none) :
    evalE_w0 (s, env, l, (l.length : Int), i, v, st, ()) = some (match foldS s env st (l.drop i.toNat) with | none => .inl (zV, ()) | some st' => .inr (v, st', ())) := by
  suffices h : ∃ z, evalE_w0 (s, env, l, (l.length : Int), i, v, st, ()) = some z ∧ z = (match foldS s env st (l.drop i.toNat) with | none => .inl (zV, ()) | some st' => .inr (v, st', ())) by
    obtain ⟨z, h, rfl⟩ := h
    exact h
  refine iterO_rec (step := fun x => (evalE_l0 x).run) (Q := fun x z => z = (match foldS s env x.2.2.2.2.2.2.1 (l.drop x.2.2.2.2.1.toNat) with | none => .inl (zV, ()) | some st' => .inr (v, st', ())))
    (fun x => x.1 = s ∧ x.2.1 = env ∧ x.2.2.1 = l ∧ x.2.2.2.1 = (l.length : Int) ∧ 0 ≤ x.2.2.2.2.1 ∧ x.2.2.2.2.1 ≤ l.length ∧ x.2.2.2.2.2.1 = v ∧ (x.2.2.2.2.2.2.1.length : Int) ≤ x.2.2.2.2.1 ∧ runD x.2.2.2.2.2.2.1.length (l.drop x.2.2.2.2.1.toNat) ≠ none)
    (fun x => ((l.length : Int) - x.2.2.2.2.1).toNat) ?_ _ ⟨rfl, rfl, rfl, rfl, h0, h1, rfl, h2, h3⟩
  rintro ⟨s', env', l', n, i, v', st, ⟨⟩⟩ hx
  dsimp only at hx ⊢
  obtain ⟨rfl, rfl, rfl, rfl, h0, h1, rfl, h2, h3⟩ := hx
  unfold evalE_l0
  by_cases hi : i < (l'.length : Int)
  · have hw : IntKind.wrap .i64 (i + 1) = i + 1 := wrap_small (by omega) (by omega)
    rw [drop_get l' i (0, (0, 0, ByteArray.empty, false), ByteArray.empty, ByteArray.empty) h0 hi] at h3 ⊢
    generalize hnd : l'.getD i.toNat (0, (0, 0, ByteArray.empty, false), ByteArray.empty, ByteArray.empty) = nd at h3 ⊢
    simp only [runD] at h3
    have p1 : ¬ pt nd.1 < 0 := fun h => by simp only [h, ↓reduceIte] at h3; exact h3 rfl
    simp only [p1, ↓reduceIte] at h3
    have p2 : ¬ nodeOk nd = false := fun h => by simp only [h, ↓reduceIte] at h3; exact h3 rfl
    simp only [p2, ↓reduceIte] at h3
    have p3 : ¬ (st.length : Int) < pt nd.1 := fun h => by simp only [h, ↓reduceIte] at h3; exact h3 rfl
    simp only [p3, ↓reduceIte] at h3
    obtain ⟨hp2, hp1⟩ := pt_le nd.1
    have hq : IntKind.wrap .i64 ((st.length : Int) - pt nd.1) = (st.length : Int) - pt nd.1 := wrap_small (by omega) (by omega)
    have f1 : 0 ≤ (st.length : Int) - pt nd.1 := by omega
    have f2 : (st.length : Int) - pt nd.1 ≤ (st.length : Int) := by omega
    have c2 : (decide (0 ≤ (st.length : Int) - pt nd.1) && decide ((st.length : Int) - pt nd.1 ≤ (st.length : Int)) && decide ((st.length : Int) ≤ (st.length : Int))) = true := by simp; omega
    have c3 : ∀ v : Val, (decide ((List.length (List.take (Int.toNat ((st.length : Int) - pt nd.1) - Int.toNat 0) (List.drop (0 + Int.toNat 0) st)) + List.length (List.set (List.replicate 1 ((0, 0, ByteArray.empty, false) : Val)) 0 v)) * 40 ≤ 140737488355328) && decide (0 < List.length (List.set (List.replicate 1 ((0, 0, ByteArray.empty, false) : Val)) 0 v))) = true := by
      intro v
      have e1 : (List.set (List.replicate 1 ((0, 0, ByteArray.empty, false) : Val)) 0 v).length = 1 := rfl
      have e2 : (List.take (Int.toNat ((st.length : Int) - pt nd.1) - Int.toNat 0) (List.drop (0 + Int.toNat 0) st)).length ≤ st.length := by
        rw [List.length_take, List.length_drop]; omega
      rw [e1]
      simp only [Bool.and_eq_true, decide_eq_true_eq]
      omega
    have hnext : ∀ w : Val, valS s' env' st nd = some w → (0 ≤ i + 1 ∧ i + 1 ≤ (l'.length : Int) ∧ (((st.take (st.length - (pt nd.1).toNat) ++ [w]).length : Nat) : Int) ≤ i + 1 ∧ runD ((st.take (st.length - (pt nd.1).toNat) ++ [w]).length : Nat) (l'.drop (i + 1).toNat) ≠ none) := by
      intro w _
      have e : (((st.take (st.length - (pt nd.1).toNat) ++ [w]).length : Nat) : Int) = st.length + 1 - pt nd.1 := by
        rw [List.length_append, List.length_take, List.length_singleton]; omega
      rw [e]
      exact ⟨by omega, by omega, by omega, h3⟩
    simp only [Br.run, decide_eq_true hi, decide_eq_true h0, Bool.and_self, cond_true, hw, hnd, partsT_at, hq]
    by_cases o1 : nd.1 = 1
    · have b1 : (nd.1 == 1) = true := by rw [o1]; rfl
      have hv : valS s' env' st nd = some nd.2.1 := by unfold valS; rw [if_pos o1]
      simp only [b1, cond_true, decide_eq_true f1, decide_eq_true f2, decide_eq_true (Nat.le_refl 0), decide_eq_true (Int.le_refl 0), decide_true, Bool.and_self, c3, push_eq st (pt nd.1) nd.2.1 (by omega) (by omega)]
      obtain ⟨g1, g2, g3, g4⟩ := hnext _ hv
      refine .inl ⟨_, rfl, ?_, ?_, ?_⟩
      · exact ⟨rfl, rfl, rfl, rfl, g1, g2, rfl, g3, g4⟩
      · dsimp only; omega
      · intro z hz
        rw [hz, foldS, hv]
    · have b1 : (nd.1 == 1) = false := by rw [beq_eq_false_iff_ne]; exact o1
      by_cases o2 : nd.1 = 2
      · have b2 : (nd.1 == 2) = true := by rw [o2]; rfl
        obtain ⟨w, t, hf⟩ := hF nd
        simp only [b1, b2, cond_true, cond_false, hf, Br.run]
        cases t with
        | false =>
          have hv : valS s' env' st nd = none := by unfold valS; rw [if_neg o1, if_pos o2, hf]; rfl
          refine .inr ⟨_, rfl, ?_⟩
          rw [foldS, hv]
        | true =>
          have hv : valS s' env' st nd = some w := by unfold valS; rw [if_neg o1, if_pos o2, hf]; rfl
          simp only [Bool.not_true, cond_false, decide_eq_true f1, decide_eq_true f2, decide_eq_true (Nat.le_refl 0), decide_eq_true (Int.le_refl 0), decide_true, Bool.and_self, c3, cond_true, push_eq st (pt nd.1) w (by omega) (by omega)]
          obtain ⟨g1, g2, g3, g4⟩ := hnext _ hv
          refine .inl ⟨_, rfl, ?_, ?_, ?_⟩
          · exact ⟨rfl, rfl, rfl, rfl, g1, g2, rfl, g3, g4⟩
          · dsimp only; omega
          · intro z hz
            rw [hz, foldS, hv]
      · have b2 : (nd.1 == 2) = false := by rw [beq_eq_false_iff_ne]; exact o2
        have hpos : 1 ≤ pt nd.1 := by
          have := p1
          unfold pt at this ⊢
          simp only [o1, o2, ↓reduceIte] at this ⊢
          repeat' split
          all_goals first | omega | (simp only [*, ↓reduceIte] at this; omega)
        have hlen : (st.drop (st.length - (pt nd.1).toNat)).length = (pt nd.1).toNat := by
          rw [List.length_drop]; omega
        obtain ⟨w, t, hf⟩ := applyE_tot nd.1 (st.drop (st.length - (pt nd.1).toNat)) (by omega) hpos hlen
        simp only [b1, b2, cond_true, cond_false, c2, pop_eq st (pt nd.1) (by omega) (by omega), hf, Br.run]
        cases t with
        | false =>
          have hv : valS s' env' st nd = none := by unfold valS; rw [if_neg o1, if_neg o2, hf]; rfl
          refine .inr ⟨_, rfl, ?_⟩
          rw [foldS, hv]
        | true =>
          have hv : valS s' env' st nd = some w := by unfold valS; rw [if_neg o1, if_neg o2, hf]; rfl
          simp only [Bool.not_true, cond_false, decide_eq_true f1, decide_eq_true f2, decide_eq_true (Nat.le_refl 0), decide_eq_true (Int.le_refl 0), decide_true, Bool.and_self, c3, cond_true, push_eq st (pt nd.1) w (by omega) (by omega)]
          obtain ⟨g1, g2, g3, g4⟩ := hnext _ hv
          refine .inl ⟨_, rfl, ?_, ?_, ?_⟩
          · exact ⟨rfl, rfl, rfl, rfl, g1, g2, rfl, g3, g4⟩
          · dsimp only; omega
          · intro z hz
            rw [hz, foldS, hv]
  · simp only [Br.run, decide_eq_false hi, cond_false]
    have : l'.drop i.toNat = [] := List.drop_eq_nil_of_le (by omega)
    rw [this]
    exact .inr ⟨_, rfl, rfl⟩

theorem foldS_len {s : Sch} {env : List Bnd} : ∀ (l : List Nd) (st st' : List Val), runD st.length l = some 1 → foldS s env st l = some st' → st'.length = 1
  | [], st, st', h, h2 => by
    simp only [runD, foldS, Option.some.injEq] at h h2
    subst h2; omega
  | n :: r, st, st', h, h2 => by
    simp only [runD] at h
    have p1 : ¬ pt n.1 < 0 := fun q => by simp only [q, ↓reduceIte] at h; cases h
    simp only [p1, ↓reduceIte] at h
    have p2 : ¬ nodeOk n = false := fun q => by simp only [q, ↓reduceIte] at h; cases h
    simp only [p2, ↓reduceIte] at h
    have p3 : ¬ (st.length : Int) < pt n.1 := fun q => by simp only [q, ↓reduceIte] at h; cases h
    simp only [p3, ↓reduceIte] at h
    simp only [foldS] at h2
    cases hv : valS s env st n with
    | none => rw [hv] at h2; cases h2
    | some v =>
      rw [hv] at h2
      refine foldS_len r _ _ ?_ h2
      have e : (((st.take (st.length - (pt n.1).toNat) ++ [v]).length : Nat) : Int) = st.length + 1 - pt n.1 := by
        rw [List.length_append, List.length_take, List.length_singleton]; omega
      rw [e]
      exact h

theorem evalE_at {s : Sch} {env : List Bnd} (hF : FvTot s env) (l : List Nd) :
    evalE (s, l, env, ()) = some (if l.length ≤ 64 ∧ runD 0 l = some 1 then (match foldS s env [] l with | some st => (st.getD 0 zV, true) | none => (zV, false)) else (zV, false), ()) := by
  unfold evalE evalE_B
  simp only [Br.run, mayT_at]
  by_cases hm : l.length ≤ 64 ∧ runD 0 l = some 1
  · obtain ⟨hl, hr⟩ := hm
    have e : (!(decide (l.length ≤ 64) && (runD 0 l == some 1))) = false := by simp [hl, hr]
    simp only [e, cond_false]
    rw [evalE_w0_at hF l hl _ 0 [] (by omega) (by omega) (by simp) (by
      show runD 0 (l.drop (Int.toNat 0)) ≠ none
      rw [Int.toNat_zero, List.drop_zero, hr]; exact fun h => by cases h)]
    rw [Int.toNat_zero, List.drop_zero, if_pos ⟨hl, hr⟩]
    cases hf : foldS s env [] l with
    | none => rfl
    | some st =>
      have h1 := foldS_len l [] st hr hf
      match st, h1 with
      | [v], _ => rfl
  · rw [if_neg hm]
    have e : (!(decide (l.length ≤ 64) && (runD 0 l == some 1))) = true := by
      simp only [Bool.not_eq_true', Bool.and_eq_false_iff, decide_eq_false_iff_not]
      by_cases h : l.length ≤ 64
      · right
        rw [beq_eq_false_iff_ne]
        exact fun q => hm ⟨h, q⟩
      · exact .inl h
    simp only [e, cond_true]
end Go.Proofs.Ytnhiplibodkciaa
