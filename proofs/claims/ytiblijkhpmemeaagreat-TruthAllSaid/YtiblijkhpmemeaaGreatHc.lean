/- What Eval comes to: part by part. What Eval comes to: part by part, on a stack. Contracts of functions. Printed by auto.py. Contracts of functions. Printed by auto.py. -/
import Derived.Test.YtiblijkhpmemeaaGreatHb
import Derived.Test.YtiblijkhpmemeaaGreatGe
import Derived.Test.YtiblijkhpmemeaaGreatHa
namespace Go.Proofs.YtiblijkhpmemeaaGreat
open Go.PI Go
theorem addN_tot (a b : Int) : ∃ v t, addN (a, b, ()) = some ((v, t), ()) := by
 unfold addN addN_B
 simp only [Br.run, cond_eq_ite]
 repeat' split
 all_goals exact ⟨_, _, rfl⟩
theorem subN_tot (a b : Int) : ∃ v t, subN (a, b, ()) = some ((v, t), ()) := by
 unfold subN subN_B
 simp only [Br.run, cond_eq_ite]
 repeat' split
 all_goals exact ⟨_, _, rfl⟩
theorem mulN_tot (a b : Int) : ∃ v t, mulN (a, b, ()) = some ((v, t), ()) := by
 unfold mulN mulN_B
 simp only [Br.run, cond_eq_ite, beq_iff_eq, decide_eq_true_eq]
 by_cases b0 : b = 0
 ·simp only [b0, ↓reduceIte]
  split <;> exact ⟨_, _, rfl⟩
 simp only [b0, ↓reduceIte]
 repeat' split
 all_goals exact ⟨_, _, rfl⟩
theorem negN_tot (a : Int) : ∃ v t, negN (a, ()) = some ((v, t), ()) := by
 unfold negN negN_B
 obtain ⟨v, t, h⟩ := subN_tot 0 a
 simp only [Br.run, h]
 exact ⟨_, _, rfl⟩
theorem compareV_tot (a b : Val) : ∃ v t, compareV (a, b, ()) = some ((v, t), ()) := by
 unfold compareV compareV_B bitV bitV_B compareS compareS_B cmpStr signV signV_B
 simp only [Br.run, cond_eq_ite]
 repeat' split
 all_goals first
  | exact ⟨_, _, rfl⟩
  | (cases decide (a.2.1 > b.2.1) <;> cases decide (a.2.1 < b.2.1) <;> exact ⟨_, _, rfl⟩)
  | (cases a.2.2.2 <;> cases b.2.2.2 <;> exact ⟨_, _, rfl⟩)
theorem numbersE_tot (op : Int) (k : List Val) (hk : k.length ≤ 64) (h1 : 1 ≤ k.length) (h2 : op ≠ 3 → 2 ≤ k.length) : ∃ v t, numbersE (op, k, ()) = some ((v, t), ()) := by
 unfold numbersE numbersE_B numV numV_B
 simp only [Br.run]
 rw [numbersE_w0_at op k hk 0 (by omega) (by omega)]
 split
 ·simp only [Br.run]
  have e0 : (decide ((0 : Int) ≤ 0) && decide ((0 : Int) < ((List.length k : Nat) : Int))) = true := by simp; omega
  have e0' : (decide ((0 : Nat) ≤ 0) && decide ((0 : Int) < ((List.length k : Nat) : Int))) = true := by simp; omega
  obtain ⟨v3, t3, q3⟩ := negN_tot (Prod.fst (Prod.snd (List.getD k (Int.toNat 0) (0, 0, ByteArray.empty, false))))
  obtain ⟨v4, t4, q4⟩ := addN_tot (Prod.fst (Prod.snd (List.getD k (Int.toNat 0) (0, 0, ByteArray.empty, false)))) (Prod.fst (Prod.snd (List.getD k (Int.toNat 1) (0, 0, ByteArray.empty, false))))
  obtain ⟨v5, t5, q5⟩ := subN_tot (Prod.fst (Prod.snd (List.getD k (Int.toNat 0) (0, 0, ByteArray.empty, false)))) (Prod.fst (Prod.snd (List.getD k (Int.toNat 1) (0, 0, ByteArray.empty, false))))
  obtain ⟨v6, t6, q6⟩ := mulN_tot (Prod.fst (Prod.snd (List.getD k (Int.toNat 0) (0, 0, ByteArray.empty, false)))) (Prod.fst (Prod.snd (List.getD k (Int.toNat 1) (0, 0, ByteArray.empty, false))))
  simp only [e0, e0', cond_true, q3, q4, q5, q6, Br.run]
  by_cases c3 : op = 3
  ·simp only [c3, cond_eq_ite, beq_self_eq_true, ↓reduceIte]
   cases t3 <;> exact ⟨_, _, rfl⟩
  ·have e1 : (decide ((0 : Int) ≤ 1) && decide ((1 : Int) < ((List.length k : Nat) : Int))) = true := by have := h2 c3; simp; omega
   have e1' : (decide ((0 : Nat) ≤ 1) && decide ((1 : Int) < ((List.length k : Nat) : Int))) = true := by have := h2 c3; simp; omega
   have hk1 : (1 : Int) < ((List.length k : Nat) : Int) := by have := h2 c3; omega
   simp only [e1, e1', cond_true, cond_eq_ite, decide_eq_true hk1, Int.reduceLE, Nat.reduceLeDiff, decide_true, Bool.and_self, ↓reduceIte]
   repeat' split
   all_goals exact ⟨_, _, rfl⟩
 ·exact ⟨_, _, rfl⟩
theorem truthsE_tot (op : Int) (k : List Val) (hk : k.length ≤ 64) (h1 : 1 ≤ k.length) (h2 : op ≠ 13 → 2 ≤ k.length) : ∃ v t, truthsE (op, k, ()) = some ((v, t), ()) := by
 unfold truthsE truthsE_B truthV truthV_B
 simp only [Br.run]
 rw [truthsE_w0_at op k hk 0 (by omega) (by omega)]
 split
 ·simp only [Br.run]
  have e0 : (decide ((0 : Int) ≤ 0) && decide ((0 : Int) < ((List.length k : Nat) : Int))) = true := by simp; omega
  have e0' : (decide ((0 : Nat) ≤ 0) && decide ((0 : Int) < ((List.length k : Nat) : Int))) = true := by simp; omega
  simp only [e0, e0', cond_true, Br.run]
  by_cases c3 : op = 13
  ·simp only [c3, cond_eq_ite, beq_self_eq_true, ↓reduceIte]
   exact ⟨_, _, rfl⟩
  ·have e1 : (decide ((0 : Int) ≤ 1) && decide ((1 : Int) < ((List.length k : Nat) : Int))) = true := by have := h2 c3; simp; omega
   have e1' : (decide ((0 : Nat) ≤ 1) && decide ((1 : Int) < ((List.length k : Nat) : Int))) = true := by have := h2 c3; simp; omega
   have hk1 : (1 : Int) < ((List.length k : Nat) : Int) := by have := h2 c3; omega
   simp only [e1, e1', cond_true, cond_eq_ite, decide_eq_true hk1, Int.reduceLE, Nat.reduceLeDiff, decide_true, Bool.and_self, ↓reduceIte]
   repeat' split
   all_goals exact ⟨_, _, rfl⟩
 ·exact ⟨_, _, rfl⟩
theorem applyE_tot (op : Int) (k : List Val) (hk : k.length ≤ 64) (h0 : 1 ≤ pt op) (h1 : k.length = (pt op).toNat) : ∃ v t, applyE (op, k, ()) = some ((v, t), ()) := by
 have hl : 1 ≤ k.length ∧ (op ≠ 3 → op ≠ 13 → 2 ≤ k.length) ∧ (op = 3 ∨ 4 ≤ op) := by
  unfold pt at h0 h1
  repeat' split at h0
  all_goals first | omega | (refine ⟨?_, ?_, ?_⟩ <;> (repeat' split at h1) <;> omega)
 unfold applyE applyE_B truthV truthV_B
 simp only [Br.run, cond_eq_ite, decide_eq_true_eq]
 by_cases c1 : op ≤ 6
 ·obtain ⟨v, t, q⟩ := numbersE_tot op k hk hl.1 (fun h3 => hl.2.1 h3 (by omega))
  simp only [c1, ↓reduceIte, q, Br.run]
  exact ⟨_, _, rfl⟩
 simp only [c1, ↓reduceIte]
 by_cases c2 : op ≤ 12
 ·obtain ⟨v, t, q⟩ := compareV_tot (List.getD k (Int.toNat 0) (0, 0, ByteArray.empty, false)) (List.getD k (Int.toNat 1) (0, 0, ByteArray.empty, false))
  have h2 := hl.2.1 (by omega) (by omega)
  have e0 : (decide ((0 : Int) ≤ 0) && decide ((0 : Int) < ((List.length k : Nat) : Int))) = true := by simp; omega
  have e0' : (decide ((0 : Nat) ≤ 0) && decide ((0 : Int) < ((List.length k : Nat) : Int))) = true := by simp; omega
  have e1 : (decide ((0 : Int) ≤ 1) && decide ((1 : Int) < ((List.length k : Nat) : Int))) = true := by simp; omega
  have e1' : (decide ((0 : Nat) ≤ 1) && decide ((1 : Int) < ((List.length k : Nat) : Int))) = true := by simp; omega
  simp only [c2, ↓reduceIte, e0, e0', e1, e1', q, Br.run, holdsE_at]
  cases t <;> exact ⟨_, _, rfl⟩
 ·obtain ⟨v, t, q⟩ := truthsE_tot op k hk hl.1 (fun h3 => hl.2.1 (by omega) h3)
  simp only [c2, ↓reduceIte, q, Br.run]
  exact ⟨_, _, rfl⟩
end Go.Proofs.YtiblijkhpmemeaaGreat

namespace Go.Proofs.YtiblijkhpmemeaaGreat
open Go.PI Go
def FvTot (s : Sch) (env : List Bnd) : Prop := ∀ n : Nd, ∃ v b, fieldV (s, env, n, ()) = some ((v, b), ())
def optV : Option ((Val × Bool) × Unit) → Option Val
 | some ((v, true), ()) => some v
 | _ => none
noncomputable def valS (s : Sch) (env : List Bnd) (st : List Val) (n : Nd) : Option Val :=
 if n.1 = 1 then some n.2.1 else if n.1 = 2 then optV (fieldV (s, env, n, ())) else optV (applyE (n.1, st.drop (st.length - (pt n.1).toNat), ()))
noncomputable def foldS (s : Sch) (env : List Bnd) : List Val → List Nd → Option (List Val)
 | st, [] => some st
 | st, n :: r => match valS s env st n with
  | some v => foldS s env (st.take (st.length - (pt n.1).toNat) ++ [v]) r
  | none => none
theorem pt_one {op : Int} (h : op = 1 ∨ op = 2) : pt op = 0 := by rcases h with rfl | rfl <;> rfl
theorem push_eq (st : List Val) (q : Int) (v : Val) (h0 : 0 ≤ q) (h1 : q ≤ st.length) : List.take (Int.toNat ((st.length : Int) - q) - Int.toNat 0) (List.drop (0 + Int.toNat 0) st) ++ List.set (List.replicate 1 (0, 0, ByteArray.empty, false)) 0 v = st.take (st.length - q.toNat) ++ [v] := by
 have e : Int.toNat ((st.length : Int) - q) - Int.toNat 0 = st.length - q.toNat := by omega
 rw [e]
 rfl
theorem pop_eq (st : List Val) (q : Int) (h0 : 0 ≤ q) (h1 : q ≤ st.length) : List.take (Int.toNat (st.length : Int) - Int.toNat ((st.length : Int) - q)) (List.drop (0 + Int.toNat ((st.length : Int) - q)) st) = st.drop (st.length - q.toNat) := by
 have e : 0 + Int.toNat ((st.length : Int) - q) = st.length - q.toNat := by omega
 rw [e]
 refine List.take_of_length_le ?_
 rw [List.length_drop]
 omega
theorem evalE_w0_at {s : Sch} {env : List Bnd} (hF : FvTot s env) (l : List Nd) (hl : l.length ≤ 64) (v : Val) (i : Int) (st : List Val) (h0 : 0 ≤ i) (h1 : i ≤ l.length) (h2 : (st.length : Int) ≤ i) (h3 : runD st.length (l.drop i.toNat) ≠ none) :
  evalE_w0 (s, env, l, (l.length : Int), i, v, st, ()) = some (match foldS s env st (l.drop i.toNat) with | none => .inl (zV, ()) | some st' => .inr (v, st', ())) := by
 suffices h : ∃ z, evalE_w0 (s, env, l, (l.length : Int), i, v, st, ()) = some z ∧ z = (match foldS s env st (l.drop i.toNat) with | none => .inl (zV, ()) | some st' => .inr (v, st', ())) by
  obtain ⟨z, h, rfl⟩ := h
  exact h
 refine iterO_rec (step := fun x => (evalE_l0 x).run) (Q := fun x z => z = (match foldS s env x.2.2.2.2.2.2.1 (l.drop x.2.2.2.2.1.toNat) with | none => .inl (zV, ()) | some st' => .inr (v, st', ())))
  (fun x => x.1 = s ∧ x.2.1 = env ∧ x.2.2.1 = l ∧ x.2.2.2.1 = (l.length : Int) ∧ 0 ≤ x.2.2.2.2.1 ∧ x.2.2.2.2.1 ≤ l.length ∧ x.2.2.2.2.2.1 = v ∧ (x.2.2.2.2.2.2.1.length : Int) ≤ x.2.2.2.2.1 ∧ runD x.2.2.2.2.2.2.1.length (l.drop x.2.2.2.2.1.toNat) ≠ none)
  (fun x => ((l.length : Int) - x.2.2.2.2.1).toNat) ?_ _ ⟨rfl, rfl, rfl, rfl, h0, h1, rfl, h2, h3⟩
 rintro ⟨s', env', l', n, i, v', st, ⟨⟩⟩ hx
 dsimp only at hx ⊢
 obtain ⟨rfl, rfl, rfl, rfl, h0, h1, rfl, h2, h3⟩ := hx
 unfold evalE_l0
 by_cases hi : i < (l'.length : Int)
 ·have hw : IntKind.wrap .i64 (i + 1) = i + 1 := Go.PI.wrap_small (by omega) (by omega)
  rw [drop_get l' i (0, (0, 0, ByteArray.empty, false), ByteArray.empty, ByteArray.empty) h0 hi] at h3 ⊢
  generalize hnd : l'.getD i.toNat (0, (0, 0, ByteArray.empty, false), ByteArray.empty, ByteArray.empty) = nd at h3 ⊢
  simp only [runD] at h3
  have p1 : ¬ pt nd.1 < 0 := fun h => by simp only [h, ↓reduceIte] at h3; exact h3 rfl
  simp only [p1, ↓reduceIte] at h3
  have p2 : ¬ nodeOk nd = false := fun h => by simp only [h, ↓reduceIte] at h3; exact h3 rfl
  simp only [p2, ↓reduceIte] at h3
  have p3 : ¬ (st.length : Int) < pt nd.1 := fun h => by simp only [h, ↓reduceIte] at h3; exact h3 rfl
  simp only [p3, ↓reduceIte] at h3
  obtain ⟨hp2, hp1⟩ := pt_le nd.1
  have hq : IntKind.wrap .i64 ((st.length : Int) - pt nd.1) = (st.length : Int) - pt nd.1 := Go.PI.wrap_small (by omega) (by omega)
  have f1 : 0 ≤ (st.length : Int) - pt nd.1 := by omega
  have f2 : (st.length : Int) - pt nd.1 ≤ (st.length : Int) := by omega
  have c2 : (decide (0 ≤ (st.length : Int) - pt nd.1) && decide ((st.length : Int) - pt nd.1 ≤ (st.length : Int)) && decide ((st.length : Int) ≤ (st.length : Int))) = true := by simp; omega
  have c3 : ∀ v : Val, (decide ((List.length (List.take (Int.toNat ((st.length : Int) - pt nd.1) - Int.toNat 0) (List.drop (0 + Int.toNat 0) st)) + List.length (List.set (List.replicate 1 ((0, 0, ByteArray.empty, false) : Val)) 0 v)) * 40 ≤ 140737488355328) && decide (0 < List.length (List.set (List.replicate 1 ((0, 0, ByteArray.empty, false) : Val)) 0 v))) = true := by
   intro v
   have e1 : (List.set (List.replicate 1 ((0, 0, ByteArray.empty, false) : Val)) 0 v).length = 1 := rfl
   have e2 : (List.take (Int.toNat ((st.length : Int) - pt nd.1) - Int.toNat 0) (List.drop (0 + Int.toNat 0) st)).length ≤ st.length := by
    rw [List.length_take, List.length_drop]; omega
   rw [e1]
   simp only [Bool.and_eq_true, decide_eq_true_eq]
   omega
  have hnext : ∀ w : Val, valS s' env' st nd = some w → (0 ≤ i + 1 ∧ i + 1 ≤ (l'.length : Int) ∧ (((st.take (st.length - (pt nd.1).toNat) ++ [w]).length : Nat) : Int) ≤ i + 1 ∧ runD ((st.take (st.length - (pt nd.1).toNat) ++ [w]).length : Nat) (l'.drop (i + 1).toNat) ≠ none) := by
   intro w _
   have e : (((st.take (st.length - (pt nd.1).toNat) ++ [w]).length : Nat) : Int) = st.length + 1 - pt nd.1 := by
    rw [List.length_append, List.length_take, List.length_singleton]; omega
   rw [e]
   exact ⟨by omega, by omega, by omega, h3⟩
  simp only [Br.run, decide_eq_true hi, decide_eq_true h0, Bool.and_self, cond_true, hw, hnd, partsT_at, hq]
  by_cases o1 : nd.1 = 1
  ·have b1 : (nd.1 == 1) = true := by rw [o1]; rfl
   have hv : valS s' env' st nd = some nd.2.1 := by unfold valS; rw [if_pos o1]
   simp only [b1, cond_true, decide_eq_true f1, decide_eq_true f2, decide_eq_true (Nat.le_refl 0), decide_eq_true (Int.le_refl 0), decide_true, Bool.and_self, c3, push_eq st (pt nd.1) nd.2.1 (by omega) (by omega)]
   obtain ⟨g1, g2, g3, g4⟩ := hnext _ hv
   refine .inl ⟨_, rfl, ?_, ?_, ?_⟩
   ·exact ⟨rfl, rfl, rfl, rfl, g1, g2, rfl, g3, g4⟩
   ·dsimp only; omega
   ·intro z hz
    rw [hz, foldS, hv]
  ·have b1 : (nd.1 == 1) = false := by rw [beq_eq_false_iff_ne]; exact o1
   by_cases o2 : nd.1 = 2
   ·have b2 : (nd.1 == 2) = true := by rw [o2]; rfl
    obtain ⟨w, t, hf⟩ := hF nd
    simp only [b1, b2, cond_true, cond_false, hf, Br.run]
    cases t with
    | false =>
     have hv : valS s' env' st nd = none := by unfold valS; rw [if_neg o1, if_pos o2, hf]; rfl
     refine .inr ⟨_, rfl, ?_⟩
     rw [foldS, hv]
    | true =>
     have hv : valS s' env' st nd = some w := by unfold valS; rw [if_neg o1, if_pos o2, hf]; rfl
     simp only [Bool.not_true, cond_false, decide_eq_true f1, decide_eq_true f2, decide_eq_true (Nat.le_refl 0), decide_eq_true (Int.le_refl 0), decide_true, Bool.and_self, c3, cond_true, push_eq st (pt nd.1) w (by omega) (by omega)]
     obtain ⟨g1, g2, g3, g4⟩ := hnext _ hv
     refine .inl ⟨_, rfl, ?_, ?_, ?_⟩
     ·exact ⟨rfl, rfl, rfl, rfl, g1, g2, rfl, g3, g4⟩
     ·dsimp only; omega
     ·intro z hz
      rw [hz, foldS, hv]
   ·have b2 : (nd.1 == 2) = false := by rw [beq_eq_false_iff_ne]; exact o2
    have hpos : 1 ≤ pt nd.1 := by
     have := p1
     unfold pt at this ⊢
     simp only [o1, o2, ↓reduceIte] at this ⊢
     repeat' split
     all_goals first | omega | (simp only [*, ↓reduceIte] at this; omega)
    have hlen : (st.drop (st.length - (pt nd.1).toNat)).length = (pt nd.1).toNat := by
     rw [List.length_drop]; omega
    obtain ⟨w, t, hf⟩ := applyE_tot nd.1 (st.drop (st.length - (pt nd.1).toNat)) (by omega) hpos hlen
    simp only [b1, b2, cond_true, cond_false, c2, pop_eq st (pt nd.1) (by omega) (by omega), hf, Br.run]
    cases t with
    | false =>
     have hv : valS s' env' st nd = none := by unfold valS; rw [if_neg o1, if_neg o2, hf]; rfl
     refine .inr ⟨_, rfl, ?_⟩
     rw [foldS, hv]
    | true =>
     have hv : valS s' env' st nd = some w := by unfold valS; rw [if_neg o1, if_neg o2, hf]; rfl
     simp only [Bool.not_true, cond_false, decide_eq_true f1, decide_eq_true f2, decide_eq_true (Nat.le_refl 0), decide_eq_true (Int.le_refl 0), decide_true, Bool.and_self, c3, cond_true, push_eq st (pt nd.1) w (by omega) (by omega)]
     obtain ⟨g1, g2, g3, g4⟩ := hnext _ hv
     refine .inl ⟨_, rfl, ?_, ?_, ?_⟩
     ·exact ⟨rfl, rfl, rfl, rfl, g1, g2, rfl, g3, g4⟩
     ·dsimp only; omega
     ·intro z hz
      rw [hz, foldS, hv]
 ·simp only [Br.run, decide_eq_false hi, cond_false]
  have : l'.drop i.toNat = [] := List.drop_eq_nil_of_le (by omega)
  rw [this]
  exact .inr ⟨_, rfl, rfl⟩
theorem foldS_len {s : Sch} {env : List Bnd} : ∀ (l : List Nd) (st st' : List Val), runD st.length l = some 1 → foldS s env st l = some st' → st'.length = 1
 | [], st, st', h, h2 => by
  simp only [runD, foldS, Option.some.injEq] at h h2
  subst h2; omega
 | n :: r, st, st', h, h2 => by
  simp only [runD] at h
  have p1 : ¬ pt n.1 < 0 := fun q => by simp only [q, ↓reduceIte] at h; cases h
  simp only [p1, ↓reduceIte] at h
  have p2 : ¬ nodeOk n = false := fun q => by simp only [q, ↓reduceIte] at h; cases h
  simp only [p2, ↓reduceIte] at h
  have p3 : ¬ (st.length : Int) < pt n.1 := fun q => by simp only [q, ↓reduceIte] at h; cases h
  simp only [p3, ↓reduceIte] at h
  simp only [foldS] at h2
  cases hv : valS s env st n with
  | none => rw [hv] at h2; cases h2
  | some v =>
   rw [hv] at h2
   refine foldS_len r _ _ ?_ h2
   have e : (((st.take (st.length - (pt n.1).toNat) ++ [v]).length : Nat) : Int) = st.length + 1 - pt n.1 := by
    rw [List.length_append, List.length_take, List.length_singleton]; omega
   rw [e]
   exact h
theorem evalE_at {s : Sch} {env : List Bnd} (hF : FvTot s env) (l : List Nd) :
  evalE (s, l, env, ()) = some (if l.length ≤ 64 ∧ runD 0 l = some 1 then (match foldS s env [] l with | some st => (st.getD 0 zV, true) | none => (zV, false)) else (zV, false), ()) := by
 unfold evalE evalE_B
 simp only [Br.run, mayT_at]
 by_cases hm : l.length ≤ 64 ∧ runD 0 l = some 1
 ·obtain ⟨hl, hr⟩ := hm
  have e : (!(decide (l.length ≤ 64) && (runD 0 l == some 1))) = false := by simp [hl, hr]
  simp only [e, cond_false]
  rw [evalE_w0_at hF l hl _ 0 [] (by omega) (by omega) (by simp) (by
   show runD 0 (l.drop (Int.toNat 0)) ≠ none
   rw [Int.toNat_zero, List.drop_zero, hr]; exact fun h => by cases h)]
  rw [Int.toNat_zero, List.drop_zero, if_pos ⟨hl, hr⟩]
  cases hf : foldS s env [] l with
  | none => rfl
  | some st =>
   have h1 := foldS_len l [] st hr hf
   match st, h1 with
   | [v], _ => rfl
 ·rw [if_neg hm]
  have e : (!(decide (l.length ≤ 64) && (runD 0 l == some 1))) = true := by
   simp only [Bool.not_eq_true', Bool.and_eq_false_iff, decide_eq_false_iff_not]
   by_cases h : l.length ≤ 64
   ·right
    rw [beq_eq_false_iff_ne]
    exact fun q => hm ⟨h, q⟩
   ·exact .inl h
  simp only [e, cond_true]
end Go.Proofs.YtiblijkhpmemeaaGreat

namespace Go.Proofs.YtiblijkhpmemeaaGreat
set_option maxRecDepth 100000
open Go.PI Go
noncomputable def typesR_B : Unit → Br (zA11 × Unit) := fun (()) =>
 (.ret ([({ data := #[65] }, [({ data := #[120] }, 1), ({ data := #[115] }, 2)]), ({ data := #[66] }, [({ data := #[120] }, 1), ({ data := #[115] }, 2)]), ({ data := #[67] }, [({ data := #[115] }, 2), ({ data := #[120] }, 1), ({ data := #[98] }, 3)])], ()))
noncomputable def typesR := fun x => (typesR_B x).run
abbrev typesR_ins : List (Bool × Pat) := []
abbrev typesR_outs : List Pat := [.ty false (.sl (.st (.pair .str zA27)))]
theorem typesR_oc : OC Tryz.prog 7 typesR_ins typesR_outs typesR := OC.lp en_cmpStr 1024 Tryz.func7 [] (by kernel_rfl) trivial (fun _ => by kernel_rfl)
noncomputable def cx_typesR : Ctx := ocx cx_cmpStr typesR_oc
theorem en_typesR : EnvFull Tryz.prog cx_typesR := ocn en_cmpStr typesR_oc
noncomputable def newS_l0 : (zA11 × (Int × (Int × (zA11 × Unit)))) → Br ((zA11 × (Int × (Int × (zA11 × Unit)))) ⊕ ((Int × Unit) ⊕ (zA11 × Unit))) := fun (a, b, c, d, ()) =>
 (.cond (decide (c < b))
 (.cond (decide (0 ≤ c) && decide (c < (↑(List.length a) : Int)))
 (.opt (nameF ((List.getD a (Int.toNat c) (ByteArray.empty, [])).1, ())) fun e =>
 (.cond (!e.1)
 (.ret (.inr (.inl (1, ()))))
 (.opt (fieldsF ((List.getD a (Int.toNat c) (ByteArray.empty, [])).2, ())) fun f =>
 (.cond (!f.1)
 (.ret (.inr (.inl (1, ()))))
 (.opt (findF (some d, (List.getD a (Int.toNat c) (ByteArray.empty, [])).1, ())) fun g =>
 (.cond g.1.2
 (.ret (.inr (.inl (4, ()))))
 (.opt (cloneField ((List.getD a (Int.toNat c) (ByteArray.empty, [])).2, ())) fun h =>
 (.cond (decide ((List.length d + List.length (List.set (List.replicate 1 (ByteArray.empty, [])) 0 ((List.getD a (Int.toNat c) (ByteArray.empty, [])).1, h.1))) * 40 ≤ 140737488355328))
 (.ret (.inl (a, b, IntKind.wrap .i64 (c + 1), d ++ List.set (List.replicate 1 (ByteArray.empty, [])) 0 ((List.getD a (Int.toNat c) (ByteArray.empty, [])).1, h.1), ())))
 (.no)))))))))
 (.no))
 (.ret (.inr (.inr (d, ())))))
noncomputable def newS_w0 := iterO fun x => (newS_l0 x).run
noncomputable def newS_B : (zA11 × Unit) → Br (((Option zA11) × Int) × Unit) := fun (p0, ()) =>
 (.cond (decide ((↑(List.length p0) : Int) > 16))
 (.ret ((none, 5), ()))
 (.opt (newS_w0 (p0, (↑(List.length p0) : Int), 0, [], ())) fun a =>
 (.sum a (fun b =>
 (.ret ((none, b.1), ()))) (fun c =>
 (.ret ((some c.1, 0), ()))))))
noncomputable def newS := fun x => (newS_B x).run
abbrev newS_ins : List (Bool × Pat) := [(false, .ty true (.sl (.st (.pair .str zA27))))]
abbrev newS_outs : List Pat := [.ty false zA17, .ty false (.int .i64)]
noncomputable def newS_L : List Lp := [
 .mk 5 (shX 55 [(4, .c (.ref 1037 0 0))] [(1037, [(.mfull 1724)]), (1724, [])] [.slot 14 true (.sl (.st (.pair .str zA27))), sI 15, sI 16, .ar 1724 false 65 (.st (.pair .str zA27))] ⟨[(4, .keep), (14, .as true (.sl (.st (.pair .str zA27)))), (15, .as false (.int .i64)), (16, .as false (.int .i64))], [(13, 0, .row 700 false 65 (.st (.pair .str zA27)))], [(13, false), (700, false)]⟩) ([exO .ret 55 [(2, D.c .nilp)] [] [sI 3] [], exX (.exit 0) 55 [(4, .c (.ref 1037 0 0))] [(1037, [(.mfull 1725)]), (1725, [])] [.ar 1725 false 65 (.st (.pair .str zA27))] ⟨[(4, .keep)], [(13, 0, .row 701 false 65 (.st (.pair .str zA27)))], [(13, false), (701, false)]⟩]) newS_l0]
theorem newS_oc : OC Tryz.prog 6 newS_ins newS_outs newS := OC.lp en_typesR 1024 Tryz.func6 newS_L (by kernel_rfl) ⟨fun _ => by kernel_rfl, trivial⟩ (fun _ => by kernel_rfl)
end Go.Proofs.YtiblijkhpmemeaaGreat

namespace Go.Proofs.YtiblijkhpmemeaaGreat
set_option maxRecDepth 100000
open Go.PI Go
noncomputable def eventR_B : (zA2 × Unit) → Br (zA2 × Unit) := fun (p0, ()) =>
 (.cond (false)
 (.no)
 (.cond (decide ((↑(List.length p0.2.2.2.2) : Int) > 0))
 (.cond (decide (0 ≤ 0) && decide (0 < (↑(List.length p0.2.2.2.2) : Int)))
 (.cond (decide (0 ≤ 0) && decide (0 < (↑(List.length p0.2.2.2.2) : Int)))
 (.cond (List.getD p0.2.2.2.2 (Int.toNat 0) zV0).2.2.2
 (.cond (decide (0 ≤ Int.tmod (IntKind.wrap .i64 (↑(BitVec.toNat (BitVec.ofInt (IntKind.bits .i64) p0.2.2.2.1 &&& BitVec.ofInt (IntKind.bits .i64) 255)) : Int)) 3) && decide (Int.tmod (IntKind.wrap .i64 (↑(BitVec.toNat (BitVec.ofInt (IntKind.bits .i64) p0.2.2.2.1 &&& BitVec.ofInt (IntKind.bits .i64) 255)) : Int)) 3 < (↑(List.length (List.set (List.set (List.set (List.replicate 3 ByteArray.empty) 0 { data := #[65] }) 1 { data := #[66] }) 2 { data := #[67] })) : Int)))
 (.cond (false)
 (.no)
 (.cond (decide (0 ≤ Int.tmod (↑(ByteArray.size p0.2.1) : Int) 3) && decide (Int.tmod (↑(ByteArray.size p0.2.1) : Int) 3 < (↑(List.length (List.set (List.set (List.set (List.replicate 3 ByteArray.empty) 0 { data := #[107] }) 1 { data := #[108] }) 2 { data := #[109] })) : Int)))
 (.cond (Int.tmod (IntKind.wrap .i64 (↑(BitVec.toNat (BitVec.ofInt (IntKind.bits .i64) p0.2.2.2.1 &&& BitVec.ofInt (IntKind.bits .i64) 255)) : Int)) 3 == 2)
 (.ret ((List.getD (List.set (List.set (List.set (List.replicate 3 ByteArray.empty) 0 { data := #[65] }) 1 { data := #[66] }) 2 { data := #[67] }) (Int.toNat (Int.tmod (IntKind.wrap .i64 (↑(BitVec.toNat (BitVec.ofInt (IntKind.bits .i64) p0.2.2.2.1 &&& BitVec.ofInt (IntKind.bits .i64) 255)) : Int)) 3)) ByteArray.empty, List.getD (List.set (List.set (List.set (List.replicate 3 ByteArray.empty) 0 { data := #[107] }) 1 { data := #[108] }) 2 { data := #[109] }) (Int.toNat (Int.tmod (↑(ByteArray.size p0.2.1) : Int) 3)) ByteArray.empty, IntKind.wrap .i64 (↑(BitVec.toNat (BitVec.ofInt (IntKind.bits .i64) p0.2.2.1 &&& BitVec.ofInt (IntKind.bits .i64) 15)) : Int), 0, [(2, 0, { data := #[118] }, false), (1, IntKind.wrap .i64 (↑(BitVec.toNat (BitVec.ofInt (IntKind.bits .i64) (List.getD p0.2.2.2.2 (Int.toNat 0) zV0).2.1 &&& BitVec.ofInt (IntKind.bits .i64) 3)) : Int), ByteArray.empty, false), (3, 0, ByteArray.empty, decide (IntKind.wrap .i64 (↑(BitVec.toNat (BitVec.ofInt (IntKind.bits .i64) p0.2.2.1 &&& BitVec.ofInt (IntKind.bits .i64) 64)) : Int) > 0))]), ()))
 (.ret ((List.getD (List.set (List.set (List.set (List.replicate 3 ByteArray.empty) 0 { data := #[65] }) 1 { data := #[66] }) 2 { data := #[67] }) (Int.toNat (Int.tmod (IntKind.wrap .i64 (↑(BitVec.toNat (BitVec.ofInt (IntKind.bits .i64) p0.2.2.2.1 &&& BitVec.ofInt (IntKind.bits .i64) 255)) : Int)) 3)) ByteArray.empty, List.getD (List.set (List.set (List.set (List.replicate 3 ByteArray.empty) 0 { data := #[107] }) 1 { data := #[108] }) 2 { data := #[109] }) (Int.toNat (Int.tmod (↑(ByteArray.size p0.2.1) : Int) 3)) ByteArray.empty, IntKind.wrap .i64 (↑(BitVec.toNat (BitVec.ofInt (IntKind.bits .i64) p0.2.2.1 &&& BitVec.ofInt (IntKind.bits .i64) 15)) : Int), 0, [(1, IntKind.wrap .i64 (↑(BitVec.toNat (BitVec.ofInt (IntKind.bits .i64) (List.getD p0.2.2.2.2 (Int.toNat 0) zV0).2.1 &&& BitVec.ofInt (IntKind.bits .i64) 3)) : Int), ByteArray.empty, false), (2, 0, { data := #[118] }, false)]), ())))
 (.no)))
 (.no))
 (.cond (decide (0 ≤ Int.tmod (IntKind.wrap .i64 (↑(BitVec.toNat (BitVec.ofInt (IntKind.bits .i64) p0.2.2.2.1 &&& BitVec.ofInt (IntKind.bits .i64) 255)) : Int)) 3) && decide (Int.tmod (IntKind.wrap .i64 (↑(BitVec.toNat (BitVec.ofInt (IntKind.bits .i64) p0.2.2.2.1 &&& BitVec.ofInt (IntKind.bits .i64) 255)) : Int)) 3 < (↑(List.length (List.set (List.set (List.set (List.replicate 3 ByteArray.empty) 0 { data := #[65] }) 1 { data := #[66] }) 2 { data := #[67] })) : Int)))
 (.cond (false)
 (.no)
 (.cond (decide (0 ≤ Int.tmod (↑(ByteArray.size p0.2.1) : Int) 3) && decide (Int.tmod (↑(ByteArray.size p0.2.1) : Int) 3 < (↑(List.length (List.set (List.set (List.set (List.replicate 3 ByteArray.empty) 0 { data := #[107] }) 1 { data := #[108] }) 2 { data := #[109] })) : Int)))
 (.cond (Int.tmod (IntKind.wrap .i64 (↑(BitVec.toNat (BitVec.ofInt (IntKind.bits .i64) p0.2.2.2.1 &&& BitVec.ofInt (IntKind.bits .i64) 255)) : Int)) 3 == 2)
 (.ret ((List.getD (List.set (List.set (List.set (List.replicate 3 ByteArray.empty) 0 { data := #[65] }) 1 { data := #[66] }) 2 { data := #[67] }) (Int.toNat (Int.tmod (IntKind.wrap .i64 (↑(BitVec.toNat (BitVec.ofInt (IntKind.bits .i64) p0.2.2.2.1 &&& BitVec.ofInt (IntKind.bits .i64) 255)) : Int)) 3)) ByteArray.empty, List.getD (List.set (List.set (List.set (List.replicate 3 ByteArray.empty) 0 { data := #[107] }) 1 { data := #[108] }) 2 { data := #[109] }) (Int.toNat (Int.tmod (↑(ByteArray.size p0.2.1) : Int) 3)) ByteArray.empty, IntKind.wrap .i64 (↑(BitVec.toNat (BitVec.ofInt (IntKind.bits .i64) p0.2.2.1 &&& BitVec.ofInt (IntKind.bits .i64) 15)) : Int), 0, [(2, 0, { data := #[117] }, false), (1, IntKind.wrap .i64 (↑(BitVec.toNat (BitVec.ofInt (IntKind.bits .i64) (List.getD p0.2.2.2.2 (Int.toNat 0) zV0).2.1 &&& BitVec.ofInt (IntKind.bits .i64) 3)) : Int), ByteArray.empty, false), (3, 0, ByteArray.empty, decide (IntKind.wrap .i64 (↑(BitVec.toNat (BitVec.ofInt (IntKind.bits .i64) p0.2.2.1 &&& BitVec.ofInt (IntKind.bits .i64) 64)) : Int) > 0))]), ()))
 (.ret ((List.getD (List.set (List.set (List.set (List.replicate 3 ByteArray.empty) 0 { data := #[65] }) 1 { data := #[66] }) 2 { data := #[67] }) (Int.toNat (Int.tmod (IntKind.wrap .i64 (↑(BitVec.toNat (BitVec.ofInt (IntKind.bits .i64) p0.2.2.2.1 &&& BitVec.ofInt (IntKind.bits .i64) 255)) : Int)) 3)) ByteArray.empty, List.getD (List.set (List.set (List.set (List.replicate 3 ByteArray.empty) 0 { data := #[107] }) 1 { data := #[108] }) 2 { data := #[109] }) (Int.toNat (Int.tmod (↑(ByteArray.size p0.2.1) : Int) 3)) ByteArray.empty, IntKind.wrap .i64 (↑(BitVec.toNat (BitVec.ofInt (IntKind.bits .i64) p0.2.2.1 &&& BitVec.ofInt (IntKind.bits .i64) 15)) : Int), 0, [(1, IntKind.wrap .i64 (↑(BitVec.toNat (BitVec.ofInt (IntKind.bits .i64) (List.getD p0.2.2.2.2 (Int.toNat 0) zV0).2.1 &&& BitVec.ofInt (IntKind.bits .i64) 3)) : Int), ByteArray.empty, false), (2, 0, { data := #[117] }, false)]), ())))
 (.no)))
 (.no)))
 (.no))
 (.no))
 (.cond (decide (0 ≤ Int.tmod (IntKind.wrap .i64 (↑(BitVec.toNat (BitVec.ofInt (IntKind.bits .i64) p0.2.2.2.1 &&& BitVec.ofInt (IntKind.bits .i64) 255)) : Int)) 3) && decide (Int.tmod (IntKind.wrap .i64 (↑(BitVec.toNat (BitVec.ofInt (IntKind.bits .i64) p0.2.2.2.1 &&& BitVec.ofInt (IntKind.bits .i64) 255)) : Int)) 3 < (↑(List.length (List.set (List.set (List.set (List.replicate 3 ByteArray.empty) 0 { data := #[65] }) 1 { data := #[66] }) 2 { data := #[67] })) : Int)))
 (.cond (false)
 (.no)
 (.cond (decide (0 ≤ Int.tmod (↑(ByteArray.size p0.2.1) : Int) 3) && decide (Int.tmod (↑(ByteArray.size p0.2.1) : Int) 3 < (↑(List.length (List.set (List.set (List.set (List.replicate 3 ByteArray.empty) 0 { data := #[107] }) 1 { data := #[108] }) 2 { data := #[109] })) : Int)))
 (.cond (Int.tmod (IntKind.wrap .i64 (↑(BitVec.toNat (BitVec.ofInt (IntKind.bits .i64) p0.2.2.2.1 &&& BitVec.ofInt (IntKind.bits .i64) 255)) : Int)) 3 == 2)
 (.ret ((List.getD (List.set (List.set (List.set (List.replicate 3 ByteArray.empty) 0 { data := #[65] }) 1 { data := #[66] }) 2 { data := #[67] }) (Int.toNat (Int.tmod (IntKind.wrap .i64 (↑(BitVec.toNat (BitVec.ofInt (IntKind.bits .i64) p0.2.2.2.1 &&& BitVec.ofInt (IntKind.bits .i64) 255)) : Int)) 3)) ByteArray.empty, List.getD (List.set (List.set (List.set (List.replicate 3 ByteArray.empty) 0 { data := #[107] }) 1 { data := #[108] }) 2 { data := #[109] }) (Int.toNat (Int.tmod (↑(ByteArray.size p0.2.1) : Int) 3)) ByteArray.empty, IntKind.wrap .i64 (↑(BitVec.toNat (BitVec.ofInt (IntKind.bits .i64) p0.2.2.1 &&& BitVec.ofInt (IntKind.bits .i64) 15)) : Int), 0, [(2, 0, { data := #[117] }, false), (1, 0, ByteArray.empty, false), (3, 0, ByteArray.empty, decide (IntKind.wrap .i64 (↑(BitVec.toNat (BitVec.ofInt (IntKind.bits .i64) p0.2.2.1 &&& BitVec.ofInt (IntKind.bits .i64) 64)) : Int) > 0))]), ()))
 (.ret ((List.getD (List.set (List.set (List.set (List.replicate 3 ByteArray.empty) 0 { data := #[65] }) 1 { data := #[66] }) 2 { data := #[67] }) (Int.toNat (Int.tmod (IntKind.wrap .i64 (↑(BitVec.toNat (BitVec.ofInt (IntKind.bits .i64) p0.2.2.2.1 &&& BitVec.ofInt (IntKind.bits .i64) 255)) : Int)) 3)) ByteArray.empty, List.getD (List.set (List.set (List.set (List.replicate 3 ByteArray.empty) 0 { data := #[107] }) 1 { data := #[108] }) 2 { data := #[109] }) (Int.toNat (Int.tmod (↑(ByteArray.size p0.2.1) : Int) 3)) ByteArray.empty, IntKind.wrap .i64 (↑(BitVec.toNat (BitVec.ofInt (IntKind.bits .i64) p0.2.2.1 &&& BitVec.ofInt (IntKind.bits .i64) 15)) : Int), 0, [(1, 0, ByteArray.empty, false), (2, 0, { data := #[117] }, false)]), ())))
 (.no)))
 (.no))))
noncomputable def eventR := fun x => (eventR_B x).run
abbrev eventR_ins : List (Bool × Pat) := [(false, .ty true zA9)]
abbrev eventR_outs : List Pat := [.ty false zA9]
theorem eventR_oc : OC Tryz.prog 47 eventR_ins eventR_outs eventR := OC.lp en_cmpStr 1024 Tryz.func47 [] (by kernel_rfl) trivial (fun _ => by kernel_rfl)
end Go.Proofs.YtiblijkhpmemeaaGreat
