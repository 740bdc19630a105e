/- What Eval comes to: part by part. -/
import Derived.Test.YtnhiplibodkciaaEvD0
namespace Go.Proofs.Ytnhiplibodkciaa
open Go.PI Go

theorem addN_tot (a b : Int) : ∃ v t, addN (a, b, ()) = some ((v, t), ()) := by
  unfold addN addN_B
  simp only [Br.run, cond_eq_ite]
  repeat' split
  all_goals exact ⟨_, _, rfl⟩
theorem subN_tot (a b : Int) : ∃ v t, subN (a, b, ()) = some ((v, t), ()) := by
  unfold subN subN_B
  simp only [Br.run, cond_eq_ite]
  repeat' split
  all_goals exact ⟨_, _, rfl⟩
theorem mulN_tot (a b : Int) : ∃ v t, mulN (a, b, ()) = some ((v, t), ()) := by
  unfold mulN mulN_B
  simp only [Br.run, cond_eq_ite, beq_iff_eq, decide_eq_true_eq]
  by_cases b0 : b = 0
  · simp only [b0, ↓reduceIte]
    split <;> exact ⟨_, _, rfl⟩
  simp only [b0, ↓reduceIte]
  repeat' split
  all_goals exact ⟨_, _, rfl⟩
theorem negN_tot (a : Int) : ∃ v t, negN (a, ()) = some ((v, t), ()) := by
  unfold negN negN_B
  obtain ⟨v, t, h⟩ := subN_tot 0 a
  simp only [Br.run, h]
  exact ⟨_, _, rfl⟩
theorem compareV_tot (a b : Val) : ∃ v t, compareV (a, b, ()) = some ((v, t), ()) := by
  unfold compareV compareV_B bitV bitV_B compareS compareS_B cmpStr signV signV_B
  simp only [Br.run, cond_eq_ite]
  repeat' split
  all_goals first
    | exact ⟨_, _, rfl⟩
    | (cases decide (a.2.1 > b.2.1) <;> cases decide (a.2.1 < b.2.1) <;> exact ⟨_, _, rfl⟩)
    | (cases a.2.2.2 <;> cases b.2.2.2 <;> exact ⟨_, _, rfl⟩)
theorem numbersE_tot (op : Int) (k : List Val) (hk : k.length ≤ 64) (h1 : 1 ≤ k.length) (h2 : op ≠ 3 → 2 ≤ k.length) : ∃ v t, numbersE (op, k, ()) = some ((v, t), ()) := by
  unfold numbersE numbersE_B numV numV_B
  simp only [Br.run]
  rw [numbersE_w0_at op k hk 0 (by omega) (by omega)]
  split
  · simp only [Br.run]
    have e0 : (decide ((0 : Int) ≤ 0) && decide ((0 : Int) < ((List.length k : Nat) : Int))) = true := by simp; omega
    have e0' : (decide ((0 : Nat) ≤ 0) && decide ((0 : Int) < ((List.length k : Nat) : Int))) = true := by simp; omega
    obtain ⟨v3, t3, q3⟩ := negN_tot (Prod.fst (Prod.snd (List.getD k (Int.toNat 0) (0, 0, ByteArray.empty, false))))
    obtain ⟨v4, t4, q4⟩ := addN_tot (Prod.fst (Prod.snd (List.getD k (Int.toNat 0) (0, 0, ByteArray.empty, false)))) (Prod.fst (Prod.snd (List.getD k (Int.toNat 1) (0, 0, ByteArray.empty, false))))
    obtain ⟨v5, t5, q5⟩ := subN_tot (Prod.fst (Prod.snd (List.getD k (Int.toNat 0) (0, 0, ByteArray.empty, false)))) (Prod.fst (Prod.snd (List.getD k (Int.toNat 1) (0, 0, ByteArray.empty, false))))
    obtain ⟨v6, t6, q6⟩ := mulN_tot (Prod.fst (Prod.snd (List.getD k (Int.toNat 0) (0, 0, ByteArray.empty, false)))) (Prod.fst (Prod.snd (List.getD k (Int.toNat 1) (0, 0, ByteArray.empty, false))))
    simp only [e0, e0', cond_true, q3, q4, q5, q6, Br.run]
    by_cases c3 : op = 3
    · simp only [c3, cond_eq_ite, beq_self_eq_true, ↓reduceIte]
      cases t3 <;> exact ⟨_, _, rfl⟩
    · have e1 : (decide ((0 : Int) ≤ 1) && decide ((1 : Int) < ((List.length k : Nat) : Int))) = true := by have := h2 c3; simp; omega
      have e1' : (decide ((0 : Nat) ≤ 1) && decide ((1 : Int) < ((List.length k : Nat) : Int))) = true := by have := h2 c3; simp; omega
      have hk1 : (1 : Int) < ((List.length k : Nat) : Int) := by have := h2 c3; omega
      simp only [e1, e1', cond_true, cond_eq_ite, decide_eq_true hk1, Int.reduceLE, Nat.reduceLeDiff, decide_true, Bool.and_self, ↓reduceIte]
      repeat' split
      all_goals exact ⟨_, _, rfl⟩
  · exact ⟨_, _, rfl⟩
theorem truthsE_tot (op : Int) (k : List Val) (hk : k.length ≤ 64) (h1 : 1 ≤ k.length) (h2 : op ≠ 13 → 2 ≤ k.length) : ∃ v t, truthsE (op, k, ()) = some ((v, t), ()) := by
  unfold truthsE truthsE_B truthV truthV_B
  simp only [Br.run]
  rw [truthsE_w0_at op k hk 0 (by omega) (by omega)]
  split
  · simp only [Br.run]
    have e0 : (decide ((0 : Int) ≤ 0) && decide ((0 : Int) < ((List.length k : Nat) : Int))) = true := by simp; omega
    have e0' : (decide ((0 : Nat) ≤ 0) && decide ((0 : Int) < ((List.length k : Nat) : Int))) = true := by simp; omega
    simp only [e0, e0', cond_true, Br.run]
    by_cases c3 : op = 13
    · simp only [c3, cond_eq_ite, beq_self_eq_true, ↓reduceIte]
      exact ⟨_, _, rfl⟩
    · have e1 : (decide ((0 : Int) ≤ 1) && decide ((1 : Int) < ((List.length k : Nat) : Int))) = true := by have := h2 c3; simp; omega
      have e1' : (decide ((0 : Nat) ≤ 1) && decide ((1 : Int) < ((List.length k : Nat) : Int))) = true := by have := h2 c3; simp; omega
      have hk1 : (1 : Int) < ((List.length k : Nat) : Int) := by have := h2 c3; omega
      simp only [e1, e1', cond_true, cond_eq_ite, decide_eq_true hk1, Int.reduceLE, Nat.reduceLeDiff, decide_true, Bool.and_self, ↓reduceIte]
      repeat' split
      all_goals exact ⟨_, _, rfl⟩
  · exact ⟨_, _, rfl⟩
theorem applyE_tot (op : Int) (k : List Val) (hk : k.length ≤ 64) (h0 : 1 ≤ pt op) (h1 : k.length = (pt op).toNat) : ∃ v t, applyE (op, k, ()) = some ((v, t), ()) := by
  have hl : 1 ≤ k.length ∧ (op ≠ 3 → op ≠ 13 → 2 ≤ k.length) ∧ (op = 3 ∨ 4 ≤ op) := by
    unfold pt at h0 h1
    repeat' split at h0
    all_goals first | omega | (refine ⟨?_, ?_, ?_⟩ <;> (repeat' split at h1) <;> omega)
  unfold applyE applyE_B truthV truthV_B
  simp only [Br.run, cond_eq_ite, decide_eq_true_eq]
  by_cases c1 : op ≤ 6
  · obtain ⟨v, t, q⟩ := numbersE_tot op k hk hl.1 (fun h3 => hl.2.1 h3 (by omega))
    simp only [c1, ↓reduceIte, q, Br.run]
    exact ⟨_, _, rfl⟩
  simp only [c1, ↓reduceIte]
  by_cases c2 : op ≤ 12
  · obtain ⟨v, t, q⟩ := compareV_tot (List.getD k (Int.toNat 0) (0, 0, ByteArray.empty, false)) (List.getD k (Int.toNat 1) (0, 0, ByteArray.empty, false))
    have h2 := hl.2.1 (by omega) (by omega)
    have e0 : (decide ((0 : Int) ≤ 0) && decide ((0 : Int) < ((List.length k : Nat) : Int))) = true := by simp; omega
    have e0' : (decide ((0 : Nat) ≤ 0) && decide ((0 : Int) < ((List.length k : Nat) : Int))) = true := by simp; omega
    have e1 : (decide ((0 : Int) ≤ 1) && decide ((1 : Int) < ((List.length k : Nat) : Int))) = true := by simp; omega
    have e1' : (decide ((0 : Nat) ≤ 1) && decide ((1 : Int) < ((List.length k : Nat) : Int))) = true := by simp; omega
    simp only [c2, ↓reduceIte, e0, e0', e1, e1', q, Br.run, holdsE_at]
    cases t <;> exact ⟨_, _, rfl⟩
  · obtain ⟨v, t, q⟩ := truthsE_tot op k hk hl.1 (fun h3 => hl.2.1 (by omega) h3)
    simp only [c2, ↓reduceIte, q, Br.run]
    exact ⟨_, _, rfl⟩
end Go.Proofs.Ytnhiplibodkciaa
