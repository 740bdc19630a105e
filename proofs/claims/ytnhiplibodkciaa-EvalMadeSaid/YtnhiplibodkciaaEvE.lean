/- Parts of values: both sides come to the same. -/
import Derived.Test.YtnhiplibodkciaaEvD
namespace Go.Proofs.Ytnhiplibodkciaa
open Go.PI Go

def okV (c : Bool) (v : Val) : Val × Bool := if c = true then (v, true) else (zV, false)
def un (op : Int) (a : Val) : Val × Bool := if op = 3 then okV (decide (a.1 = 1 ∧ a.2.1 ≠ -9223372036854775808)) (iV (-a.2.1)) else okV (decide (a.1 = 3)) (bV (!a.2.2.2))
def bi0 (op : Int) (a b : Val) : Val × Bool :=
  if op = 4 then okV (decide (a.1 = 1 ∧ In64 (a.2.1 + b.2.1))) (iV (a.2.1 + b.2.1))
  else if op = 5 then okV (decide (a.1 = 1 ∧ In64 (a.2.1 - b.2.1))) (iV (a.2.1 - b.2.1))
  else if op = 6 then okV (decide (a.1 = 1 ∧ In64 (a.2.1 * b.2.1))) (iV (a.2.1 * b.2.1))
  else if op = 14 then okV (decide (a.1 = 3)) (bV (a.2.2.2 && b.2.2.2))
  else if op = 15 then okV (decide (a.1 = 3)) (bV (a.2.2.2 || b.2.2.2))
  else (bV (cmpT op (lessV a b) (sameV a b)), true)
def bi (op : Int) (a b : Val) : Val × Bool := if a.1 = b.1 then bi0 op a b else (zV, false)

theorem un_VN {op : Int} {a : Val} (ha : VN a) (h : (un op a).2 = true) : VN (un op a).1 := by
  unfold un okV at h ⊢
  split
  · rename_i h3
    simp only [h3, ↓reduceIte] at h
    split
    · rename_i hc
      simp only [decide_eq_true_eq] at hc
      cases ha with
      | i n hn =>
        refine .i _ ?_
        obtain ⟨n1, n2⟩ := hn
        have := hc.2
        dsimp only at this ⊢
        unfold In64; omega
      | s x => exact absurd (show (2 : Int) = 1 from hc.1) (by decide)
      | b t => exact absurd (show (3 : Int) = 1 from hc.1) (by decide)
    · rename_i hc; simp only [hc] at h; cases h
  · rename_i h3
    simp only [h3, ↓reduceIte] at h
    split
    · exact .b _
    · rename_i hc; simp only [hc] at h; cases h
theorem bi_VN {op : Int} {a b : Val} (h : (bi op a b).2 = true) : VN (bi op a b).1 := by
  unfold bi bi0 okV at h ⊢
  by_cases he : a.1 = b.1
  · simp only [he, ↓reduceIte] at h ⊢
    repeat' split
    all_goals first
      | exact .b _
      | (rename_i hc; simp only [decide_eq_true_eq] at hc; exact .i _ hc.2)
      | (exfalso; simp only [*, ↓reduceIte] at h; cases h)
  · simp only [he, ↓reduceIte] at h; cases h

theorem numbers1 (a : Val) (ha : VN a) : numbersE (3, [a], ()) = some (un 3 a, ()) := by
  unfold numbersE numbersE_B
  simp only [Br.run]
  rw [numbersE_w0_at 3 [a] (by simp) 0 (by omega) (by simp)]
  cases ha with
  | i n hn =>
    have e : ((List.drop (Int.toNat 0) [iV n]).all fun x => x.1 == 1) = true := rfl
    have el : (decide ((0 : Nat) ≤ 0) && decide ((0 : Int) < ((List.length [iV n] : Nat) : Int))) = true := rfl
    rw [if_pos e]
    simp only [Br.run]
    show (bif (decide ((0 : Int) ≤ 0) && decide ((0 : Int) < ((List.length [iV n] : Nat) : Int))) then _ else _) = _
    show Br.run (.opt (negN (n, ())) _) = _
    rw [negN_at hn]
    by_cases h : n = -9223372036854775808
    · subst h; rfl
    · simp only [ne_eq, h, not_false_eq_true, ↓reduceIte, Br.run, un, okV, true_and, decide_true]
      unfold numV numV_B
      simp only [Br.run, Bool.not_true, cond_false]
  | s x => rfl
  | b t => rfl
theorem truths1 (op : Int) (h : op = 13) (a : Val) (ha : VN a) : truthsE (op, [a], ()) = some (un op a, ()) := by
  subst h
  unfold truthsE truthsE_B
  simp only [Br.run]
  rw [truthsE_w0_at 13 [a] (by simp) 0 (by omega) (by simp)]
  cases ha with
  | i n hn => rfl
  | s x => rfl
  | b t => rfl
theorem apply1 {op : Int} (h : op = 3 ∨ op = 13) {a : Val} (ha : VN a) : applyE (op, [a], ()) = some (un op a, ()) := by
  unfold applyE applyE_B
  rcases h with rfl | rfl
  · have : decide ((3 : Int) ≤ 6) = true := rfl
    simp only [Br.run, this, cond_true, numbers1 a ha]
  · have : decide ((13 : Int) ≤ 6) = false := rfl
    have h2 : decide ((13 : Int) ≤ 12) = false := rfl
    simp only [Br.run, this, h2, cond_false, truths1 13 rfl a ha]

theorem numbers2 (op : Int) (h : op = 4 ∨ op = 5 ∨ op = 6) {a b : Val} (ha : VN a) (hb : VN b) : numbersE (op, [a, b], ()) = some (bi op a b, ()) := by
  unfold numbersE numbersE_B
  simp only [Br.run]
  rw [numbersE_w0_at op [a, b] (by simp) 0 (by omega) (by simp)]
  cases ha with
  | i n hn =>
    cases hb with
    | i m hm =>
      have e : ((List.drop (Int.toNat 0) [iV n, iV m]).all fun x => x.1 == 1) = true := rfl
      rw [if_pos e]
      simp only [Br.run]
      rcases h with rfl | rfl | rfl
      · show Br.run (.opt (addN (n, m, ())) _) = _
        rw [addN_at hn hm]
        by_cases h : In64 (n + m)
        · simp only [h, ↓reduceIte, Br.run, bi, bi0, okV, true_and, decide_true]
          rfl
        · simp only [h, ↓reduceIte, Br.run, bi, bi0, okV, true_and, decide_false]
          rfl
      · show Br.run (.opt (subN (n, m, ())) _) = _
        rw [subN_at hn hm]
        by_cases h : In64 (n - m)
        · have e : bi 5 (iV n) (iV m) = okV (decide ((1 : Int) = 1 ∧ In64 (n - m))) (iV (n - m)) := rfl
          rw [e]
          simp only [h, ↓reduceIte, Br.run, okV, true_and, decide_true]
          rfl
        · have e : bi 5 (iV n) (iV m) = okV (decide ((1 : Int) = 1 ∧ In64 (n - m))) (iV (n - m)) := rfl
          rw [e]
          simp only [h, ↓reduceIte, Br.run, okV, true_and, decide_false]
          rfl
      · show Br.run (.opt (mulN (n, m, ())) _) = _
        rw [mulN_at hn hm]
        by_cases h : In64 (n * m)
        · have e : bi 6 (iV n) (iV m) = okV (decide ((1 : Int) = 1 ∧ In64 (n * m))) (iV (n * m)) := rfl
          rw [e]
          simp only [h, ↓reduceIte, Br.run, okV, true_and, decide_true]
          rfl
        · have e : bi 6 (iV n) (iV m) = okV (decide ((1 : Int) = 1 ∧ In64 (n * m))) (iV (n * m)) := rfl
          rw [e]
          simp only [h, ↓reduceIte, Br.run, okV, true_and, decide_false]
          rfl
    | s y => rcases h with rfl | rfl | rfl <;> rfl
    | b t => rcases h with rfl | rfl | rfl <;> rfl
  | s x => cases hb <;> rcases h with rfl | rfl | rfl <;> rfl
  | b t => cases hb <;> rcases h with rfl | rfl | rfl <;> rfl

theorem truths2 (op : Int) (h : op = 14 ∨ op = 15) {a b : Val} (ha : VN a) (hb : VN b) : truthsE (op, [a, b], ()) = some (bi op a b, ()) := by
  unfold truthsE truthsE_B
  simp only [Br.run]
  rw [truthsE_w0_at op [a, b] (by simp) 0 (by omega) (by simp)]
  cases ha with
  | i n hn => cases hb <;> rcases h with rfl | rfl <;> rfl
  | s x => cases hb <;> rcases h with rfl | rfl <;> rfl
  | b t =>
    cases hb with
    | i m hm => cases t <;> rcases h with rfl | rfl <;> rfl
    | s y => cases t <;> rcases h with rfl | rfl <;> rfl
    | b u => cases t <;> cases u <;> rcases h with rfl | rfl <;> rfl

theorem apply2 {op : Int} (h1 : 4 ≤ op) (h2 : op ≤ 15) (h3 : op ≠ 13) {a b : Val} (ha : VN a) (hb : VN b) : applyE (op, [a, b], ()) = some (bi op a b, ()) := by
  unfold applyE applyE_B
  simp only [Br.run, cond_eq_ite, decide_eq_true_eq]
  by_cases c1 : op ≤ 6
  · simp only [c1, ↓reduceIte, numbers2 op (by omega) ha hb, Br.run]
  simp only [c1, ↓reduceIte]
  by_cases c2 : op ≤ 12
  · simp only [c2, ↓reduceIte]
    obtain ⟨c, hc, hk⟩ := compareV_at ha hb
    have e0 : (decide ((0 : Int) ≤ 0) && decide ((0 : Int) < ((List.length [a, b] : Nat) : Int))) = true := rfl
    have e1 : (decide ((0 : Int) ≤ 1) && decide ((1 : Int) < ((List.length [a, b] : Nat) : Int))) = true := rfl
    show (if (decide ((0 : Int) ≤ 0) && decide ((0 : Int) < ((List.length [a, b] : Nat) : Int))) = true then _ else _) = _
    rw [if_pos e0]
    show (if (decide ((0 : Int) ≤ 1) && decide ((1 : Int) < ((List.length [a, b] : Nat) : Int))) = true then _ else _) = _
    rw [if_pos e1]
    show Br.run (.opt (compareV (a, b, ())) _) = _
    rw [hc]
    by_cases he : a.1 = b.1
    · obtain ⟨k1, k2⟩ := hk he
      simp only [he, ↓reduceIte, Br.run, Bool.not_true, Bool.false_eq_true, holdsE_at, k1, k2, truthV, truthV_B, cond_false]
      unfold bi bi0
      have q1 : op ≠ 4 := by omega
      have q2 : op ≠ 5 := by omega
      have q3 : op ≠ 6 := by omega
      have q4 : op ≠ 14 := by omega
      have q5 : op ≠ 15 := by omega
      simp only [he, q1, q2, q3, q4, q5, ↓reduceIte]
    · simp only [he, ↓reduceIte, Br.run, Bool.not_false, cond_true, bi]
  · simp only [c2, ↓reduceIte, truths2 op (by omega) ha hb, Br.run]

theorem both_at {op : Int} (h1 : 4 ≤ op) (h2 : op ≤ 15) (h3 : op ≠ 13) {a b : Val} (ha : VN a) (hb : VN b) (he : a.1 = b.1) :
    ∃ v, bothR (op, a, b, ()) = some ((v, (bi op a b).2), ()) ∧ ((bi op a b).2 = true → v = (bi op a b).1) := by
  have hop : op = 4 ∨ op = 5 ∨ op = 6 ∨ op = 7 ∨ op = 8 ∨ op = 9 ∨ op = 10 ∨ op = 11 ∨ op = 12 ∨ op = 14 ∨ op = 15 := by omega
  cases ha with
  | i n hn =>
    cases hb with
    | i m hm =>
      rcases hop with rfl | rfl | rfl | rfl | rfl | rfl | rfl | rfl | rfl | rfl | rfl
      · refine ⟨iV (IntKind.wrap .i64 (n + m)), ?_, ?_⟩
        · show Br.run (.opt (fitsR (n, m, false, ())) _) = _
          rw [fitsR_add hn hm]
          show some _ = some ((iV (IntKind.wrap .i64 (n + m)), (okV (decide ((1 : Int) = 1 ∧ In64 (n + m))) (iV (n + m))).2), ())
          by_cases h : In64 (n + m) <;> simp [okV, h, Br.run]
        · intro h
          have h : (okV (decide ((1 : Int) = 1 ∧ In64 (n + m))) (iV (n + m))).2 = true := h
          show _ = (okV (decide ((1 : Int) = 1 ∧ In64 (n + m))) (iV (n + m))).1
          by_cases hi : In64 (n + m)
          · simp [okV, hi, wrap_in hi]
          · simp [okV, hi] at h
      · refine ⟨iV (IntKind.wrap .i64 (n - m)), ?_, ?_⟩
        · show Br.run (.opt (fitsR (n, m, true, ())) _) = _
          rw [fitsR_sub hn hm]
          show some _ = some ((iV (IntKind.wrap .i64 (n - m)), (okV (decide ((1 : Int) = 1 ∧ In64 (n - m))) (iV (n - m))).2), ())
          by_cases h : In64 (n - m) <;> simp [okV, h, Br.run]
        · intro h
          have h : (okV (decide ((1 : Int) = 1 ∧ In64 (n - m))) (iV (n - m))).2 = true := h
          show _ = (okV (decide ((1 : Int) = 1 ∧ In64 (n - m))) (iV (n - m))).1
          by_cases hi : In64 (n - m)
          · simp [okV, hi, wrap_in hi]
          · simp [okV, hi] at h
      · refine ⟨iV (IntKind.wrap .i64 (n * m)), ?_, ?_⟩
        · show Br.run (.opt (productR (n, m, ())) _) = _
          rw [productR_at hn hm]
          show some _ = some ((iV (IntKind.wrap .i64 (n * m)), (okV (decide ((1 : Int) = 1 ∧ In64 (n * m))) (iV (n * m))).2), ())
          by_cases h : In64 (n * m) <;> simp [okV, h, Br.run]
        · intro h
          have h : (okV (decide ((1 : Int) = 1 ∧ In64 (n * m))) (iV (n * m))).2 = true := h
          show _ = (okV (decide ((1 : Int) = 1 ∧ In64 (n * m))) (iV (n * m))).1
          by_cases hi : In64 (n * m)
          · simp [okV, hi, wrap_in hi]
          · simp [okV, hi] at h
      iterate 6
        · refine ⟨_, ?_, fun _ => rfl⟩
          by_cases hl : n < m
          · have hne : ¬ n = m := by omega
            unfold bothR bothR_B
            simp [Br.run, bi, bi0, lessV, sameV, cmpT, hl, hne]
          · by_cases hq : n = m
            · unfold bothR bothR_B
              subst hq
              simp [Br.run, bi, bi0, lessV, sameV, cmpT]
            · unfold bothR bothR_B
              simp [Br.run, bi, bi0, lessV, sameV, cmpT, hl, hq]
      · exact ⟨_, rfl, fun h => by cases h⟩
      · exact ⟨_, rfl, fun h => by cases h⟩
    | s y => cases he
    | b t => cases he
  | s x =>
    cases hb with
    | i m hm => cases he
    | s y =>
      rcases hop with rfl | rfl | rfl | rfl | rfl | rfl | rfl | rfl | rfl | rfl | rfl
      iterate 3
        · exact ⟨_, rfl, fun h => by cases h⟩
      iterate 6
        · refine ⟨_, ?_, fun _ => rfl⟩
          unfold bothR bothR_B
          cases hl : Op.bytesLess (bl x) (bl y) <;> cases hq : (bl x == bl y) <;> simp [Br.run, bi, bi0, lessV, sameV, cmpT, hl, hq]
      · exact ⟨_, rfl, fun h => by cases h⟩
      · exact ⟨_, rfl, fun h => by cases h⟩
    | b t => cases he
  | b t =>
    cases hb with
    | i m hm => cases he
    | s y => cases he
    | b u =>
      rcases hop with rfl | rfl | rfl | rfl | rfl | rfl | rfl | rfl | rfl | rfl | rfl
      iterate 3
        · exact ⟨_, rfl, fun h => by cases h⟩
      iterate 8
        · cases t <;> cases u <;> exact ⟨_, rfl, fun _ => rfl⟩
end Go.Proofs.Ytnhiplibodkciaa
