/- Predicates as trees: what both sides come to. -/
import Derived.Test.YtnhiplibodkciaaEvH
namespace Go.Proofs.Ytnhiplibodkciaa
open Go.PI Go

inductive Tm
  | leaf (n : Nd) | un (n : Nd) (t : Tm) | bin (n : Nd) (a b : Tm)
def Tm.flat : Tm → List Nd
  | .leaf n => [n]
  | .un n t => t.flat ++ [n]
  | .bin n a b => a.flat ++ b.flat ++ [n]
def evT (L : Nd → Val × Bool) : Tm → Val × Bool
  | .leaf n => L n
  | .un n t => if (evT L t).2 = true then un n.1 (evT L t).1 else (zV, false)
  | .bin n a b => if (evT L a).2 = true ∧ (evT L b).2 = true then bi n.1 (evT L a).1 (evT L b).1 else (zV, false)

/-- What a leaf comes to, on both sides. -/
structure LeafOk (s : Sch) (env : List Bnd) (L : Nd → Val × Bool) (n : Nd) : Prop where
  ok : nodeOk n = true
  op : n.1 = 1 ∨ n.1 = 2
  vn : (L n).2 = true → VN (L n).1
  c : n.1 = 1 → L n = (n.2.1, true)
  f : n.1 = 2 → ∃ v, fieldV (s, env, n, ()) = some ((v, (L n).2), ()) ∧ ((L n).2 = true → v = (L n).1)
  r : n.1 = 2 → ∀ at' : Int, ∃ z, evalR_w0 (env, at', 0, zV, n, ()) = some z ∧ ((∃ v, z = .inl ((L n).2, at', v, ()) ∧ ((L n).2 = true → v = (L n).1)) ∨ (∃ v, z = .inr (at', v, ()) ∧ (L n).2 = false))

def TmOk (s : Sch) (env : List Bnd) (L : Nd → Val × Bool) : Tm → Prop
  | .leaf n => LeafOk s env L n
  | .un n t => nodeOk n = true ∧ (n.1 = 3 ∨ n.1 = 13) ∧ TmOk s env L t
  | .bin n a b => nodeOk n = true ∧ (4 ≤ n.1 ∧ n.1 ≤ 15 ∧ n.1 ≠ 13) ∧ TmOk s env L a ∧ TmOk s env L b

variable {s : Sch} {env : List Bnd} {L : Nd → Val × Bool}

theorem evT_VN : ∀ {t : Tm}, TmOk s env L t → (evT L t).2 = true → VN (evT L t).1
  | .leaf n, h, h2 => h.vn h2
  | .un n t, h, h2 => by
    have ih := evT_VN h.2.2
    simp only [evT] at h2 ⊢
    by_cases c : (evT L t).2 = true
    · rw [if_pos c] at h2 ⊢
      exact un_VN (ih c) h2
    · rw [if_neg c] at h2
      cases h2
  | .bin n a b, h, h2 => by
    simp only [evT] at h2 ⊢
    by_cases c : (evT L a).2 = true ∧ (evT L b).2 = true
    · rw [if_pos c] at h2 ⊢
      exact bi_VN h2
    · rw [if_neg c] at h2
      cases h2

theorem pt_un {op : Int} (h : op = 3 ∨ op = 13) : pt op = 1 := by rcases h with rfl | rfl <;> rfl
theorem pt_bin {op : Int} (h : 4 ≤ op ∧ op ≤ 15 ∧ op ≠ 13) : pt op = 2 := by
  obtain ⟨h1, h2, h3⟩ := h
  unfold pt
  rw [if_neg (by omega), if_neg (by omega), if_neg (by omega), if_neg h3, if_pos h1, if_pos h2]

theorem runD_flat : ∀ {t : Tm}, TmOk s env L t → ∀ (d : Int) (r : List Nd), 0 ≤ d → runD d (t.flat ++ r) = runD (d + 1) r
  | .leaf n, h, d, r, hd => by
    have hp := pt_one h.op
    show runD d (n :: r) = _
    simp only [runD, hp, h.ok, Bool.true_eq_false, ↓reduceIte]
    rw [if_neg (by omega), if_neg (by omega)]
    congr 1
    omega
  | .un n t, h, d, r, hd => by
    have hp := pt_un h.2.1
    show runD d ((t.flat ++ [n]) ++ r) = _
    rw [List.append_assoc, runD_flat h.2.2 d _ hd]
    simp only [List.cons_append, List.nil_append, runD, hp, h.1, Bool.true_eq_false, ↓reduceIte]
    rw [if_neg (by omega), if_neg (by omega)]
    congr 1
    omega
  | .bin n a b, h, d, r, hd => by
    have hp := pt_bin h.2.1
    show runD d ((a.flat ++ b.flat ++ [n]) ++ r) = _
    rw [List.append_assoc, List.append_assoc, runD_flat h.2.2.1 d _ hd, runD_flat h.2.2.2 (d + 1) _ (by omega)]
    simp only [List.cons_append, List.nil_append, runD, hp, h.1, Bool.true_eq_false, ↓reduceIte]
    rw [if_neg (by omega), if_neg (by omega)]
    congr 1
    omega

theorem optV_some (v : Val) : optV (some ((v, true), ())) = some v := rfl
theorem optV_none (v : Val) : optV (some ((v, false), ())) = none := rfl
theorem un_none {op : Int} {a : Val} (h : (un op a).2 = false) : optV (some (un op a, ())) = none := by
  cases hx : un op a with
  | mk v b => rw [hx] at h; cases h; rfl
theorem opt_val (x : Val × Bool) : optV (some (x, ())) = if x.2 = true then some x.1 else none := by
  obtain ⟨v, b⟩ := x
  cases b <;> rfl

theorem foldS_flat : ∀ {t : Tm}, TmOk s env L t → ∀ (st : List Val) (r : List Nd), foldS s env st (t.flat ++ r) = if (evT L t).2 = true then foldS s env (st ++ [(evT L t).1]) r else none
  | .leaf n, h, st, r => by
    have hp := pt_one h.op
    show foldS s env st (n :: r) = _
    have e0 : st.take (st.length - (pt n.1).toNat) = st := by rw [hp]; exact List.take_of_length_le (by simp)
    simp only [foldS, e0, evT]
    rcases h.op with h1 | h2
    · have hc := h.c h1
      simp only [valS, if_pos h1, hc, ↓reduceIte]
    · have h1 : ¬ n.1 = 1 := by omega
      obtain ⟨v, hf, hv⟩ := h.f h2
      simp only [valS, if_neg h1, if_pos h2, hf]
      by_cases hb : (L n).2 = true
      · simp only [hb, optV_some, ↓reduceIte, hv hb]
      · have hb' : (L n).2 = false := by simpa using hb
        simp only [hb', optV_none, Bool.false_eq_true, ↓reduceIte]
  | .un n t, h, st, r => by
    have hp := pt_un h.2.1
    show foldS s env st ((t.flat ++ [n]) ++ r) = _
    rw [List.append_assoc, foldS_flat h.2.2 st _]
    simp only [evT]
    by_cases c : (evT L t).2 = true
    · simp only [c, ↓reduceIte, List.cons_append, List.nil_append, foldS]
      have hop := h.2.1
      have h1 : ¬ n.1 = 1 := by omega
      have h2 : ¬ n.1 = 2 := by omega
      have el : (st ++ [(evT L t).1]).length - (pt n.1).toNat = st.length := by rw [hp, List.length_append]; simp
      simp only [valS, h1, h2, ↓reduceIte, el, List.drop_left', List.take_left', apply1 h.2.1 (evT_VN h.2.2 c), opt_val]
      by_cases c2 : (un n.1 (evT L t).1).2 = true
      · simp only [c2, ↓reduceIte]
      · simp only [c2, ↓reduceIte, Bool.false_eq_true]
    · simp only [c, ↓reduceIte, Bool.false_eq_true]
  | .bin n a b, h, st, r => by
    have hp := pt_bin h.2.1
    show foldS s env st ((a.flat ++ b.flat ++ [n]) ++ r) = _
    rw [List.append_assoc, List.append_assoc, foldS_flat h.2.2.1 st _]
    simp only [evT]
    by_cases c : (evT L a).2 = true
    · simp only [c, ↓reduceIte, true_and]
      rw [foldS_flat h.2.2.2 _ _]
      by_cases c' : (evT L b).2 = true
      · simp only [c', ↓reduceIte, List.cons_append, List.nil_append, foldS]
        have hop := h.2.1
        have h1 : ¬ n.1 = 1 := by omega
        have h2 : ¬ n.1 = 2 := by omega
        have el : (st ++ [(evT L a).1] ++ [(evT L b).1]).length - (pt n.1).toNat = st.length := by rw [hp, List.length_append, List.length_append]; simp
        have e2 : st ++ [(evT L a).1] ++ [(evT L b).1] = st ++ [(evT L a).1, (evT L b).1] := by simp
        simp only [valS, h1, h2, ↓reduceIte, el]
        rw [e2]
        simp only [List.drop_left', List.take_left', apply2 h.2.1.1 h.2.1.2.1 h.2.1.2.2 (evT_VN h.2.2.1 c) (evT_VN h.2.2.2 c'), opt_val]
        by_cases c2 : (bi n.1 (evT L a).1 (evT L b).1).2 = true
        · simp only [c2, ↓reduceIte]
        · simp only [c2, ↓reduceIte, Bool.false_eq_true]
      · simp only [c', ↓reduceIte, Bool.false_eq_true]
    · simp only [c, ↓reduceIte, Bool.false_eq_true, false_and]

theorem flat_pos : ∀ t : Tm, 1 ≤ t.flat.length
  | .leaf n => by simp [Tm.flat]
  | .un n t => by simp [Tm.flat]
  | .bin n a b => by simp [Tm.flat]; omega

theorem eval_tree (hF : FvTot s env) {t : Tm} (h : TmOk s env L t) (hl : t.flat.length ≤ 64) : evalE (s, t.flat, env, ()) = some (if (evT L t).2 = true then ((evT L t).1, true) else (zV, false), ()) := by
  rw [evalE_at hF]
  have h1 := runD_flat h 0 [] (by omega)
  rw [List.append_nil] at h1
  have h2 := foldS_flat h [] []
  rw [List.append_nil] at h2
  rw [if_pos ⟨hl, h1⟩, h2]
  by_cases c : (evT L t).2 = true
  · simp only [c, ↓reduceIte, foldS]
    rfl
  · simp only [c, ↓reduceIte, Bool.false_eq_true]
end Go.Proofs.Ytnhiplibodkciaa
