/- Predicates as trees: what both sides come to. Predicates as trees: what the reference comes to, from the root on. Constants and parts of predicates that may be. Contracts of functions. Printed by auto.py. Chains of pairs and of bound events: one more. A context: events made, beside the chains. Contracts of functions. Printed by auto.py. Contracts of functions. Printed by auto.py. List's contract, of a chain of bound events. A context: chains' lists, events, runs. Contracts of functions. Printed by auto.py. What guards come to: whatever is asked, an answer. Blocks: whether one of the elements that must not be there fits; the statement's own loop comes to the same. -/
import Derived.Test.YtiblijkhpmemeaaGreatEvH0
import Derived.Test.YtiblijkhpmemeaaGreatHd
import Derived.Test.YtiblijkhpmemeaaGreatHa
import Derived.Test.YtiblijkhpmemeaaGreatHb
import Derived.Test.YtiblijkhpmemeaaGreatGe
import Derived.Test.YtiblijkhpmemeaaGreatHc
namespace Go.Proofs.YtiblijkhpmemeaaGreat
open Go.PI Go
inductive Tm
 | leaf (n : Nd) | un (n : Nd) (t : Tm) | bin (n : Nd) (a b : Tm)
def Tm.flat : Tm → List Nd
 | .leaf n => [n]
 | .un n t => t.flat ++ [n]
 | .bin n a b => a.flat ++ b.flat ++ [n]
def evT (L : Nd → Val × Bool) : Tm → Val × Bool
 | .leaf n => L n
 | .un n t => if (evT L t).2 = true then un n.1 (evT L t).1 else (zV, false)
 | .bin n a b => if (evT L a).2 = true ∧ (evT L b).2 = true then bi n.1 (evT L a).1 (evT L b).1 else (zV, false)
structure LeafOk (s : Sch) (env : List Bnd) (L : Nd → Val × Bool) (n : Nd) : Prop where
 ok : nodeOk n = true
 op : n.1 = 1 ∨ n.1 = 2
 vn : (L n).2 = true → VN (L n).1
 c : n.1 = 1 → L n = (n.2.1, true)
 f : n.1 = 2 → ∃ v, fieldV (s, env, n, ()) = some ((v, (L n).2), ()) ∧ ((L n).2 = true → v = (L n).1)
 r : n.1 = 2 → ∀ at' : Int, ∃ z, evalR_w0 (env, at', 0, zV, n, ()) = some z ∧ ((∃ v, z = .inl ((L n).2, at', v, ()) ∧ ((L n).2 = true → v = (L n).1)) ∨ (∃ v, z = .inr (at', v, ()) ∧ (L n).2 = false))
def TmOk (s : Sch) (env : List Bnd) (L : Nd → Val × Bool) : Tm → Prop
 | .leaf n => LeafOk s env L n
 | .un n t => nodeOk n = true ∧ (n.1 = 3 ∨ n.1 = 13) ∧ TmOk s env L t
 | .bin n a b => nodeOk n = true ∧ (4 ≤ n.1 ∧ n.1 ≤ 15 ∧ n.1 ≠ 13) ∧ TmOk s env L a ∧ TmOk s env L b
variable {s : Sch} {env : List Bnd} {L : Nd → Val × Bool}
theorem evT_VN : ∀ {t : Tm}, TmOk s env L t → (evT L t).2 = true → VN (evT L t).1
 | .leaf n, h, h2 => h.vn h2
 | .un n t, h, h2 => by
  have ih := evT_VN h.2.2
  simp only [evT] at h2 ⊢
  by_cases c : (evT L t).2 = true
  ·rw [if_pos c] at h2 ⊢
   exact un_VN (ih c) h2
  ·rw [if_neg c] at h2
   cases h2
 | .bin n a b, h, h2 => by
  simp only [evT] at h2 ⊢
  by_cases c : (evT L a).2 = true ∧ (evT L b).2 = true
  ·rw [if_pos c] at h2 ⊢
   exact bi_VN h2
  ·rw [if_neg c] at h2
   cases h2
theorem pt_un {op : Int} (h : op = 3 ∨ op = 13) : pt op = 1 := by rcases h with rfl | rfl <;> rfl
theorem pt_bin {op : Int} (h : 4 ≤ op ∧ op ≤ 15 ∧ op ≠ 13) : pt op = 2 := by
 obtain ⟨h1, h2, h3⟩ := h
 unfold pt
 rw [if_neg (by omega), if_neg (by omega), if_neg (by omega), if_neg h3, if_pos h1, if_pos h2]
theorem runD_flat : ∀ {t : Tm}, TmOk s env L t → ∀ (d : Int) (r : List Nd), 0 ≤ d → runD d (t.flat ++ r) = runD (d + 1) r
 | .leaf n, h, d, r, hd => by
  have hp := pt_one h.op
  show runD d (n :: r) = _
  simp only [runD, hp, h.ok, Bool.true_eq_false, ↓reduceIte]
  rw [if_neg (by omega), if_neg (by omega)]
  congr 1
  omega
 | .un n t, h, d, r, hd => by
  have hp := pt_un h.2.1
  show runD d ((t.flat ++ [n]) ++ r) = _
  rw [List.append_assoc, runD_flat h.2.2 d _ hd]
  simp only [List.cons_append, List.nil_append, runD, hp, h.1, Bool.true_eq_false, ↓reduceIte]
  rw [if_neg (by omega), if_neg (by omega)]
  congr 1
  omega
 | .bin n a b, h, d, r, hd => by
  have hp := pt_bin h.2.1
  show runD d ((a.flat ++ b.flat ++ [n]) ++ r) = _
  rw [List.append_assoc, List.append_assoc, runD_flat h.2.2.1 d _ hd, runD_flat h.2.2.2 (d + 1) _ (by omega)]
  simp only [List.cons_append, List.nil_append, runD, hp, h.1, Bool.true_eq_false, ↓reduceIte]
  rw [if_neg (by omega), if_neg (by omega)]
  congr 1
  omega
theorem optV_some (v : Val) : optV (some ((v, true), ())) = some v := rfl
theorem optV_none (v : Val) : optV (some ((v, false), ())) = none := rfl
theorem opt_val (x : Val × Bool) : optV (some (x, ())) = if x.2 = true then some x.1 else none := by
 obtain ⟨v, b⟩ := x
 cases b <;> rfl
theorem foldS_flat : ∀ {t : Tm}, TmOk s env L t → ∀ (st : List Val) (r : List Nd), foldS s env st (t.flat ++ r) = if (evT L t).2 = true then foldS s env (st ++ [(evT L t).1]) r else none
 | .leaf n, h, st, r => by
  have hp := pt_one h.op
  show foldS s env st (n :: r) = _
  have e0 : st.take (st.length - (pt n.1).toNat) = st := by rw [hp]; exact List.take_of_length_le (by simp)
  simp only [foldS, e0, evT]
  rcases h.op with h1 | h2
  ·have hc := h.c h1
   simp only [valS, if_pos h1, hc, ↓reduceIte]
  ·have h1 : ¬ n.1 = 1 := by omega
   obtain ⟨v, hf, hv⟩ := h.f h2
   simp only [valS, if_neg h1, if_pos h2, hf]
   by_cases hb : (L n).2 = true
   ·simp only [hb, optV_some, ↓reduceIte, hv hb]
   ·have hb' : (L n).2 = false := by simpa using hb
    simp only [hb', optV_none, Bool.false_eq_true, ↓reduceIte]
 | .un n t, h, st, r => by
  have hp := pt_un h.2.1
  show foldS s env st ((t.flat ++ [n]) ++ r) = _
  rw [List.append_assoc, foldS_flat h.2.2 st _]
  simp only [evT]
  by_cases c : (evT L t).2 = true
  ·simp only [c, ↓reduceIte, List.cons_append, List.nil_append, foldS]
   have hop := h.2.1
   have h1 : ¬ n.1 = 1 := by omega
   have h2 : ¬ n.1 = 2 := by omega
   have el : (st ++ [(evT L t).1]).length - (pt n.1).toNat = st.length := by rw [hp, List.length_append]; simp
   simp only [valS, h1, h2, ↓reduceIte, el, List.drop_left', List.take_left', apply1 h.2.1 (evT_VN h.2.2 c), opt_val]
   by_cases c2 : (un n.1 (evT L t).1).2 = true
   ·simp only [c2, ↓reduceIte]
   ·simp only [c2, ↓reduceIte, Bool.false_eq_true]
  ·simp only [c, ↓reduceIte, Bool.false_eq_true]
 | .bin n a b, h, st, r => by
  have hp := pt_bin h.2.1
  show foldS s env st ((a.flat ++ b.flat ++ [n]) ++ r) = _
  rw [List.append_assoc, List.append_assoc, foldS_flat h.2.2.1 st _]
  simp only [evT]
  by_cases c : (evT L a).2 = true
  ·simp only [c, ↓reduceIte, true_and]
   rw [foldS_flat h.2.2.2 _ _]
   by_cases c' : (evT L b).2 = true
   ·simp only [c', ↓reduceIte, List.cons_append, List.nil_append, foldS]
    have hop := h.2.1
    have h1 : ¬ n.1 = 1 := by omega
    have h2 : ¬ n.1 = 2 := by omega
    have el : (st ++ [(evT L a).1] ++ [(evT L b).1]).length - (pt n.1).toNat = st.length := by rw [hp, List.length_append, List.length_append]; simp
    have e2 : st ++ [(evT L a).1] ++ [(evT L b).1] = st ++ [(evT L a).1, (evT L b).1] := by simp
    simp only [valS, h1, h2, ↓reduceIte, el]
    rw [e2]
    simp only [List.drop_left', List.take_left', apply2 h.2.1.1 h.2.1.2.1 h.2.1.2.2 (evT_VN h.2.2.1 c) (evT_VN h.2.2.2 c'), opt_val]
    by_cases c2 : (bi n.1 (evT L a).1 (evT L b).1).2 = true
    ·simp only [c2, ↓reduceIte]
    ·simp only [c2, ↓reduceIte, Bool.false_eq_true]
   ·simp only [c', ↓reduceIte, Bool.false_eq_true]
  ·simp only [c, ↓reduceIte, Bool.false_eq_true, false_and]
theorem flat_pos : ∀ t : Tm, 1 ≤ t.flat.length
 | .leaf n => by simp [Tm.flat]
 | .un n t => by simp [Tm.flat]
 | .bin n a b => by simp [Tm.flat]; omega
theorem eval_tree (hF : FvTot s env) {t : Tm} (h : TmOk s env L t) (hl : t.flat.length ≤ 64) : evalE (s, t.flat, env, ()) = some (if (evT L t).2 = true then ((evT L t).1, true) else (zV, false), ()) := by
 rw [evalE_at hF]
 have h1 := runD_flat h 0 [] (by omega)
 rw [List.append_nil] at h1
 have h2 := foldS_flat h [] []
 rw [List.append_nil] at h2
 rw [if_pos ⟨hl, h1⟩, h2]
 by_cases c : (evT L t).2 = true
 ·simp only [c, ↓reduceIte, foldS]
  rfl
 ·simp only [c, ↓reduceIte, Bool.false_eq_true]
end Go.Proofs.YtiblijkhpmemeaaGreat

namespace Go.Proofs.YtiblijkhpmemeaaGreat
open Go.PI Go
variable {s : Sch} {env : List Bnd} {L : Nd → Val × Bool}
theorem partsR_at (op : Int) : partsR (op, ()) = some (pt op, ()) := by
 unfold partsR partsR_B pt
 simp only [Br.run, cond_eq_ite, beq_iff_eq, decide_eq_true_eq, ge_iff_le]
 repeat' split
 all_goals first | rfl | omega
abbrev nZ : Nd := (0, (0, 0, ByteArray.empty, false), ByteArray.empty, ByteArray.empty)
theorem get_mid (l pre post : List Nd) (n : Nd) (h : l = pre ++ n :: post) : List.getD l (Int.toNat (pre.length : Int)) nZ = n := by
 subst h
 have e : Int.toNat (pre.length : Int) = pre.length := by omega
 rw [e]
 simp [List.getD]
theorem evalR_tree : ∀ {t : Tm}, TmOk s env L t → ∀ (l pre post : List Nd) (k : Nat), l = pre ++ t.flat ++ post → l.length ≤ 64 → t.flat.length ≤ k →
  ∃ v, evalR_k k (l, env, (pre.length : Int) + t.flat.length - 1, ()) = some ((v, (evT L t).2, (pre.length : Int)), ()) ∧ ((evT L t).2 = true → v = (evT L t).1)
 | t, h, l, pre, post, 0, hl, h64, hk => by have := flat_pos t; omega
 | .leaf n, h, l, pre, post, k + 1, hl, h64, hk => by
  have ei : (pre.length : Int) + (Tm.leaf n).flat.length - 1 = pre.length := by simp [Tm.flat]
  have hl' : l = pre ++ n :: post := by rw [hl]; simp [Tm.flat]
  have hlen : (pre.length : Int) < (l.length : Int) := by rw [hl']; simp; omega
  rw [ei]
  have hn := get_mid l pre post n hl'
  show ∃ v, (evalR_B (evalR_k k) (l, env, (pre.length : Int), ())).run = _ ∧ _
  unfold evalR_B
  have q0 : ¬ ((pre.length : Int) < 0) := by omega
  have q1 : (0 : Int) ≤ (pre.length : Int) := by omega
  simp only [Br.run, decide_eq_false q0, cond_false, decide_eq_true q1, decide_eq_true hlen, Bool.and_self, cond_true, hn, partsR_at, pt_one h.op, beq_self_eq_true]
  rcases h.op with h1 | h2
  ·have b1 : (n.1 == 1) = true := by rw [h1]; rfl
   have hc := h.c h1
   simp only [b1, cond_true, evT, hc]
   exact ⟨_, rfl, fun _ => rfl⟩
  ·have b1 : (n.1 == 1) = false := by rw [h2]; rfl
   obtain ⟨z, hz, hzz⟩ := h.r h2 (pre.length : Int)
   have hz' : evalR_w0 (env, (pre.length : Int), 0, (0, 0, ByteArray.empty, false), n, ()) = some z := hz
   simp only [b1, cond_false, hz', Br.run]
   rcases hzz with ⟨v, rfl, hv⟩ | ⟨v, rfl, hv⟩
   ·exact ⟨v, rfl, hv⟩
   ·refine ⟨zV, ?_, fun q => ?_⟩
    ·simp only [evT, hv]
     rfl
    ·simp only [evT, hv] at q; cases q
 | .un n t, h, l, pre, post, k + 1, hl, h64, hk => by
  have hop := h.2.1
  have hfl : (Tm.un n t).flat.length = t.flat.length + 1 := by simp [Tm.flat]
  have hl1 : l = pre ++ t.flat ++ (n :: post) := by rw [hl]; simp [Tm.flat]
  have hl2 : l = (pre ++ t.flat) ++ n :: post := hl1
  have ei : (pre.length : Int) + (Tm.un n t).flat.length - 1 = ((pre ++ t.flat).length : Nat) := by rw [hfl, List.length_append]; omega
  have hlen : (((pre ++ t.flat).length : Nat) : Int) < (l.length : Int) := by rw [hl2]; simp only [List.length_append, List.length_cons]; omega
  rw [ei]
  have hn := get_mid l (pre ++ t.flat) post n hl2
  obtain ⟨v, hv, hvv⟩ := evalR_tree h.2.2 l pre (n :: post) k hl1 h64 (by omega)
  show ∃ v, (evalR_B (evalR_k k) (l, env, (((pre ++ t.flat).length : Nat) : Int), ())).run = _ ∧ _
  have hw : IntKind.wrap .i64 ((((pre ++ t.flat).length : Nat) : Int) - 1) = (pre.length : Int) + t.flat.length - 1 := by
   have hle : (pre ++ t.flat).length ≤ l.length := by rw [hl2]; simp only [List.length_append, List.length_cons]; omega
   rw [Go.PI.wrap_small (by omega) (by omega), List.length_append]; omega
  unfold evalR_B
  have q0 : ¬ ((((pre ++ t.flat).length : Nat) : Int) < 0) := by omega
  have q1 : (0 : Int) ≤ (((pre ++ t.flat).length : Nat) : Int) := by omega
  have p1 : ((1 : Int) == 0) = false := rfl
  simp only [Br.run, decide_eq_false q0, cond_false, decide_eq_true q1, decide_eq_true hlen, Bool.and_self, cond_true, hn, partsR_at, pt_un h.2.1, p1, beq_self_eq_true, hw, hv, cond_eq_ite]
  simp only [evT]
  by_cases c : (evT L t).2 = true
  ·obtain rfl := hvv c
   have hVN := evT_VN h.2.2 c
   simp only [c, ↓reduceIte]
   rcases hop with h3 | h13
   ·have b13 : (n.1 == 13) = false := by rw [h3]; rfl
    simp only [b13, Bool.false_eq_true, ↓reduceIte, h3]
    generalize (evT L t).1 = a at hVN
    cases hVN with
    | i m hm =>
     simp only [beq_self_eq_true, ↓reduceIte, un, okV]
     by_cases hmin : m = -9223372036854775808
     ·subst hmin
      exact ⟨_, rfl, fun q => by cases q⟩
     ·obtain ⟨m1, m2⟩ := hm
      have w : IntKind.wrap .i64 (0 - m) = -m := by rw [Go.PI.wrap_small (by omega) (by omega)]; omega
      have b : (m != -9223372036854775808) = true := by rw [bne_iff_ne]; exact hmin
      simp only [w, b, ne_eq, hmin, not_false_eq_true, and_self, decide_true, ↓reduceIte]
      exact ⟨_, rfl, fun _ => rfl⟩
    | s x => exact ⟨_, rfl, fun q => by cases q⟩
    | b x => exact ⟨_, rfl, fun q => by cases q⟩
   ·have b13 : (n.1 == 13) = true := by rw [h13]; rfl
    simp only [b13, ↓reduceIte, h13]
    generalize (evT L t).1 = a at hVN
    cases hVN with
    | i m hm => exact ⟨_, rfl, fun q => by cases q⟩
    | s x => exact ⟨_, rfl, fun q => by cases q⟩
    | b x => exact ⟨_, rfl, fun q => rfl⟩
  ·have c' : (evT L t).2 = false := by simpa using c
   simp only [c', Bool.false_eq_true, ↓reduceIte]
   by_cases b13 : (n.1 == 13) = true
   ·simp only [b13, ↓reduceIte]
    exact ⟨_, rfl, fun q => by cases q⟩
   ·simp only [b13, Bool.false_eq_true, ↓reduceIte]
    exact ⟨_, rfl, fun q => by cases q⟩
 | .bin n a b, h, l, pre, post, k + 1, hl, h64, hk => by
  have hop := h.2.1
  have hfl : (Tm.bin n a b).flat.length = a.flat.length + b.flat.length + 1 := by simp [Tm.flat]; omega
  have hl1 : l = (pre ++ a.flat) ++ b.flat ++ (n :: post) := by rw [hl]; simp [Tm.flat]
  have hl0 : l = pre ++ a.flat ++ (b.flat ++ n :: post) := by rw [hl]; simp [Tm.flat]
  have hl2 : l = (pre ++ a.flat ++ b.flat) ++ n :: post := hl1
  have ei : (pre.length : Int) + (Tm.bin n a b).flat.length - 1 = ((pre ++ a.flat ++ b.flat).length : Nat) := by rw [hfl]; simp only [List.length_append]; omega
  have hlen : (((pre ++ a.flat ++ b.flat).length : Nat) : Int) < (l.length : Int) := by rw [hl2]; simp only [List.length_append, List.length_cons]; omega
  rw [ei]
  have hn := get_mid l (pre ++ a.flat ++ b.flat) post n hl2
  have hpa := flat_pos a
  have hpb := flat_pos b
  obtain ⟨v, hv, hvv⟩ := evalR_tree h.2.2.2 l (pre ++ a.flat) (n :: post) k hl1 h64 (by omega)
  obtain ⟨u, hu, huu⟩ := evalR_tree h.2.2.1 l pre (b.flat ++ n :: post) k hl0 h64 (by omega)
  show ∃ v, (evalR_B (evalR_k k) (l, env, (((pre ++ a.flat ++ b.flat).length : Nat) : Int), ())).run = _ ∧ _
  have hle : (pre ++ a.flat ++ b.flat).length ≤ l.length := by rw [hl2]; simp only [List.length_append, List.length_cons]; omega
  have hle' : (pre ++ a.flat ++ b.flat).length = (pre ++ a.flat).length + b.flat.length := by simp only [List.length_append]
  have hle2 : (pre ++ a.flat).length = pre.length + a.flat.length := by simp only [List.length_append]
  have hw : IntKind.wrap .i64 ((((pre ++ a.flat ++ b.flat).length : Nat) : Int) - 1) = ((pre ++ a.flat).length : Int) + b.flat.length - 1 := by
   rw [Go.PI.wrap_small (by omega) (by omega)]; omega
  have hw2 : IntKind.wrap .i64 ((((pre ++ a.flat).length : Nat) : Int) - 1) = (pre.length : Int) + a.flat.length - 1 := by
   rw [Go.PI.wrap_small (by omega) (by omega)]; omega
  unfold evalR_B
  have q0 : ¬ ((((pre ++ a.flat ++ b.flat).length : Nat) : Int) < 0) := by omega
  have q1 : (0 : Int) ≤ (((pre ++ a.flat ++ b.flat).length : Nat) : Int) := by omega
  have p1 : ((2 : Int) == 0) = false := rfl
  have p2 : ((2 : Int) == 1) = false := rfl
  simp only [Br.run, decide_eq_false q0, cond_false, decide_eq_true q1, decide_eq_true hlen, Bool.and_self, cond_true, hn, partsR_at, pt_bin h.2.1, p1, p2, hw, hv, hw2, hu, cond_eq_ite]
  simp only [evT]
  by_cases ca : (evT L a).2 = true
  ·by_cases cb : (evT L b).2 = true
   ·obtain rfl := hvv cb
    obtain rfl := huu ca
    have hVa := evT_VN h.2.2.1 ca
    have hVb := evT_VN h.2.2.2 cb
    simp only [ca, cb, Bool.not_true, Bool.false_eq_true, and_self, ↓reduceIte]
    by_cases he : (evT L a).1.1 = (evT L b).1.1
    ·have hne : ((evT L a).1.1 != (evT L b).1.1) = false := by rw [he]; simp
     obtain ⟨w, hw', hww⟩ := both_at h.2.1.1 h.2.1.2.1 h.2.1.2.2 hVa hVb he
     simp only [hne, Bool.false_eq_true, ↓reduceIte, hw', Br.run]
     exact ⟨_, rfl, hww⟩
    ·have hne : ((evT L a).1.1 != (evT L b).1.1) = true := by rw [bne_iff_ne]; exact he
     simp only [hne, ↓reduceIte, bi, he]
     exact ⟨_, rfl, fun q => by cases q⟩
   ·have cb' : (evT L b).2 = false := by simpa using cb
    simp only [ca, cb', Bool.not_true, Bool.not_false, Bool.false_eq_true, and_false, ↓reduceIte]
    exact ⟨_, rfl, fun q => by cases q⟩
  ·have ca' : (evT L a).2 = false := by simpa using ca
   simp only [ca', Bool.not_false, Bool.false_eq_true, false_and, ↓reduceIte]
   exact ⟨_, rfl, fun q => by cases q⟩
theorem evalRF_tree {t : Tm} (h : TmOk s env L t) (h64 : t.flat.length ≤ 64) :
  ∃ v, evalRF (t.flat, env, IntKind.wrap .i64 ((t.flat.length : Int) - 1), ()) = some ((v, (evT L t).2, 0), ()) ∧ ((evT L t).2 = true → v = (evT L t).1) := by
 have hp := flat_pos t
 have hw : IntKind.wrap .i64 ((t.flat.length : Int) - 1) = (([] : List Nd).length : Int) + t.flat.length - 1 := by
  rw [Go.PI.wrap_small (by omega) (by omega)]; simp
 rw [hw]
 obtain ⟨v, hv, hvv⟩ := evalR_tree h t.flat [] [] ((((([] : List Nd).length : Int) + t.flat.length - 1).toNat + 3)) (by simp) h64 (by simp; omega)
 exact ⟨v, hv, hvv⟩
end Go.Proofs.YtiblijkhpmemeaaGreat

namespace Go.Proofs.YtiblijkhpmemeaaGreat
open Go.PI Go
def nC (v : Val) : Nd := (1, v, ByteArray.empty, ByteArray.empty)
def nO (op : Int) : Nd := (op, (0, 0, ByteArray.empty, false), ByteArray.empty, ByteArray.empty)
def VC (v : Val) : Prop := VN v ∧ v.2.1 ≠ -9223372036854775808 ∧ v.2.2.1.size ≤ 64
theorem nodeOk_of {n : Nd} (h : nodeM (n, ()) = some (true, ())) : nodeOk n = true := by simp only [nodeOk, h]
theorem nodeOk_C {v : Val} (h : VC v) : nodeOk (nC v) = true := by
 obtain ⟨h1, h2, h3⟩ := h
 apply nodeOk_of
 unfold nodeM nodeM_B mayV mayV_B numV numV_B textV textV_B truthV truthV_B
 cases h1 with
 | i m hm =>
  have h2' : ¬ m = -9223372036854775808 := h2
  have hb : (m != -9223372036854775808) = true := by rw [bne_iff_ne]; exact h2'
  simp only [Br.run, nC, beq_self_eq_true, cond_true, decide_true, Bool.and_self, hb]
  rfl
 | s x =>
  have h3' : x.size ≤ 64 := h3
  have h3'' : ((x.size : Nat) : Int) ≤ 64 := by omega
  have e2 : ((2 : Int) == 1) = false := rfl
  simp only [Br.run, nC, e2, beq_self_eq_true, cond_true, cond_false, decide_true, Bool.and_self]
  show (bif decide ((x.size : Int) ≤ 64) then some (true, ()) else some (false, ())) = some (true, ())
  rw [decide_eq_true h3'']
  rfl
 | b t => simp [Br.run, nC]; rfl
theorem nodeOk_O {op : Int} (h1 : op ≠ 1) (h2 : op ≠ 2) : nodeOk (nO op) = true := by
 apply nodeOk_of
 unfold nodeM nodeM_B
 have b1 : (op == 1) = false := by rw [beq_eq_false_iff_ne]; exact h1
 have b2 : (op == 2) = false := by rw [beq_eq_false_iff_ne]; exact h2
 simp [Br.run, nO, b1, b2]
end Go.Proofs.YtiblijkhpmemeaaGreat

namespace Go.Proofs.YtiblijkhpmemeaaGreat
open Go.PI Go
noncomputable def cx_lenP : Ctx := cx_holdsF
theorem en_lenP : EnvFull Tryz.prog cx_lenP := (en_holdsF)
noncomputable def cx_lenB : Ctx := cx_lenP
theorem en_lenB : EnvFull Tryz.prog cx_lenB := (en_lenP)
noncomputable def cx_newestP : Ctx := cx_lenB
theorem en_newestP : EnvFull Tryz.prog cx_newestP := (en_lenB)
noncomputable def cx_linkP : Ctx := cx_newestP
theorem en_linkP : EnvFull Tryz.prog cx_linkP := (en_newestP)
noncomputable def cx_linkB : Ctx := cx_linkP
theorem en_linkB : EnvFull Tryz.prog cx_linkB := (en_linkP)
end Go.Proofs.YtiblijkhpmemeaaGreat

namespace Go.Proofs.YtiblijkhpmemeaaGreat
open Go.PI Go
noncomputable def cx_withP : Ctx := cx_linkB
theorem en_withP : EnvFull Tryz.prog cx_withP := en_linkB
noncomputable def cx_withB : Ctx := cx_withP
theorem en_withB : EnvFull Tryz.prog cx_withB := en_withP
end Go.Proofs.YtiblijkhpmemeaaGreat

namespace Go.Proofs.YtiblijkhpmemeaaGreat
open Go.PI Go
noncomputable def cxM1 : Ctx := addO cx_withB 47 (ocOrc eventR_ins eventR_outs eventR)
theorem enM1 : EnvFull Tryz.prog cxM1 := env_add en_withB eventR_oc.callOk
end Go.Proofs.YtiblijkhpmemeaaGreat

namespace Go.Proofs.YtiblijkhpmemeaaGreat
open Go.PI Go
noncomputable def eventsR_l0 : zA28 → Br (zA28 ⊕ ((List zA2) × Unit)) := fun (a, b, c, d, ()) =>
 (.cond (decide (c < (↑(List.length a) : Int)))
 (.cond (decide (c < b))
 (.cond (decide (0 ≤ c) && decide (c < (↑(List.length a) : Int)))
 (.opt (eventR (List.getD a (Int.toNat c) zV1, ())) fun e =>
 (.cond (decide ((List.length d + List.length (List.set (List.replicate 1 zV1) 0 (e.1.1, { data := #[107] }, e.1.2.2.1, IntKind.wrap .i64 (c + 1), e.1.2.2.2.2))) * 72 ≤ 140737488355328))
 (.ret (.inl (a, b, IntKind.wrap .i64 (c + 1), d ++ List.set (List.replicate 1 zV1) 0 (e.1.1, { data := #[107] }, e.1.2.2.1, IntKind.wrap .i64 (c + 1), e.1.2.2.2.2), ())))
 (.no)))
 (.no))
 (.ret (.inr (d, ()))))
 (.ret (.inr (d, ()))))
noncomputable def eventsR_w0 := iterO fun x => (eventsR_l0 x).run
noncomputable def eventsR_B : ((List zA2) × (Int × Unit)) → Br ((List zA2) × Unit) := fun (p0, p1, ()) =>
 (.opt (eventsR_w0 (p0, p1, 0, [], ())) fun a =>
 (.ret (a.1, ())))
noncomputable def eventsR := fun x => (eventsR_B x).run
abbrev eventsR_ins : List (Bool × Pat) := [(false, .ty true (.sl zA9)), (false, .ty false (.int .i64))]
abbrev eventsR_outs : List Pat := [.ty false (.sl zA9)]
noncomputable def eventsR_L : List Lp := [
 .mk 3 (shO 34 [(5, .c (.mfull 1724))] [(1724, [])] [.slot 0 true (.sl zA9), sI 1, sI 6, .ar 1724 false 52 zA9] [5]) ([exO (.exit 0) 34 [(5, .c (.mfull 1725))] [(1725, [])] [.ar 1725 false 52 zA9] [5]]) eventsR_l0]
theorem eventsR_oc : OC Tryz.prog 27 eventsR_ins eventsR_outs eventsR := OC.lp enM1 1024 Tryz.func27 eventsR_L (by kernel_rfl) ⟨fun _ => by kernel_rfl, trivial⟩ (fun _ => by kernel_rfl)
end Go.Proofs.YtiblijkhpmemeaaGreat

namespace Go.Proofs.YtiblijkhpmemeaaGreat
set_option maxRecDepth 100000
open Go.PI Go
noncomputable def stampE_B : (zA2 × (Int × Unit)) → Br ((Int × (Int × Int)) × Unit) := fun (p0, p1, ()) =>
 (.ret ((p0.2.2.1, p0.2.2.2.1, p1), ()))
noncomputable def stampE := fun x => (stampE_B x).run
theorem stampE_oc : OC Tryz.prog 75 [(false, .ty true zA9), (false, .ty false (.int .i64))] [.ty false (.st (.pair (.int .i64) (.pair (.int .i64) (.int .i64))))] stampE := OC.lp enM1 1024 Tryz.func75 [] (by kernel_rfl) trivial (fun _ => by kernel_rfl)
noncomputable def cx_stampE : Ctx := ocx cxM1 stampE_oc
theorem en_stampE : EnvFull Tryz.prog cx_stampE := ocn enM1 stampE_oc
noncomputable def cx_cloneVal : Ctx := cx_stampE
theorem en_cloneVal : EnvFull Tryz.prog cx_cloneVal := (en_stampE)
noncomputable def cx_copyE : Ctx := cx_cloneVal
theorem en_copyE : EnvFull Tryz.prog cx_copyE := (en_cloneVal)
noncomputable def cx_runLen : Ctx := cx_copyE
theorem en_runLen : EnvFull Tryz.prog cx_runLen := (en_copyE)
noncomputable def cx_runWith : Ctx := cx_runLen
theorem en_runWith : EnvFull Tryz.prog cx_runWith := (en_runLen)
noncomputable def cx_runElem : Ctx := cx_runWith
theorem en_runElem : EnvFull Tryz.prog cx_runElem := (en_runWith)
noncomputable def idxStr_l0 : ((List ByteArray) × (ByteArray × (Int × (Int × Unit)))) → Br (((List ByteArray) × (ByteArray × (Int × (Int × Unit)))) ⊕ ((Int × Unit) ⊕ Unit)) := fun (a, b, c, d, ()) =>
 (.cond (decide (d < c))
 (.cond (decide (0 ≤ d) && decide (d < (↑(List.length a) : Int)))
 (.cond (bl b == bl (List.getD a (Int.toNat d) ByteArray.empty))
 (.ret (.inr (.inl (d, ()))))
 (.ret (.inl (a, b, c, IntKind.wrap .i64 (d + 1), ()))))
 (.no))
 (.ret (.inr (.inr (())))))
noncomputable def idxStr_w0 := iterO fun x => (idxStr_l0 x).run
noncomputable def idxStr_B : ((List ByteArray) × (ByteArray × Unit)) → Br (Int × Unit) := fun (p0, p1, ()) =>
 (.opt (idxStr_w0 (p0, p1, (↑(List.length p0) : Int), 0, ())) fun a =>
 (.sum a (fun b =>
 (.ret (b.1, ()))) (fun c =>
 (.ret (-1, ())))))
noncomputable def idxStr := fun x => (idxStr_B x).run
noncomputable def idxStr_L : List Lp := [
 .mk 2 (shO 19 [] [] [.slot 0 true (.sl .str), .slot 1 false .str, sI 7, sI 8] []) ([exO .ret 19 [] [] [sI 4] [], exO (.exit 0) 19 [] [] [] []]) idxStr_l0]
theorem idxStr_oc : OC Tryz.prog 68 [(false, .ty true (.sl .str)), (false, .ty false .str)] [.ty false (.int .i64)] idxStr := OC.lp en_runElem 1024 Tryz.func68 idxStr_L (by kernel_rfl) ⟨fun _ => by kernel_rfl, trivial⟩ (fun _ => by kernel_rfl)
noncomputable def cx_idxStr : Ctx := ocx cx_runElem idxStr_oc
theorem en_idxStr : EnvFull Tryz.prog cx_idxStr := ocn en_runElem idxStr_oc
noncomputable def hasStr_B : ((List ByteArray) × (ByteArray × Unit)) → Br (Bool × Unit) := fun (p0, p1, ()) =>
 (.opt (idxStr (p0, p1, ())) fun y3 =>
 (.ret (decide (y3.1 ≥ 0), ())))
noncomputable def hasStr := fun x => (hasStr_B x).run
theorem hasStr_oc : OC Tryz.prog 36 [(false, .ty true (.sl .str)), (false, .ty false .str)] [.ty false .bool] hasStr := OC.lp en_idxStr 1024 Tryz.func36 [] (by kernel_rfl) trivial (fun _ => by kernel_rfl)
noncomputable def cx_hasStr : Ctx := ocx cx_idxStr hasStr_oc
theorem en_hasStr : EnvFull Tryz.prog cx_hasStr := ocn en_idxStr hasStr_oc
noncomputable def betwQ_l0 : (Int × (Int × (zA10 × ((List Int) × Unit)))) → Br ((Int × (Int × (zA10 × ((List Int) × Unit)))) ⊕ ((List Int) × Unit)) := fun (a, b, c, d, ()) =>
 (.cond (decide (b < (↑(List.length c.1) : Int)))
 (.cond (decide (a < (↑(List.length c.1) : Int)))
 (.cond (decide (0 ≤ b) && decide (b < (↑(List.length c.1) : Int)))
 (.cond (List.getD c.1 (Int.toNat b) zV2).2.2.1
 (.cond (decide ((List.length d + List.length (List.set (List.replicate 1 0) 0 b)) * 8 ≤ 140737488355328))
 (.ret (.inl (a, IntKind.wrap .i64 (b + 1), c, d ++ List.set (List.replicate 1 0) 0 b, ())))
 (.no))
 (.ret (.inr (d, ()))))
 (.no))
 (.ret (.inr (d, ()))))
 (.ret (.inr (d, ()))))
noncomputable def betwQ_w0 := iterO fun x => (betwQ_l0 x).run
noncomputable def betwQ_B : (zA10 × (Int × Unit)) → Br ((List Int) × Unit) := fun (p0, p1, ()) =>
 (.opt (betwQ_w0 (p1, if IntKind.wrap .i64 (p1 + 1) < 0 then 0 else IntKind.wrap .i64 (p1 + 1), p0, [], ())) fun a =>
 (.ret (a.1, ())))
noncomputable def betwQ := fun x => (betwQ_B x).run
noncomputable def betwQ_L : List Lp := [
 .mk 3 (shO 37 [(2, .c (.ref 1026 0 0)), (5, .c (.mfull 1724))] [(1026, []), (1724, [])] [sI 1, sI 6, .tv 1026 true zA5, .ar 1724 false 3 (.int .i64)] [5]) ([exO (.exit 0) 37 [(5, .c (.mfull 1725))] [(1725, [])] [.ar 1725 false 3 (.int .i64)] [5]]) betwQ_l0]
theorem betwQ_oc : OC Tryz.prog 71 [(false, .ty true zA5), (false, .ty false (.int .i64))] [.ty false (.sl (.int .i64))] betwQ := OC.lp en_hasStr 1024 Tryz.func71 betwQ_L (by kernel_rfl) ⟨fun _ => by kernel_rfl, trivial⟩ (fun _ => by kernel_rfl)
noncomputable def cx_betwQ : Ctx := ocx cx_hasStr betwQ_oc
theorem en_betwQ : EnvFull Tryz.prog cx_betwQ := ocn en_hasStr betwQ_oc
end Go.Proofs.YtiblijkhpmemeaaGreat

namespace Go.Proofs.YtiblijkhpmemeaaGreat
open Go.PI Go
end Go.Proofs.YtiblijkhpmemeaaGreat

namespace Go.Proofs.YtiblijkhpmemeaaGreat
open Go.PI Go
noncomputable def cxN1 : Ctx := cx_betwQ
theorem enN1 : EnvFull Tryz.prog cxN1 := en_betwQ
noncomputable def cxN2 : Ctx := addO cxN1 27 (ocOrc eventsR_ins eventsR_outs eventsR)
theorem enN2 : EnvFull Tryz.prog cxN2 := env_add enN1 eventsR_oc.callOk
end Go.Proofs.YtiblijkhpmemeaaGreat

namespace Go.Proofs.YtiblijkhpmemeaaGreat
open Go.PI Go
noncomputable def cx_envR : Ctx := cxN2
theorem en_envR : EnvFull Tryz.prog cx_envR := (enN2)
noncomputable def cx_fitsG : Ctx := cx_envR
theorem en_fitsG : EnvFull Tryz.prog cx_fitsG := (en_envR)
noncomputable def cx_blocksG : Ctx := cx_fitsG
theorem en_blocksG : EnvFull Tryz.prog cx_blocksG := (en_fitsG)
end Go.Proofs.YtiblijkhpmemeaaGreat

namespace Go.Proofs.YtiblijkhpmemeaaGreat
open Go.PI Go
abbrev Elm := ByteArray × (List ByteArray × (Bool × (Int × (Int × List Nd))))
abbrev Qry := List Elm × (Int × Int)
abbrev Prs := Int × Int
abbrev eZ : Elm := (ByteArray.empty, [], false, 0, 0, [])
theorem idxStr_tot (l : List ByteArray) (hl : l.length ≤ 1000) (s : ByteArray) : ∃ r, idxStr (l, s, ()) = some (r, ()) := by
 unfold idxStr idxStr_B
 obtain ⟨z, hz, -⟩ : ∃ z, idxStr_w0 (l, s, (↑(List.length l) : Int), 0, ()) = some z ∧ True := by
  refine iterO_rec (step := fun x => (idxStr_l0 x).run) (Q := fun _ _ => True) (fun x => x.1 = l ∧ x.2.1 = s ∧ x.2.2.1 = (l.length : Int) ∧ 0 ≤ x.2.2.2.1 ∧ x.2.2.2.1 ≤ (l.length : Int)) (fun x => ((l.length : Int) - x.2.2.2.1).toNat) ?_ _ ⟨rfl, rfl, rfl, by dsimp only; omega, by dsimp only; omega⟩
  rintro ⟨l', s', m, i, ⟨⟩⟩ hx
  dsimp only at hx ⊢
  obtain ⟨rfl, rfl, rfl, h0, h1⟩ := hx
  unfold idxStr_l0
  by_cases hi : i < (l'.length : Int)
  ·have hw : IntKind.wrap .i64 (i + 1) = i + 1 := Go.PI.wrap_small (by omega) (by omega)
   simp only [Br.run, decide_eq_true hi, decide_eq_true h0, Bool.and_self, cond_true, hw, cond_eq_ite]
   by_cases hc : (bl s' == bl (l'.getD i.toNat ByteArray.empty)) = true <;> simp only [hc, ↓reduceIte, Bool.false_eq_true]
   ·exact .inr ⟨_, rfl, trivial⟩
   ·refine .inl ⟨_, rfl, ?_, ?_, fun z hz => hz⟩
    ·exact ⟨rfl, rfl, rfl, by dsimp only; omega, by dsimp only; omega⟩
    ·dsimp only; omega
  ·simp only [Br.run, decide_eq_false hi, cond_false]
   exact .inr ⟨_, rfl, trivial⟩
 simp only [Br.run, hz]
 cases z <;> exact ⟨_, rfl⟩
theorem hasStr_tot (l : List ByteArray) (hl : l.length ≤ 1000) (s : ByteArray) : ∃ b, hasStr (l, s, ()) = some (b, ()) := by
 unfold hasStr hasStr_B
 obtain ⟨r, h⟩ := idxStr_tot l hl s
 simp only [Br.run, h]
 exact ⟨_, rfl⟩
theorem holdsF_tot (l : List Nd) (env : List Bnd) (he : env.length ≤ 64) : ∃ b, holdsF (sch3, l, env, ()) = some (b, ()) := by
 unfold holdsF holdsF_B truthV truthV_B
 simp only [Br.run, evalE_at (fv_tot env he), cond_eq_ite]
 split
 ·exact ⟨_, rfl⟩
 ·split
  all_goals (split <;> exact ⟨_, rfl⟩)
def QOk (q : Qry) : Prop := ∀ e ∈ q.1, e.2.1.length ≤ 1000
theorem qok_get {q : Qry} (h : QOk q) (i : Nat) : (q.1.getD i eZ).2.1.length ≤ 1000 := by
 by_cases hi : i < q.1.length
 ·have : q.1.getD i eZ = q.1[i] := by simp [List.getD, hi]
  rw [this]
  exact h _ (List.getElem_mem hi)
 ·have : q.1.getD i eZ = eZ := by simp [List.getD, Nat.le_of_not_lt hi]
  rw [this]; decide
end Go.Proofs.YtiblijkhpmemeaaGreat

namespace Go.Proofs.YtiblijkhpmemeaaGreat
open Go.PI Go
end Go.Proofs.YtiblijkhpmemeaaGreat
