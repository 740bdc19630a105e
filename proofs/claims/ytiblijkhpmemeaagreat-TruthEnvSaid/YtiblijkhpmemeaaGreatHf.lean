/- Predicates as trees: what both sides come to. Predicates as trees: what the reference comes to, from the root on. Constants and parts of predicates that may be. Twins of functions that the kernel reckons. Printed by twin.py. Contracts of functions. Printed by auto.py. Chains of pairs and of bound events: one more. A context: events made, beside the chains. Contracts of functions. Printed by auto.py. Contracts of functions. Printed by auto.py. List's contract, of a chain of bound events. A context: chains' lists, events, runs. -/
import Derived.Test.YtiblijkhpmemeaaGreatHd
import Derived.Test.YtiblijkhpmemeaaGreatHe
import Derived.Test.YtiblijkhpmemeaaGreatHa
import Derived.Test.YtiblijkhpmemeaaGreatW1
import Derived.Test.YtiblijkhpmemeaaGreatR3b
import Derived.Test.YtiblijkhpmemeaaGreatHb
import Derived.Test.YtiblijkhpmemeaaGreatGe
namespace Go.Proofs.YtiblijkhpmemeaaGreat
open Go.PI Go
inductive Tm
 | leaf (n : Nd) | un (n : Nd) (t : Tm) | bin (n : Nd) (a b : Tm)
def Tm.flat : Tm → List Nd
 | .leaf n => [n]
 | .un n t => t.flat ++ [n]
 | .bin n a b => a.flat ++ b.flat ++ [n]
def evT (L : Nd → Val × Bool) : Tm → Val × Bool
 | .leaf n => L n
 | .un n t => if (evT L t).2 = true then un n.1 (evT L t).1 else (zV, false)
 | .bin n a b => if (evT L a).2 = true ∧ (evT L b).2 = true then bi n.1 (evT L a).1 (evT L b).1 else (zV, false)
structure LeafOk (s : Sch) (env : List Bnd) (L : Nd → Val × Bool) (n : Nd) : Prop where
 ok : nodeOk n = true
 op : n.1 = 1 ∨ n.1 = 2
 vn : (L n).2 = true → VN (L n).1
 c : n.1 = 1 → L n = (n.2.1, true)
 f : n.1 = 2 → ∃ v, fieldV (s, env, n, ()) = some ((v, (L n).2), ()) ∧ ((L n).2 = true → v = (L n).1)
 r : n.1 = 2 → ∀ at' : Int, ∃ z, evalR_w0 (env, at', 0, zV, n, ()) = some z ∧ ((∃ v, z = .inl ((L n).2, at', v, ()) ∧ ((L n).2 = true → v = (L n).1)) ∨ (∃ v, z = .inr (at', v, ()) ∧ (L n).2 = false))
def TmOk (s : Sch) (env : List Bnd) (L : Nd → Val × Bool) : Tm → Prop
 | .leaf n => LeafOk s env L n
 | .un n t => nodeOk n = true ∧ (n.1 = 3 ∨ n.1 = 13) ∧ TmOk s env L t
 | .bin n a b => nodeOk n = true ∧ (4 ≤ n.1 ∧ n.1 ≤ 15 ∧ n.1 ≠ 13) ∧ TmOk s env L a ∧ TmOk s env L b
variable {s : Sch} {env : List Bnd} {L : Nd → Val × Bool}
theorem evT_VN : ∀ {t : Tm}, TmOk s env L t → (evT L t).2 = true → VN (evT L t).1
 | .leaf n, h, h2 => h.vn h2
 | .un n t, h, h2 => by
  have ih := evT_VN h.2.2
  simp only [evT] at h2 ⊢
  by_cases c : (evT L t).2 = true
  ·rw [if_pos c] at h2 ⊢
   exact un_VN (ih c) h2
  ·rw [if_neg c] at h2
   cases h2
 | .bin n a b, h, h2 => by
  simp only [evT] at h2 ⊢
  by_cases c : (evT L a).2 = true ∧ (evT L b).2 = true
  ·rw [if_pos c] at h2 ⊢
   exact bi_VN h2
  ·rw [if_neg c] at h2
   cases h2
theorem pt_un {op : Int} (h : op = 3 ∨ op = 13) : pt op = 1 := by rcases h with rfl | rfl <;> rfl
theorem pt_bin {op : Int} (h : 4 ≤ op ∧ op ≤ 15 ∧ op ≠ 13) : pt op = 2 := by
 obtain ⟨h1, h2, h3⟩ := h
 unfold pt
 rw [if_neg (by omega), if_neg (by omega), if_neg (by omega), if_neg h3, if_pos h1, if_pos h2]
theorem runD_flat : ∀ {t : Tm}, TmOk s env L t → ∀ (d : Int) (r : List Nd), 0 ≤ d → runD d (t.flat ++ r) = runD (d + 1) r
 | .leaf n, h, d, r, hd => by
  have hp := pt_one h.op
  show runD d (n :: r) = _
  simp only [runD, hp, h.ok, Bool.true_eq_false, ↓reduceIte]
  rw [if_neg (by omega), if_neg (by omega)]
  congr 1
  omega
 | .un n t, h, d, r, hd => by
  have hp := pt_un h.2.1
  show runD d ((t.flat ++ [n]) ++ r) = _
  rw [List.append_assoc, runD_flat h.2.2 d _ hd]
  simp only [List.cons_append, List.nil_append, runD, hp, h.1, Bool.true_eq_false, ↓reduceIte]
  rw [if_neg (by omega), if_neg (by omega)]
  congr 1
  omega
 | .bin n a b, h, d, r, hd => by
  have hp := pt_bin h.2.1
  show runD d ((a.flat ++ b.flat ++ [n]) ++ r) = _
  rw [List.append_assoc, List.append_assoc, runD_flat h.2.2.1 d _ hd, runD_flat h.2.2.2 (d + 1) _ (by omega)]
  simp only [List.cons_append, List.nil_append, runD, hp, h.1, Bool.true_eq_false, ↓reduceIte]
  rw [if_neg (by omega), if_neg (by omega)]
  congr 1
  omega
theorem optV_some (v : Val) : optV (some ((v, true), ())) = some v := rfl
theorem optV_none (v : Val) : optV (some ((v, false), ())) = none := rfl
theorem opt_val (x : Val × Bool) : optV (some (x, ())) = if x.2 = true then some x.1 else none := by
 obtain ⟨v, b⟩ := x
 cases b <;> rfl
theorem foldS_flat : ∀ {t : Tm}, TmOk s env L t → ∀ (st : List Val) (r : List Nd), foldS s env st (t.flat ++ r) = if (evT L t).2 = true then foldS s env (st ++ [(evT L t).1]) r else none
 | .leaf n, h, st, r => by
  have hp := pt_one h.op
  show foldS s env st (n :: r) = _
  have e0 : st.take (st.length - (pt n.1).toNat) = st := by rw [hp]; exact List.take_of_length_le (by simp)
  simp only [foldS, e0, evT]
  rcases h.op with h1 | h2
  ·have hc := h.c h1
   simp only [valS, if_pos h1, hc, ↓reduceIte]
  ·have h1 : ¬ n.1 = 1 := by omega
   obtain ⟨v, hf, hv⟩ := h.f h2
   simp only [valS, if_neg h1, if_pos h2, hf]
   by_cases hb : (L n).2 = true
   ·simp only [hb, optV_some, ↓reduceIte, hv hb]
   ·have hb' : (L n).2 = false := by simpa using hb
    simp only [hb', optV_none, Bool.false_eq_true, ↓reduceIte]
 | .un n t, h, st, r => by
  have hp := pt_un h.2.1
  show foldS s env st ((t.flat ++ [n]) ++ r) = _
  rw [List.append_assoc, foldS_flat h.2.2 st _]
  simp only [evT]
  by_cases c : (evT L t).2 = true
  ·simp only [c, ↓reduceIte, List.cons_append, List.nil_append, foldS]
   have hop := h.2.1
   have h1 : ¬ n.1 = 1 := by omega
   have h2 : ¬ n.1 = 2 := by omega
   have el : (st ++ [(evT L t).1]).length - (pt n.1).toNat = st.length := by rw [hp, List.length_append]; simp
   simp only [valS, h1, h2, ↓reduceIte, el, List.drop_left', List.take_left', apply1 h.2.1 (evT_VN h.2.2 c), opt_val]
   by_cases c2 : (un n.1 (evT L t).1).2 = true
   ·simp only [c2, ↓reduceIte]
   ·simp only [c2, ↓reduceIte, Bool.false_eq_true]
  ·simp only [c, ↓reduceIte, Bool.false_eq_true]
 | .bin n a b, h, st, r => by
  have hp := pt_bin h.2.1
  show foldS s env st ((a.flat ++ b.flat ++ [n]) ++ r) = _
  rw [List.append_assoc, List.append_assoc, foldS_flat h.2.2.1 st _]
  simp only [evT]
  by_cases c : (evT L a).2 = true
  ·simp only [c, ↓reduceIte, true_and]
   rw [foldS_flat h.2.2.2 _ _]
   by_cases c' : (evT L b).2 = true
   ·simp only [c', ↓reduceIte, List.cons_append, List.nil_append, foldS]
    have hop := h.2.1
    have h1 : ¬ n.1 = 1 := by omega
    have h2 : ¬ n.1 = 2 := by omega
    have el : (st ++ [(evT L a).1] ++ [(evT L b).1]).length - (pt n.1).toNat = st.length := by rw [hp, List.length_append, List.length_append]; simp
    have e2 : st ++ [(evT L a).1] ++ [(evT L b).1] = st ++ [(evT L a).1, (evT L b).1] := by simp
    simp only [valS, h1, h2, ↓reduceIte, el]
    rw [e2]
    simp only [List.drop_left', List.take_left', apply2 h.2.1.1 h.2.1.2.1 h.2.1.2.2 (evT_VN h.2.2.1 c) (evT_VN h.2.2.2 c'), opt_val]
    by_cases c2 : (bi n.1 (evT L a).1 (evT L b).1).2 = true
    ·simp only [c2, ↓reduceIte]
    ·simp only [c2, ↓reduceIte, Bool.false_eq_true]
   ·simp only [c', ↓reduceIte, Bool.false_eq_true]
  ·simp only [c, ↓reduceIte, Bool.false_eq_true, false_and]
theorem flat_pos : ∀ t : Tm, 1 ≤ t.flat.length
 | .leaf n => by simp [Tm.flat]
 | .un n t => by simp [Tm.flat]
 | .bin n a b => by simp [Tm.flat]; omega
theorem eval_tree (hF : FvTot s env) {t : Tm} (h : TmOk s env L t) (hl : t.flat.length ≤ 64) : evalE (s, t.flat, env, ()) = some (if (evT L t).2 = true then ((evT L t).1, true) else (zV, false), ()) := by
 rw [evalE_at hF]
 have h1 := runD_flat h 0 [] (by omega)
 rw [List.append_nil] at h1
 have h2 := foldS_flat h [] []
 rw [List.append_nil] at h2
 rw [if_pos ⟨hl, h1⟩, h2]
 by_cases c : (evT L t).2 = true
 ·simp only [c, ↓reduceIte, foldS]
  rfl
 ·simp only [c, ↓reduceIte, Bool.false_eq_true]
end Go.Proofs.YtiblijkhpmemeaaGreat

namespace Go.Proofs.YtiblijkhpmemeaaGreat
open Go.PI Go
variable {s : Sch} {env : List Bnd} {L : Nd → Val × Bool}
theorem partsR_at (op : Int) : partsR (op, ()) = some (pt op, ()) := by
 unfold partsR partsR_B pt
 simp only [Br.run, cond_eq_ite, beq_iff_eq, decide_eq_true_eq, ge_iff_le]
 repeat' split
 all_goals first | rfl | omega
abbrev nZ : Nd := (0, (0, 0, ByteArray.empty, false), ByteArray.empty, ByteArray.empty)
theorem get_mid (l pre post : List Nd) (n : Nd) (h : l = pre ++ n :: post) : List.getD l (Int.toNat (pre.length : Int)) nZ = n := by
 subst h
 have e : Int.toNat (pre.length : Int) = pre.length := by omega
 rw [e]
 simp [List.getD]
theorem evalR_tree : ∀ {t : Tm}, TmOk s env L t → ∀ (l pre post : List Nd) (k : Nat), l = pre ++ t.flat ++ post → l.length ≤ 64 → t.flat.length ≤ k →
  ∃ v, evalR_k k (l, env, (pre.length : Int) + t.flat.length - 1, ()) = some ((v, (evT L t).2, (pre.length : Int)), ()) ∧ ((evT L t).2 = true → v = (evT L t).1)
 | t, h, l, pre, post, 0, hl, h64, hk => by have := flat_pos t; omega
 | .leaf n, h, l, pre, post, k + 1, hl, h64, hk => by
  have ei : (pre.length : Int) + (Tm.leaf n).flat.length - 1 = pre.length := by simp [Tm.flat]
  have hl' : l = pre ++ n :: post := by rw [hl]; simp [Tm.flat]
  have hlen : (pre.length : Int) < (l.length : Int) := by rw [hl']; simp; omega
  rw [ei]
  have hn := get_mid l pre post n hl'
  show ∃ v, (evalR_B (evalR_k k) (l, env, (pre.length : Int), ())).run = _ ∧ _
  unfold evalR_B
  have q0 : ¬ ((pre.length : Int) < 0) := by omega
  have q1 : (0 : Int) ≤ (pre.length : Int) := by omega
  simp only [Br.run, decide_eq_false q0, cond_false, decide_eq_true q1, decide_eq_true hlen, Bool.and_self, cond_true, hn, partsR_at, pt_one h.op, beq_self_eq_true]
  rcases h.op with h1 | h2
  ·have b1 : (n.1 == 1) = true := by rw [h1]; rfl
   have hc := h.c h1
   simp only [b1, cond_true, evT, hc]
   exact ⟨_, rfl, fun _ => rfl⟩
  ·have b1 : (n.1 == 1) = false := by rw [h2]; rfl
   obtain ⟨z, hz, hzz⟩ := h.r h2 (pre.length : Int)
   have hz' : evalR_w0 (env, (pre.length : Int), 0, (0, 0, ByteArray.empty, false), n, ()) = some z := hz
   simp only [b1, cond_false, hz', Br.run]
   rcases hzz with ⟨v, rfl, hv⟩ | ⟨v, rfl, hv⟩
   ·exact ⟨v, rfl, hv⟩
   ·refine ⟨zV, ?_, fun q => ?_⟩
    ·simp only [evT, hv]
     rfl
    ·simp only [evT, hv] at q; cases q
 | .un n t, h, l, pre, post, k + 1, hl, h64, hk => by
  have hop := h.2.1
  have hfl : (Tm.un n t).flat.length = t.flat.length + 1 := by simp [Tm.flat]
  have hl1 : l = pre ++ t.flat ++ (n :: post) := by rw [hl]; simp [Tm.flat]
  have hl2 : l = (pre ++ t.flat) ++ n :: post := hl1
  have ei : (pre.length : Int) + (Tm.un n t).flat.length - 1 = ((pre ++ t.flat).length : Nat) := by rw [hfl, List.length_append]; omega
  have hlen : (((pre ++ t.flat).length : Nat) : Int) < (l.length : Int) := by rw [hl2]; simp only [List.length_append, List.length_cons]; omega
  rw [ei]
  have hn := get_mid l (pre ++ t.flat) post n hl2
  obtain ⟨v, hv, hvv⟩ := evalR_tree h.2.2 l pre (n :: post) k hl1 h64 (by omega)
  show ∃ v, (evalR_B (evalR_k k) (l, env, (((pre ++ t.flat).length : Nat) : Int), ())).run = _ ∧ _
  have hw : IntKind.wrap .i64 ((((pre ++ t.flat).length : Nat) : Int) - 1) = (pre.length : Int) + t.flat.length - 1 := by
   have hle : (pre ++ t.flat).length ≤ l.length := by rw [hl2]; simp only [List.length_append, List.length_cons]; omega
   rw [Go.PI.wrap_small (by omega) (by omega), List.length_append]; omega
  unfold evalR_B
  have q0 : ¬ ((((pre ++ t.flat).length : Nat) : Int) < 0) := by omega
  have q1 : (0 : Int) ≤ (((pre ++ t.flat).length : Nat) : Int) := by omega
  have p1 : ((1 : Int) == 0) = false := rfl
  simp only [Br.run, decide_eq_false q0, cond_false, decide_eq_true q1, decide_eq_true hlen, Bool.and_self, cond_true, hn, partsR_at, pt_un h.2.1, p1, beq_self_eq_true, hw, hv, cond_eq_ite]
  simp only [evT]
  by_cases c : (evT L t).2 = true
  ·obtain rfl := hvv c
   have hVN := evT_VN h.2.2 c
   simp only [c, ↓reduceIte]
   rcases hop with h3 | h13
   ·have b13 : (n.1 == 13) = false := by rw [h3]; rfl
    simp only [b13, Bool.false_eq_true, ↓reduceIte, h3]
    generalize (evT L t).1 = a at hVN
    cases hVN with
    | i m hm =>
     simp only [beq_self_eq_true, ↓reduceIte, un, okV]
     by_cases hmin : m = -9223372036854775808
     ·subst hmin
      exact ⟨_, rfl, fun q => by cases q⟩
     ·obtain ⟨m1, m2⟩ := hm
      have w : IntKind.wrap .i64 (0 - m) = -m := by rw [Go.PI.wrap_small (by omega) (by omega)]; omega
      have b : (m != -9223372036854775808) = true := by rw [bne_iff_ne]; exact hmin
      simp only [w, b, ne_eq, hmin, not_false_eq_true, and_self, decide_true, ↓reduceIte]
      exact ⟨_, rfl, fun _ => rfl⟩
    | s x => exact ⟨_, rfl, fun q => by cases q⟩
    | b x => exact ⟨_, rfl, fun q => by cases q⟩
   ·have b13 : (n.1 == 13) = true := by rw [h13]; rfl
    simp only [b13, ↓reduceIte, h13]
    generalize (evT L t).1 = a at hVN
    cases hVN with
    | i m hm => exact ⟨_, rfl, fun q => by cases q⟩
    | s x => exact ⟨_, rfl, fun q => by cases q⟩
    | b x => exact ⟨_, rfl, fun q => rfl⟩
  ·have c' : (evT L t).2 = false := by simpa using c
   simp only [c', Bool.false_eq_true, ↓reduceIte]
   by_cases b13 : (n.1 == 13) = true
   ·simp only [b13, ↓reduceIte]
    exact ⟨_, rfl, fun q => by cases q⟩
   ·simp only [b13, Bool.false_eq_true, ↓reduceIte]
    exact ⟨_, rfl, fun q => by cases q⟩
 | .bin n a b, h, l, pre, post, k + 1, hl, h64, hk => by
  have hop := h.2.1
  have hfl : (Tm.bin n a b).flat.length = a.flat.length + b.flat.length + 1 := by simp [Tm.flat]; omega
  have hl1 : l = (pre ++ a.flat) ++ b.flat ++ (n :: post) := by rw [hl]; simp [Tm.flat]
  have hl0 : l = pre ++ a.flat ++ (b.flat ++ n :: post) := by rw [hl]; simp [Tm.flat]
  have hl2 : l = (pre ++ a.flat ++ b.flat) ++ n :: post := hl1
  have ei : (pre.length : Int) + (Tm.bin n a b).flat.length - 1 = ((pre ++ a.flat ++ b.flat).length : Nat) := by rw [hfl]; simp only [List.length_append]; omega
  have hlen : (((pre ++ a.flat ++ b.flat).length : Nat) : Int) < (l.length : Int) := by rw [hl2]; simp only [List.length_append, List.length_cons]; omega
  rw [ei]
  have hn := get_mid l (pre ++ a.flat ++ b.flat) post n hl2
  have hpa := flat_pos a
  have hpb := flat_pos b
  obtain ⟨v, hv, hvv⟩ := evalR_tree h.2.2.2 l (pre ++ a.flat) (n :: post) k hl1 h64 (by omega)
  obtain ⟨u, hu, huu⟩ := evalR_tree h.2.2.1 l pre (b.flat ++ n :: post) k hl0 h64 (by omega)
  show ∃ v, (evalR_B (evalR_k k) (l, env, (((pre ++ a.flat ++ b.flat).length : Nat) : Int), ())).run = _ ∧ _
  have hle : (pre ++ a.flat ++ b.flat).length ≤ l.length := by rw [hl2]; simp only [List.length_append, List.length_cons]; omega
  have hle' : (pre ++ a.flat ++ b.flat).length = (pre ++ a.flat).length + b.flat.length := by simp only [List.length_append]
  have hle2 : (pre ++ a.flat).length = pre.length + a.flat.length := by simp only [List.length_append]
  have hw : IntKind.wrap .i64 ((((pre ++ a.flat ++ b.flat).length : Nat) : Int) - 1) = ((pre ++ a.flat).length : Int) + b.flat.length - 1 := by
   rw [Go.PI.wrap_small (by omega) (by omega)]; omega
  have hw2 : IntKind.wrap .i64 ((((pre ++ a.flat).length : Nat) : Int) - 1) = (pre.length : Int) + a.flat.length - 1 := by
   rw [Go.PI.wrap_small (by omega) (by omega)]; omega
  unfold evalR_B
  have q0 : ¬ ((((pre ++ a.flat ++ b.flat).length : Nat) : Int) < 0) := by omega
  have q1 : (0 : Int) ≤ (((pre ++ a.flat ++ b.flat).length : Nat) : Int) := by omega
  have p1 : ((2 : Int) == 0) = false := rfl
  have p2 : ((2 : Int) == 1) = false := rfl
  simp only [Br.run, decide_eq_false q0, cond_false, decide_eq_true q1, decide_eq_true hlen, Bool.and_self, cond_true, hn, partsR_at, pt_bin h.2.1, p1, p2, hw, hv, hw2, hu, cond_eq_ite]
  simp only [evT]
  by_cases ca : (evT L a).2 = true
  ·by_cases cb : (evT L b).2 = true
   ·obtain rfl := hvv cb
    obtain rfl := huu ca
    have hVa := evT_VN h.2.2.1 ca
    have hVb := evT_VN h.2.2.2 cb
    simp only [ca, cb, Bool.not_true, Bool.false_eq_true, and_self, ↓reduceIte]
    by_cases he : (evT L a).1.1 = (evT L b).1.1
    ·have hne : ((evT L a).1.1 != (evT L b).1.1) = false := by rw [he]; simp
     obtain ⟨w, hw', hww⟩ := both_at h.2.1.1 h.2.1.2.1 h.2.1.2.2 hVa hVb he
     simp only [hne, Bool.false_eq_true, ↓reduceIte, hw', Br.run]
     exact ⟨_, rfl, hww⟩
    ·have hne : ((evT L a).1.1 != (evT L b).1.1) = true := by rw [bne_iff_ne]; exact he
     simp only [hne, ↓reduceIte, bi, he]
     exact ⟨_, rfl, fun q => by cases q⟩
   ·have cb' : (evT L b).2 = false := by simpa using cb
    simp only [ca, cb', Bool.not_true, Bool.not_false, Bool.false_eq_true, and_false, ↓reduceIte]
    exact ⟨_, rfl, fun q => by cases q⟩
  ·have ca' : (evT L a).2 = false := by simpa using ca
   simp only [ca', Bool.not_false, Bool.false_eq_true, false_and, ↓reduceIte]
   exact ⟨_, rfl, fun q => by cases q⟩
theorem evalRF_tree {t : Tm} (h : TmOk s env L t) (h64 : t.flat.length ≤ 64) :
  ∃ v, evalRF (t.flat, env, IntKind.wrap .i64 ((t.flat.length : Int) - 1), ()) = some ((v, (evT L t).2, 0), ()) ∧ ((evT L t).2 = true → v = (evT L t).1) := by
 have hp := flat_pos t
 have hw : IntKind.wrap .i64 ((t.flat.length : Int) - 1) = (([] : List Nd).length : Int) + t.flat.length - 1 := by
  rw [Go.PI.wrap_small (by omega) (by omega)]; simp
 rw [hw]
 obtain ⟨v, hv, hvv⟩ := evalR_tree h t.flat [] [] ((((([] : List Nd).length : Int) + t.flat.length - 1).toNat + 3)) (by simp) h64 (by simp; omega)
 exact ⟨v, hv, hvv⟩
end Go.Proofs.YtiblijkhpmemeaaGreat

namespace Go.Proofs.YtiblijkhpmemeaaGreat
open Go.PI Go
def nC (v : Val) : Nd := (1, v, ByteArray.empty, ByteArray.empty)
def nO (op : Int) : Nd := (op, (0, 0, ByteArray.empty, false), ByteArray.empty, ByteArray.empty)
def VC (v : Val) : Prop := VN v ∧ v.2.1 ≠ -9223372036854775808 ∧ v.2.2.1.size ≤ 64
theorem nodeOk_of {n : Nd} (h : nodeM (n, ()) = some (true, ())) : nodeOk n = true := by simp only [nodeOk, h]
theorem nodeOk_C {v : Val} (h : VC v) : nodeOk (nC v) = true := by
 obtain ⟨h1, h2, h3⟩ := h
 apply nodeOk_of
 unfold nodeM nodeM_B mayV mayV_B numV numV_B textV textV_B truthV truthV_B
 cases h1 with
 | i m hm =>
  have h2' : ¬ m = -9223372036854775808 := h2
  have hb : (m != -9223372036854775808) = true := by rw [bne_iff_ne]; exact h2'
  simp only [Br.run, nC, beq_self_eq_true, cond_true, decide_true, Bool.and_self, hb]
  rfl
 | s x =>
  have h3' : x.size ≤ 64 := h3
  have h3'' : ((x.size : Nat) : Int) ≤ 64 := by omega
  have e2 : ((2 : Int) == 1) = false := rfl
  simp only [Br.run, nC, e2, beq_self_eq_true, cond_true, cond_false, decide_true, Bool.and_self]
  show (bif decide ((x.size : Int) ≤ 64) then some (true, ()) else some (false, ())) = some (true, ())
  rw [decide_eq_true h3'']
  rfl
 | b t => simp [Br.run, nC]; rfl
theorem nodeOk_O {op : Int} (h1 : op ≠ 1) (h2 : op ≠ 2) : nodeOk (nO op) = true := by
 apply nodeOk_of
 unfold nodeM nodeM_B
 have b1 : (op == 1) = false := by rw [beq_eq_false_iff_ne]; exact h1
 have b2 : (op == 2) = false := by rw [beq_eq_false_iff_ne]; exact h2
 simp [Br.run, nO, b1, b2]
end Go.Proofs.YtiblijkhpmemeaaGreat

namespace Go.Proofs.YtiblijkhpmemeaaGreat
open Go.PI Go
noncomputable def placeR_w0_n (k : Nat) : (ByteArray × (Int × (zA2 × ((List ByteArray) × Unit)))) → Option ((Int × Unit) ⊕ Unit) := iterN (fun x => (placeR_l0 x).run) k
theorem placeR_w0_le (k : Nat) (x : _) : OLe (placeR_w0_n k x) (placeR_w0 x) := iterN_le (fun x => OLe.rfl' _) k x
noncomputable def placeR_B_n (k : Nat) : (zA2 × (ByteArray × Unit)) → Br (Int × Unit) := fun (p0, p1, ()) =>
 (.cond (bl p0.1 == bl { data := #[67] })
 (.opt ((placeR_w0_n k) (p1, 0, p0, [{ data := #[115] }, { data := #[120] }, { data := #[98] }], ())) fun a =>
 (.sum a (fun b =>
 (.ret (b.1, ()))) (fun c =>
 (.ret (-1, ())))))
 (.opt ((placeR_w0_n k) (p1, 0, p0, [{ data := #[120] }, { data := #[115] }], ())) fun d =>
 (.sum d (fun e =>
 (.ret (e.1, ()))) (fun f =>
 (.ret (-1, ()))))))
theorem placeR_B_le (k : Nat) (x : _) : BLe (placeR_B_n k x) (placeR_B x) := by
 obtain ⟨p0, p1, ⟨⟩⟩ := x
 show BLe (placeR_B_n k _) (placeR_B _)
 unfold placeR_B_n placeR_B
 repeat' (first | with_reducible exact BLe.rfl' _ | with_reducible exact OLe.rfl' _ | with_reducible apply BLe.cond | (with_reducible refine BLe.opt ?_ fun _ => ?_) | (with_reducible refine BLe.sum (fun _ => ?_) fun _ => ?_) | exact placeR_w0_le k _)
noncomputable def placeR_n (k : Nat) : (zA2 × (ByteArray × Unit)) → Option (Int × Unit) := fun x => (placeR_B_n k x).run
theorem placeR_le (k : Nat) (x : _) : OLe (placeR_n k x) (placeR x) := placeR_B_le k x
end Go.Proofs.YtiblijkhpmemeaaGreat

namespace Go.Proofs.YtiblijkhpmemeaaGreat
open Go.PI Go
noncomputable def cx_lenP : Ctx := cx_holdsF
theorem en_lenP : EnvFull Tryz.prog cx_lenP := (en_holdsF)
noncomputable def cx_lenB : Ctx := cx_lenP
theorem en_lenB : EnvFull Tryz.prog cx_lenB := (en_lenP)
noncomputable def cx_newestP : Ctx := cx_lenB
theorem en_newestP : EnvFull Tryz.prog cx_newestP := (en_lenB)
noncomputable def cx_linkP : Ctx := cx_newestP
theorem en_linkP : EnvFull Tryz.prog cx_linkP := (en_newestP)
noncomputable def cx_linkB : Ctx := cx_linkP
theorem en_linkB : EnvFull Tryz.prog cx_linkB := (en_linkP)
end Go.Proofs.YtiblijkhpmemeaaGreat

namespace Go.Proofs.YtiblijkhpmemeaaGreat
open Go.PI Go
noncomputable def cx_withP : Ctx := cx_linkB
theorem en_withP : EnvFull Tryz.prog cx_withP := en_linkB
noncomputable def cx_withB : Ctx := cx_withP
theorem en_withB : EnvFull Tryz.prog cx_withB := en_withP
end Go.Proofs.YtiblijkhpmemeaaGreat

namespace Go.Proofs.YtiblijkhpmemeaaGreat
open Go.PI Go
noncomputable def cxM1 : Ctx := addO cx_withB 47 (ocOrc eventR_ins eventR_outs eventR)
theorem enM1 : EnvFull Tryz.prog cxM1 := env_add en_withB eventR_oc.callOk
end Go.Proofs.YtiblijkhpmemeaaGreat

namespace Go.Proofs.YtiblijkhpmemeaaGreat
set_option maxRecDepth 100000
open Go.PI Go
noncomputable def eventsR_l0 : zA28 → Br (zA28 ⊕ ((List zA2) × Unit)) := fun (a, b, c, d, ()) =>
 (.cond (decide (c < (↑(List.length a) : Int)))
 (.cond (decide (c < b))
 (.cond (decide (0 ≤ c) && decide (c < (↑(List.length a) : Int)))
 (.opt (eventR (List.getD a (Int.toNat c) zV1, ())) fun e =>
 (.cond (decide ((List.length d + List.length (List.set (List.replicate 1 zV1) 0 (e.1.1, { data := #[107] }, e.1.2.2.1, IntKind.wrap .i64 (c + 1), e.1.2.2.2.2))) * 72 ≤ 140737488355328))
 (.ret (.inl (a, b, IntKind.wrap .i64 (c + 1), d ++ List.set (List.replicate 1 zV1) 0 (e.1.1, { data := #[107] }, e.1.2.2.1, IntKind.wrap .i64 (c + 1), e.1.2.2.2.2), ())))
 (.no)))
 (.no))
 (.ret (.inr (d, ()))))
 (.ret (.inr (d, ()))))
noncomputable def eventsR_w0 : zA28 → Option ((List zA2) × Unit) := iterO fun x => (eventsR_l0 x).run
noncomputable def eventsR_B : ((List zA2) × (Int × Unit)) → Br ((List zA2) × Unit) := fun (p0, p1, ()) =>
 (.opt (eventsR_w0 (p0, p1, 0, [], ())) fun a =>
 (.ret (a.1, ())))
noncomputable def eventsR : ((List zA2) × (Int × Unit)) → Option ((List zA2) × Unit) := fun x => (eventsR_B x).run
abbrev eventsR_ins : List (Bool × Pat) := [(false, .ty true (.sl zA9)), (false, .ty false (.int .i64))]
abbrev eventsR_outs : List Pat := [.ty false (.sl zA9)]
noncomputable abbrev eventsR_f : Func := Tryz.f27
noncomputable abbrev eventsR_P : Program := Tryz.prog
abbrev eventsR_kp : List Nat := kpOf eventsR_ins
abbrev eventsR_kf : List Nat := kfOf eventsR_ins
noncomputable def eventsR_c : Ctx := { cxM1 with base := 1024 }
theorem eventsR_env : EnvFull eventsR_P eventsR_c := env_base (enM1) 1024
abbrev eventsR_H0 : List Hole := [.slot 0 true (.sl zA9), .slot 1 false (.int .i64), .slot 6 false (.int .i64), .ar 1724 false 52 zA9]
def eventsR_S0 : Skel := ⟨34, [(5, .c (.mfull 1724))], [(1724, [])]⟩
abbrev eventsR_H0e0 : List Hole := [.ar 1725 false 52 zA9]
def eventsR_S0e0 : Skel := ⟨34, [(5, .c (.mfull 1725))], [(1725, [])]⟩
def eventsR_h0 : Exit → Shape
 | .normal => ⟨[(0, .as true (.sl zA9)), (1, .as false (.int .i64)), (5, .row 700 false 52 zA9), (6, .as false (.int .i64))], [], [(700, false)]⟩
 | .exit 0 => ⟨[(5, .row 701 false 52 zA9)], [], [(701, false)]⟩
 | _ => ⟨[], [], []⟩
def eventsR_e0 : ((List zA2) × Unit) → Exit × St
 | u => (.exit 0, eventsR_S0e0.fillK eventsR_kf eventsR_H0e0 u)
def eventsR_t0 : ((List zA2) × Unit) → Br (Exit × St) := fun u => .ret (.exit 0, eventsR_S0e0.fillK eventsR_kf eventsR_H0e0 u)
noncomputable def eventsR_C0 : Code := loopAt 0 (bodyOf eventsR_f)
noncomputable def eventsR_o0 : St → Br (Exit × St) := loopF eventsR_kp eventsR_kf 1024 (eventsR_h0 .normal) (eventsR_S0.parseK eventsR_kf eventsR_H0) fun x => .opt (eventsR_w0 x) eventsR_t0
noncomputable def eventsR_p : Par := { sh := fun _ => none, k := 0, lo := fun i => bif Nat.beq i 3 then some eventsR_o0 else none }
theorem eventsR_r0 (a : (List zA2)) (b : Int) (c : Int) (d : (List zA2)) : roundF eventsR_kp eventsR_kf eventsR_c eventsR_p eventsR_h0 eventsR_C0 (eventsR_S0.fillK eventsR_kf eventsR_H0 (a, b, c, d, ())) = (eventsR_l0 (a, b, c, d, ())).bind (loopLeaf (fun x => eventsR_S0.fillK eventsR_kf eventsR_H0 x) eventsR_e0) := by kernel_rfl
theorem eventsR_ok0 (g : Cfg) (hg : ∀ n, Go.PI.look n g.m0 ≠ Option.none → n ∈ eventsR_kp) : LoopOk eventsR_P g eventsR_o0 eventsR_C0 := LoopOk.auto eventsR_env hg eventsR_p (LoOk.of (l := []) (by kernel_rfl) .nil) eventsR_h0 (fun x => eventsR_S0.fillK eventsR_kf eventsR_H0 x) (fun s x h => Skel.parseK_ok s x h) eventsR_l0 eventsR_e0 (fun _ h => by cases h) eventsR_t0 (fun _ => rfl) (fun (a, b, c, d, ()) => eventsR_r0 a b c d)
theorem eventsR_eq (p0 : (List zA2)) (p1 : Int) : ocRun eventsR_c eventsR_p eventsR_f eventsR_ins eventsR_outs (p0, p1, ()) = eventsR_B (p0, p1, ()) := by kernel_rfl
theorem eventsR_oc : OC eventsR_P 27 eventsR_ins eventsR_outs eventsR := OC.of_tree eventsR_env Tryz.func27 (by kernel_rfl) (by kernel_rfl) (p := eventsR_p) (fun g hg => LoOk.of (l := [eventsR_C0]) (by kernel_rfl) (.cons (eventsR_ok0 g hg) (by kernel_rfl) .nil)) (fun (p0, p1, ()) => eventsR_eq p0 p1)
end Go.Proofs.YtiblijkhpmemeaaGreat

namespace Go.Proofs.YtiblijkhpmemeaaGreat
set_option maxRecDepth 100000
open Go.PI Go
noncomputable def stampE_B : (zA2 × (Int × Unit)) → Br ((Int × (Int × Int)) × Unit) := fun (p0, p1, ()) =>
 (.ret ((p0.2.2.1, p0.2.2.2.1, p1), ()))
noncomputable def stampE : (zA2 × (Int × Unit)) → Option ((Int × (Int × Int)) × Unit) := fun x => (stampE_B x).run
abbrev stampE_ins : List (Bool × Pat) := [(false, .ty true zA9), (false, .ty false (.int .i64))]
abbrev stampE_outs : List Pat := [.ty false (.st (.pair (.int .i64) (.pair (.int .i64) (.int .i64))))]
noncomputable abbrev stampE_f : Func := Tryz.f75
noncomputable abbrev stampE_P : Program := Tryz.prog
noncomputable def stampE_c : Ctx := { cxM1 with base := 1024 }
theorem stampE_env : EnvFull stampE_P stampE_c := env_base (enM1) 1024
noncomputable def stampE_p : Par := { sh := fun _ => none, k := 0, lo := fun _ => none }
theorem stampE_eq (p0 : zA2) (p1 : Int) : ocRun stampE_c stampE_p stampE_f stampE_ins stampE_outs (p0, p1, ()) = stampE_B (p0, p1, ()) := by kernel_rfl
theorem stampE_oc : OC stampE_P 75 stampE_ins stampE_outs stampE := OC.of_tree stampE_env Tryz.func75 (by kernel_rfl) (by kernel_rfl) (p := stampE_p) (fun g hg => LoOk.of (l := []) (by kernel_rfl) .nil) (fun (p0, p1, ()) => stampE_eq p0 p1)
noncomputable def cx_stampE : Ctx := addO cxM1 75 (ocOrc stampE_ins stampE_outs stampE)
theorem en_stampE : EnvFull Tryz.prog cx_stampE := env_add (enM1) stampE_oc.callOk
noncomputable def cx_cloneVal : Ctx := cx_stampE
theorem en_cloneVal : EnvFull Tryz.prog cx_cloneVal := (en_stampE)
noncomputable def cx_copyE : Ctx := cx_cloneVal
theorem en_copyE : EnvFull Tryz.prog cx_copyE := (en_cloneVal)
noncomputable def cx_runLen : Ctx := cx_copyE
theorem en_runLen : EnvFull Tryz.prog cx_runLen := (en_copyE)
noncomputable def cx_runWith : Ctx := cx_runLen
theorem en_runWith : EnvFull Tryz.prog cx_runWith := (en_runLen)
noncomputable def cx_runElem : Ctx := cx_runWith
theorem en_runElem : EnvFull Tryz.prog cx_runElem := (en_runWith)
noncomputable def idxStr_l0 : ((List ByteArray) × (ByteArray × (Int × (Int × Unit)))) → Br (((List ByteArray) × (ByteArray × (Int × (Int × Unit)))) ⊕ ((Int × Unit) ⊕ Unit)) := fun (a, b, c, d, ()) =>
 (.cond (decide (d < c))
 (.cond (decide (0 ≤ d) && decide (d < (↑(List.length a) : Int)))
 (.cond (bl b == bl (List.getD a (Int.toNat d) ByteArray.empty))
 (.ret (.inr (.inl (d, ()))))
 (.ret (.inl (a, b, c, IntKind.wrap .i64 (d + 1), ()))))
 (.no))
 (.ret (.inr (.inr (())))))
noncomputable def idxStr_w0 : ((List ByteArray) × (ByteArray × (Int × (Int × Unit)))) → Option ((Int × Unit) ⊕ Unit) := iterO fun x => (idxStr_l0 x).run
noncomputable def idxStr_B : ((List ByteArray) × (ByteArray × Unit)) → Br (Int × Unit) := fun (p0, p1, ()) =>
 (.opt (idxStr_w0 (p0, p1, (↑(List.length p0) : Int), 0, ())) fun a =>
 (.sum a (fun b =>
 (.ret (b.1, ()))) (fun c =>
 (.ret (-1, ())))))
noncomputable def idxStr : ((List ByteArray) × (ByteArray × Unit)) → Option (Int × Unit) := fun x => (idxStr_B x).run
abbrev idxStr_ins : List (Bool × Pat) := [(false, .ty true (.sl .str)), (false, .ty false .str)]
abbrev idxStr_outs : List Pat := [.ty false (.int .i64)]
noncomputable abbrev idxStr_f : Func := Tryz.f68
noncomputable abbrev idxStr_P : Program := Tryz.prog
abbrev idxStr_kp : List Nat := kpOf idxStr_ins
abbrev idxStr_kf : List Nat := kfOf idxStr_ins
noncomputable def idxStr_c : Ctx := { cx_runElem with base := 1024 }
theorem idxStr_env : EnvFull idxStr_P idxStr_c := env_base (en_runElem) 1024
abbrev idxStr_H0 : List Hole := [.slot 0 true (.sl .str), .slot 1 false .str, .slot 7 false (.int .i64), .slot 8 false (.int .i64)]
def idxStr_S0 : Skel := ⟨19, [], []⟩
abbrev idxStr_H0e0 : List Hole := [.slot 4 false (.int .i64)]
def idxStr_S0e0 : Skel := ⟨19, [], []⟩
abbrev idxStr_H0e1 : List Hole := []
def idxStr_S0e1 : Skel := ⟨19, [], []⟩
def idxStr_h0 : Exit → Shape
 | .normal => ⟨[(0, .as true (.sl .str)), (1, .as false .str), (7, .as false (.int .i64)), (8, .as false (.int .i64))], [], []⟩
 | .ret => ⟨[(4, .as false (.int .i64))], [], []⟩
 | .exit 0 => ⟨[], [], []⟩
 | _ => ⟨[], [], []⟩
def idxStr_e0 : ((Int × Unit) ⊕ Unit) → Exit × St
 | (.inl u) => (.ret, idxStr_S0e0.fillK idxStr_kf idxStr_H0e0 u)
 | (.inr u) => (.exit 0, idxStr_S0e1.fillK idxStr_kf idxStr_H0e1 u)
def idxStr_t0 : ((Int × Unit) ⊕ Unit) → Br (Exit × St) := fun z => .sum z (fun u => .ret (.ret, idxStr_S0e0.fillK idxStr_kf idxStr_H0e0 u)) (fun u => .ret (.exit 0, idxStr_S0e1.fillK idxStr_kf idxStr_H0e1 u))
noncomputable def idxStr_C0 : Code := loopAt 0 (bodyOf idxStr_f)
noncomputable def idxStr_o0 : St → Br (Exit × St) := loopF idxStr_kp idxStr_kf 1024 (idxStr_h0 .normal) (idxStr_S0.parseK idxStr_kf idxStr_H0) fun x => .opt (idxStr_w0 x) idxStr_t0
noncomputable def idxStr_p : Par := { sh := fun _ => none, k := 0, lo := fun i => bif Nat.beq i 2 then some idxStr_o0 else none }
theorem idxStr_r0 (a : (List ByteArray)) (b : ByteArray) (c : Int) (d : Int) : roundF idxStr_kp idxStr_kf idxStr_c idxStr_p idxStr_h0 idxStr_C0 (idxStr_S0.fillK idxStr_kf idxStr_H0 (a, b, c, d, ())) = (idxStr_l0 (a, b, c, d, ())).bind (loopLeaf (fun x => idxStr_S0.fillK idxStr_kf idxStr_H0 x) idxStr_e0) := by kernel_rfl
theorem idxStr_ok0 (g : Cfg) (hg : ∀ n, Go.PI.look n g.m0 ≠ Option.none → n ∈ idxStr_kp) : LoopOk idxStr_P g idxStr_o0 idxStr_C0 := LoopOk.auto idxStr_env hg idxStr_p (LoOk.of (l := []) (by kernel_rfl) .nil) idxStr_h0 (fun x => idxStr_S0.fillK idxStr_kf idxStr_H0 x) (fun s x h => Skel.parseK_ok s x h) idxStr_l0 idxStr_e0 (fun z h => by rcases z with z | z <;> cases h) idxStr_t0 (fun z => by rcases z with z | z <;> rfl) (fun (a, b, c, d, ()) => idxStr_r0 a b c d)
theorem idxStr_eq (p0 : (List ByteArray)) (p1 : ByteArray) : ocRun idxStr_c idxStr_p idxStr_f idxStr_ins idxStr_outs (p0, p1, ()) = idxStr_B (p0, p1, ()) := by kernel_rfl
theorem idxStr_oc : OC idxStr_P 68 idxStr_ins idxStr_outs idxStr := OC.of_tree idxStr_env Tryz.func68 (by kernel_rfl) (by kernel_rfl) (p := idxStr_p) (fun g hg => LoOk.of (l := [idxStr_C0]) (by kernel_rfl) (.cons (idxStr_ok0 g hg) (by kernel_rfl) .nil)) (fun (p0, p1, ()) => idxStr_eq p0 p1)
noncomputable def cx_idxStr : Ctx := addO cx_runElem 68 (ocOrc idxStr_ins idxStr_outs idxStr)
theorem en_idxStr : EnvFull Tryz.prog cx_idxStr := env_add (en_runElem) idxStr_oc.callOk
noncomputable def hasStr_B : ((List ByteArray) × (ByteArray × Unit)) → Br (Bool × Unit) := fun (p0, p1, ()) =>
 (.opt (idxStr (p0, p1, ())) fun y3 =>
 (.ret (decide (y3.1 ≥ 0), ())))
noncomputable def hasStr : ((List ByteArray) × (ByteArray × Unit)) → Option (Bool × Unit) := fun x => (hasStr_B x).run
abbrev hasStr_ins : List (Bool × Pat) := [(false, .ty true (.sl .str)), (false, .ty false .str)]
abbrev hasStr_outs : List Pat := [.ty false .bool]
noncomputable abbrev hasStr_f : Func := Tryz.f36
noncomputable abbrev hasStr_P : Program := Tryz.prog
noncomputable def hasStr_c : Ctx := { cx_idxStr with base := 1024 }
theorem hasStr_env : EnvFull hasStr_P hasStr_c := env_base (en_idxStr) 1024
noncomputable def hasStr_p : Par := { sh := fun _ => none, k := 0, lo := fun _ => none }
theorem hasStr_eq (p0 : (List ByteArray)) (p1 : ByteArray) : ocRun hasStr_c hasStr_p hasStr_f hasStr_ins hasStr_outs (p0, p1, ()) = hasStr_B (p0, p1, ()) := by kernel_rfl
theorem hasStr_oc : OC hasStr_P 36 hasStr_ins hasStr_outs hasStr := OC.of_tree hasStr_env Tryz.func36 (by kernel_rfl) (by kernel_rfl) (p := hasStr_p) (fun g hg => LoOk.of (l := []) (by kernel_rfl) .nil) (fun (p0, p1, ()) => hasStr_eq p0 p1)
noncomputable def cx_hasStr : Ctx := addO cx_idxStr 36 (ocOrc hasStr_ins hasStr_outs hasStr)
theorem en_hasStr : EnvFull Tryz.prog cx_hasStr := env_add (en_idxStr) hasStr_oc.callOk
noncomputable def betwQ_l0 : (Int × (Int × (zA10 × ((List Int) × Unit)))) → Br ((Int × (Int × (zA10 × ((List Int) × Unit)))) ⊕ ((List Int) × Unit)) := fun (a, b, c, d, ()) =>
 (.cond (decide (b < (↑(List.length c.1) : Int)))
 (.cond (decide (a < (↑(List.length c.1) : Int)))
 (.cond (decide (0 ≤ b) && decide (b < (↑(List.length c.1) : Int)))
 (.cond (List.getD c.1 (Int.toNat b) zV2).2.2.1
 (.cond (decide ((List.length d + List.length (List.set (List.replicate 1 0) 0 b)) * 8 ≤ 140737488355328))
 (.ret (.inl (a, IntKind.wrap .i64 (b + 1), c, d ++ List.set (List.replicate 1 0) 0 b, ())))
 (.no))
 (.ret (.inr (d, ()))))
 (.no))
 (.ret (.inr (d, ()))))
 (.ret (.inr (d, ()))))
noncomputable def betwQ_w0 : (Int × (Int × (zA10 × ((List Int) × Unit)))) → Option ((List Int) × Unit) := iterO fun x => (betwQ_l0 x).run
noncomputable def betwQ_B : (zA10 × (Int × Unit)) → Br ((List Int) × Unit) := fun (p0, p1, ()) =>
 (.opt (betwQ_w0 (p1, if IntKind.wrap .i64 (p1 + 1) < 0 then 0 else IntKind.wrap .i64 (p1 + 1), p0, [], ())) fun a =>
 (.ret (a.1, ())))
noncomputable def betwQ : (zA10 × (Int × Unit)) → Option ((List Int) × Unit) := fun x => (betwQ_B x).run
abbrev betwQ_ins : List (Bool × Pat) := [(false, .ty true zA5), (false, .ty false (.int .i64))]
abbrev betwQ_outs : List Pat := [.ty false (.sl (.int .i64))]
noncomputable abbrev betwQ_f : Func := Tryz.f71
noncomputable abbrev betwQ_P : Program := Tryz.prog
abbrev betwQ_kp : List Nat := kpOf betwQ_ins
abbrev betwQ_kf : List Nat := kfOf betwQ_ins
noncomputable def betwQ_c : Ctx := { cx_hasStr with base := 1024 }
theorem betwQ_env : EnvFull betwQ_P betwQ_c := env_base (en_hasStr) 1024
abbrev betwQ_H0 : List Hole := [.slot 1 false (.int .i64), .slot 6 false (.int .i64), .tv 1026 true zA5, .ar 1724 false 3 (.int .i64)]
def betwQ_S0 : Skel := ⟨37, [(2, D.c (C.ref 1026 0 0)), (5, .c (.mfull 1724))], [(1026, []), (1724, [])]⟩
abbrev betwQ_H0e0 : List Hole := [.ar 1725 false 3 (.int .i64)]
def betwQ_S0e0 : Skel := ⟨37, [(5, .c (.mfull 1725))], [(1725, [])]⟩
def betwQ_h0 : Exit → Shape
 | .normal => ⟨[(1, .as false (.int .i64)), (2, .keep), (5, .row 700 false 3 (.int .i64)), (6, .as false (.int .i64))], [], [(2, true), (700, false)]⟩
 | .exit 0 => ⟨[(5, .row 701 false 3 (.int .i64))], [], [(701, false)]⟩
 | _ => ⟨[], [], []⟩
def betwQ_e0 : ((List Int) × Unit) → Exit × St
 | u => (.exit 0, betwQ_S0e0.fillK betwQ_kf betwQ_H0e0 u)
def betwQ_t0 : ((List Int) × Unit) → Br (Exit × St) := fun u => .ret (.exit 0, betwQ_S0e0.fillK betwQ_kf betwQ_H0e0 u)
noncomputable def betwQ_C0 : Code := loopAt 0 (bodyOf betwQ_f)
noncomputable def betwQ_o0 : St → Br (Exit × St) := loopF betwQ_kp betwQ_kf 1024 (betwQ_h0 .normal) (betwQ_S0.parseK betwQ_kf betwQ_H0) fun x => .opt (betwQ_w0 x) betwQ_t0
noncomputable def betwQ_p : Par := { sh := fun _ => none, k := 0, lo := fun i => bif Nat.beq i 3 then some betwQ_o0 else none }
theorem betwQ_r0 (a : Int) (b : Int) (c : zA10) (d : (List Int)) : roundF betwQ_kp betwQ_kf betwQ_c betwQ_p betwQ_h0 betwQ_C0 (betwQ_S0.fillK betwQ_kf betwQ_H0 (a, b, c, d, ())) = (betwQ_l0 (a, b, c, d, ())).bind (loopLeaf (fun x => betwQ_S0.fillK betwQ_kf betwQ_H0 x) betwQ_e0) := by kernel_rfl
theorem betwQ_ok0 (g : Cfg) (hg : ∀ n, Go.PI.look n g.m0 ≠ Option.none → n ∈ betwQ_kp) : LoopOk betwQ_P g betwQ_o0 betwQ_C0 := LoopOk.auto betwQ_env hg betwQ_p (LoOk.of (l := []) (by kernel_rfl) .nil) betwQ_h0 (fun x => betwQ_S0.fillK betwQ_kf betwQ_H0 x) (fun s x h => Skel.parseK_ok s x h) betwQ_l0 betwQ_e0 (fun _ h => by cases h) betwQ_t0 (fun _ => rfl) (fun (a, b, c, d, ()) => betwQ_r0 a b c d)
theorem betwQ_eq (p0 : zA10) (p1 : Int) : ocRun betwQ_c betwQ_p betwQ_f betwQ_ins betwQ_outs (p0, p1, ()) = betwQ_B (p0, p1, ()) := by kernel_rfl
theorem betwQ_oc : OC betwQ_P 71 betwQ_ins betwQ_outs betwQ := OC.of_tree betwQ_env Tryz.func71 (by kernel_rfl) (by kernel_rfl) (p := betwQ_p) (fun g hg => LoOk.of (l := [betwQ_C0]) (by kernel_rfl) (.cons (betwQ_ok0 g hg) (by kernel_rfl) .nil)) (fun (p0, p1, ()) => betwQ_eq p0 p1)
noncomputable def cx_betwQ : Ctx := addO cx_hasStr 71 (ocOrc betwQ_ins betwQ_outs betwQ)
theorem en_betwQ : EnvFull Tryz.prog cx_betwQ := env_add (en_hasStr) betwQ_oc.callOk
end Go.Proofs.YtiblijkhpmemeaaGreat

namespace Go.Proofs.YtiblijkhpmemeaaGreat
open Go.PI Go
end Go.Proofs.YtiblijkhpmemeaaGreat

namespace Go.Proofs.YtiblijkhpmemeaaGreat
open Go.PI Go
noncomputable def cxN1 : Ctx := cx_betwQ
theorem enN1 : EnvFull Tryz.prog cxN1 := en_betwQ
noncomputable def cxN2 : Ctx := addO cxN1 27 (ocOrc eventsR_ins eventsR_outs eventsR)
theorem enN2 : EnvFull Tryz.prog cxN2 := env_add enN1 eventsR_oc.callOk
end Go.Proofs.YtiblijkhpmemeaaGreat
