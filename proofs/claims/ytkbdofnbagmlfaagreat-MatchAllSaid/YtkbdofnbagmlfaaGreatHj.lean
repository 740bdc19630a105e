/- Predicates as trees: what both sides come to. Predicates as trees: what the reference comes to, from the root on. Constants and parts of predicates that may be. The reference's predicates: whatever is asked, an answer. All matches, element by element: whatever is asked, an answer; what is told is what each step keeps. -/
import Derived.Test.YtkbdofnbagmlfaaGreatHd
import Derived.Test.YtkbdofnbagmlfaaGreatHi
import Derived.Test.YtkbdofnbagmlfaaGreatHg
import Derived.Test.YtkbdofnbagmlfaaGreatF2a
namespace Go.Proofs.YtkbdofnbagmlfaaGreat
open Go.PI Go
inductive Tm
 | leaf (n : Nd) | un (n : Nd) (t : Tm) | bin (n : Nd) (a b : Tm)
def Tm.flat : Tm -> List Nd
 | .leaf n => [n]
 | .un n t => t.flat ++ [n]
 | .bin n a b => a.flat ++ b.flat ++ [n]
def evT (L : Nd -> Val × Bool) : Tm -> Val × Bool
 | .leaf n => L n
 | .un n t => if (evT L t).2 = true then un n.1 (evT L t).1 else (zV, false)
 | .bin n a b => if (evT L a).2 = true /\ (evT L b).2 = true then bi n.1 (evT L a).1 (evT L b).1 else (zV, false)
structure LeafOk (s : Sch) (env : List Bnd) (L : Nd -> Val × Bool) (n : Nd) : Prop where
 ok : ZbE n = true
 op : n.1 = 1 \/ n.1 = 2
 vn : (L n).2 = true -> VN (L n).1
 c : n.1 = 1 -> L n = (n.2.1, true)
 f : n.1 = 2 -> ∃ v, fieldV (s, env, n, ()) = some ((v, (L n).2), ()) /\ ((L n).2 = true -> v = (L n).1)
 r : n.1 = 2 -> ∀ at' : Int, ∃ z, evalR_w0 (env, at', 0, zV, n, ()) = some z /\ ((∃ v, z = .inl ((L n).2, at', v, ()) /\ ((L n).2 = true -> v = (L n).1)) \/ (∃ v, z = .inr (at', v, ()) /\ (L n).2 = false))
def TmOk (s : Sch) (env : List Bnd) (L : Nd -> Val × Bool) : Tm -> Prop
 | .leaf n => LeafOk s env L n
 | .un n t => ZbE n = true /\ (n.1 = 3 \/ n.1 = 13) /\ TmOk s env L t
 | .bin n a b => ZbE n = true /\ (4 <= n.1 /\ n.1 <= 15 /\ n.1 ≠ 13) /\ TmOk s env L a /\ TmOk s env L b
variable {s : Sch} {env : List Bnd} {L : Nd -> Val × Bool}
theorem Zer : ∀ {t : Tm}, TmOk s env L t -> (evT L t).2 = true -> VN (evT L t).1
 | .leaf n, h, h2 => h.vn h2
 | .un n t, h, h2 => by
  have ih := Zer h.2.2
  simp only [evT] at h2 ⊢
  by_cases c : (evT L t).2 = true
  ·rw [if_pos c] at h2 ⊢
   exact un_VN (ih c) h2
  ·rw [if_neg c] at h2
   cases h2
 | .bin n a b, h, h2 => by
  simp only [evT] at h2 ⊢
  by_cases c : (evT L a).2 = true /\ (evT L b).2 = true
  ·rw [if_pos c] at h2 ⊢
   exact bi_VN h2
  ·rw [if_neg c] at h2
   cases h2
theorem pt_un {op : Int} (h : op = 3 \/ op = 13) : pt op = 1 := by rcases h with rfl | rfl <;> rfl
theorem Zoj {op : Int} (h : 4 <= op /\ op <= 15 /\ op ≠ 13) : pt op = 2 := by
 obtain ⟨h1, h2, h3⟩ := h
 unfold pt
 rw [if_neg (by omega), if_neg (by omega), if_neg (by omega), if_neg h3, if_pos h1, if_pos h2]
theorem ZfI : ∀ {t : Tm}, TmOk s env L t -> ∀ (d : Int) (r : List Nd), 0 <= d -> Zbs d (t.flat ++ r) = Zbs (d + 1) r
 | .leaf n, h, d, r, hd => by
  have hp := Zoa h.op
  show Zbs d (n :: r) = _
  simp only [Zbs, hp, h.ok, Bool.true_eq_false, ↓reduceIte]
  rw [if_neg (by omega), if_neg (by omega)]
  congr 1
  omega
 | .un n t, h, d, r, hd => by
  have hp := pt_un h.2.1
  show Zbs d ((t.flat ++ [n]) ++ r) = _
  rw [List.append_assoc, ZfI h.2.2 d _ hd]
  simp only [List.cons_append, List.nil_append, Zbs, hp, h.1, Bool.true_eq_false, ↓reduceIte]
  rw [if_neg (by omega), if_neg (by omega)]
  congr 1
  omega
 | .bin n a b, h, d, r, hd => by
  have hp := Zoj h.2.1
  show Zbs d ((a.flat ++ b.flat ++ [n]) ++ r) = _
  rw [List.append_assoc, List.append_assoc, ZfI h.2.2.1 d _ hd, ZfI h.2.2.2 (d + 1) _ (by omega)]
  simp only [List.cons_append, List.nil_append, Zbs, hp, h.1, Bool.true_eq_false, ↓reduceIte]
  rw [if_neg (by omega), if_neg (by omega)]
  congr 1
  omega
theorem ZuG (v : Val) : optV (some ((v, true), ())) = some v := rfl
theorem Zuk (v : Val) : optV (some ((v, false), ())) = none := rfl
theorem ZrS (x : Val × Bool) : optV (some (x, ())) = if x.2 = true then some x.1 else none := by
 obtain ⟨v, b⟩ := x
 cases b <;> rfl
theorem ZeN : ∀ {t : Tm}, TmOk s env L t -> ∀ (st : List Val) (r : List Nd), Zbh s env st (t.flat ++ r) = if (evT L t).2 = true then Zbh s env (st ++ [(evT L t).1]) r else none
 | .leaf n, h, st, r => by
  have hp := Zoa h.op
  show Zbh s env st (n :: r) = _
  have e0 : st.take (st.length - (pt n.1).toNat) = st := by rw [hp]; exact List.take_of_length_le (by simp)
  simp only [Zbh, e0, evT]
  rcases h.op with h1 | h2
  ·have hc := h.c h1
   simp only [ZcL, if_pos h1, hc, ↓reduceIte]
  ·have h1 : ¬ n.1 = 1 := by omega
   obtain ⟨v, hf, hv⟩ := h.f h2
   simp only [ZcL, if_neg h1, if_pos h2, hf]
   by_cases hb : (L n).2 = true
   ·simp only [hb, ZuG, ↓reduceIte, hv hb]
   ·have hb' : (L n).2 = false := by simpa using hb
    simp only [hb', Zuk, Bool.false_eq_true, ↓reduceIte]
 | .un n t, h, st, r => by
  have hp := pt_un h.2.1
  show Zbh s env st ((t.flat ++ [n]) ++ r) = _
  rw [List.append_assoc, ZeN h.2.2 st _]
  simp only [evT]
  by_cases c : (evT L t).2 = true
  ·simp only [c, ↓reduceIte, List.cons_append, List.nil_append, Zbh]
   have hop := h.2.1
   have h1 : ¬ n.1 = 1 := by omega
   have h2 : ¬ n.1 = 2 := by omega
   have el : (st ++ [(evT L t).1]).length - (pt n.1).toNat = st.length := by rw [hp, List.length_append]; simp
   simp only [ZcL, h1, h2, ↓reduceIte, el, List.drop_left', List.take_left', apply1 h.2.1 (Zer h.2.2 c), ZrS]
   by_cases c2 : (un n.1 (evT L t).1).2 = true
   ·simp only [c2, ↓reduceIte]
   ·simp only [c2, ↓reduceIte, Bool.false_eq_true]
  ·simp only [c, ↓reduceIte, Bool.false_eq_true]
 | .bin n a b, h, st, r => by
  have hp := Zoj h.2.1
  show Zbh s env st ((a.flat ++ b.flat ++ [n]) ++ r) = _
  rw [List.append_assoc, List.append_assoc, ZeN h.2.2.1 st _]
  simp only [evT]
  by_cases c : (evT L a).2 = true
  ·simp only [c, ↓reduceIte, true_and]
   rw [ZeN h.2.2.2 _ _]
   by_cases c' : (evT L b).2 = true
   ·simp only [c', ↓reduceIte, List.cons_append, List.nil_append, Zbh]
    have hop := h.2.1
    have h1 : ¬ n.1 = 1 := by omega
    have h2 : ¬ n.1 = 2 := by omega
    have el : (st ++ [(evT L a).1] ++ [(evT L b).1]).length - (pt n.1).toNat = st.length := by rw [hp, List.length_append, List.length_append]; simp
    have e2 : st ++ [(evT L a).1] ++ [(evT L b).1] = st ++ [(evT L a).1, (evT L b).1] := by simp
    simp only [ZcL, h1, h2, ↓reduceIte, el]
    rw [e2]
    simp only [List.drop_left', List.take_left', apply2 h.2.1.1 h.2.1.2.1 h.2.1.2.2 (Zer h.2.2.1 c) (Zer h.2.2.2 c'), ZrS]
    by_cases c2 : (bi n.1 (evT L a).1 (evT L b).1).2 = true
    ·simp only [c2, ↓reduceIte]
    ·simp only [c2, ↓reduceIte, Bool.false_eq_true]
   ·simp only [c', ↓reduceIte, Bool.false_eq_true]
  ·simp only [c, ↓reduceIte, Bool.false_eq_true, false_and]
theorem Zfp : ∀ t : Tm, 1 <= t.flat.length
 | .leaf n => by simp [Tm.flat]
 | .un n t => by simp [Tm.flat]
 | .bin n a b => by simp [Tm.flat]; omega
theorem Zup (hF : FvTot s env) {t : Tm} (h : TmOk s env L t) (hl : t.flat.length <= 64) : evalE (s, t.flat, env, ()) = some (if (evT L t).2 = true then ((evT L t).1, true) else (zV, false), ()) := by
 rw [ZoC hF]
 have h1 := ZfI h 0 [] (by omega)
 rw [List.append_nil] at h1
 have h2 := ZeN h [] []
 rw [List.append_nil] at h2
 rw [if_pos ⟨hl, h1⟩, h2]
 by_cases c : (evT L t).2 = true
 ·simp only [c, ↓reduceIte, Zbh]
  rfl
 ·simp only [c, ↓reduceIte, Bool.false_eq_true]
end Go.Proofs.YtkbdofnbagmlfaaGreat

namespace Go.Proofs.YtkbdofnbagmlfaaGreat
open Go.PI Go
variable {s : Sch} {env : List Bnd} {L : Nd -> Val × Bool}
theorem ZhV (op : Int) : partsR (op, ()) = some (pt op, ()) := by
 unfold partsR ZjJ pt
 simp only [Br.run, cond_eq_ite, beq_iff_eq, decide_eq_true_eq, ge_iff_le]
 repeat' split
 all_goals first | rfl | omega
abbrev nZ : Nd := (0, (0, 0, ByteArray.empty, false), ByteArray.empty, ByteArray.empty)
theorem ZlD (l pre post : List Nd) (n : Nd) (h : l = pre ++ n :: post) : List.getD l (Int.toNat (pre.length : Int)) nZ = n := by
 subst h
 have e : Int.toNat (pre.length : Int) = pre.length := by omega
 rw [e]
 simp [List.getD]
theorem ZeY : ∀ {t : Tm}, TmOk s env L t -> ∀ (l pre post : List Nd) (k : Nat), l = pre ++ t.flat ++ post -> l.length <= 64 -> t.flat.length <= k ->
  ∃ v, ZcW k (l, env, (pre.length : Int) + t.flat.length - 1, ()) = some ((v, (evT L t).2, (pre.length : Int)), ()) /\ ((evT L t).2 = true -> v = (evT L t).1)
 | t, h, l, pre, post, 0, hl, h64, hk => by have := Zfp t; omega
 | .leaf n, h, l, pre, post, k + 1, hl, h64, hk => by
  have ei : (pre.length : Int) + (Tm.leaf n).flat.length - 1 = pre.length := by simp [Tm.flat]
  have hl' : l = pre ++ n :: post := by rw [hl]; simp [Tm.flat]
  have hlen : (pre.length : Int) < (l.length : Int) := by rw [hl']; simp; omega
  rw [ei]
  have hn := ZlD l pre post n hl'
  show ∃ v, (ZcC (ZcW k) (l, env, (pre.length : Int), ())).run = _ /\ _
  unfold ZcC
  have q0 : ¬ ((pre.length : Int) < 0) := by omega
  have q1 : (0 : Int) <= (pre.length : Int) := by omega
  simp only [Br.run, decide_eq_false q0, cond_false, decide_eq_true q1, decide_eq_true hlen, Bool.and_self, cond_true, hn, ZhV, Zoa h.op, beq_self_eq_true]
  rcases h.op with h1 | h2
  ·have b1 : (n.1 == 1) = true := by rw [h1]; rfl
   have hc := h.c h1
   simp only [b1, cond_true, evT, hc]
   exact ⟨_, rfl, fun _ => rfl⟩
  ·have b1 : (n.1 == 1) = false := by rw [h2]; rfl
   obtain ⟨z, hz, hzz⟩ := h.r h2 (pre.length : Int)
   have hz' : evalR_w0 (env, (pre.length : Int), 0, (0, 0, ByteArray.empty, false), n, ()) = some z := hz
   simp only [b1, cond_false, hz', Br.run]
   rcases hzz with ⟨v, rfl, hv⟩ | ⟨v, rfl, hv⟩
   ·exact ⟨v, rfl, hv⟩
   ·refine ⟨zV, ?_, fun q => ?_⟩
    ·simp only [evT, hv]
     rfl
    ·simp only [evT, hv] at q; cases q
 | .un n t, h, l, pre, post, k + 1, hl, h64, hk => by
  have hop := h.2.1
  have hfl : (Tm.un n t).flat.length = t.flat.length + 1 := by simp [Tm.flat]
  have hl1 : l = pre ++ t.flat ++ (n :: post) := by rw [hl]; simp [Tm.flat]
  have hl2 : l = (pre ++ t.flat) ++ n :: post := hl1
  have ei : (pre.length : Int) + (Tm.un n t).flat.length - 1 = ((pre ++ t.flat).length : Nat) := by rw [hfl, List.length_append]; omega
  have hlen : (((pre ++ t.flat).length : Nat) : Int) < (l.length : Int) := by rw [hl2]; simp only [List.length_append, List.length_cons]; omega
  rw [ei]
  have hn := ZlD l (pre ++ t.flat) post n hl2
  obtain ⟨v, hv, hvv⟩ := ZeY h.2.2 l pre (n :: post) k hl1 h64 (by omega)
  show ∃ v, (ZcC (ZcW k) (l, env, (((pre ++ t.flat).length : Nat) : Int), ())).run = _ /\ _
  have hw : IntKind.wrap .i64 ((((pre ++ t.flat).length : Nat) : Int) - 1) = (pre.length : Int) + t.flat.length - 1 := by
   have hle : (pre ++ t.flat).length <= l.length := by rw [hl2]; simp only [List.length_append, List.length_cons]; omega
   rw [Go.PI.wrap_small (by omega) (by omega), List.length_append]; omega
  unfold ZcC
  have q0 : ¬ ((((pre ++ t.flat).length : Nat) : Int) < 0) := by omega
  have q1 : (0 : Int) <= (((pre ++ t.flat).length : Nat) : Int) := by omega
  have p1 : ((1 : Int) == 0) = false := rfl
  simp only [Br.run, decide_eq_false q0, cond_false, decide_eq_true q1, decide_eq_true hlen, Bool.and_self, cond_true, hn, ZhV, pt_un h.2.1, p1, beq_self_eq_true, hw, hv, cond_eq_ite]
  simp only [evT]
  by_cases c : (evT L t).2 = true
  ·obtain rfl := hvv c
   have hVN := Zer h.2.2 c
   simp only [c, ↓reduceIte]
   rcases hop with h3 | h13
   ·have b13 : (n.1 == 13) = false := by rw [h3]; rfl
    simp only [b13, Bool.false_eq_true, ↓reduceIte, h3]
    generalize (evT L t).1 = a at hVN
    cases hVN with
    | i m hm =>
     simp only [beq_self_eq_true, ↓reduceIte, un, okV]
     by_cases hmin : m = -9223372036854775808
     ·subst hmin
      exact ⟨_, rfl, fun q => by cases q⟩
     ·obtain ⟨m1, m2⟩ := hm
      have w : IntKind.wrap .i64 (0 - m) = -m := by rw [Go.PI.wrap_small (by omega) (by omega)]; omega
      have b : (m != -9223372036854775808) = true := by rw [bne_iff_ne]; exact hmin
      simp only [w, b, ne_eq, hmin, not_false_eq_true, and_self, decide_true, ↓reduceIte]
      exact ⟨_, rfl, fun _ => rfl⟩
    | s x => exact ⟨_, rfl, fun q => by cases q⟩
    | b x => exact ⟨_, rfl, fun q => by cases q⟩
   ·have b13 : (n.1 == 13) = true := by rw [h13]; rfl
    simp only [b13, ↓reduceIte, h13]
    generalize (evT L t).1 = a at hVN
    cases hVN with
    | i m hm => exact ⟨_, rfl, fun q => by cases q⟩
    | s x => exact ⟨_, rfl, fun q => by cases q⟩
    | b x => exact ⟨_, rfl, fun q => rfl⟩
  ·have c' : (evT L t).2 = false := by simpa using c
   simp only [c', Bool.false_eq_true, ↓reduceIte]
   by_cases b13 : (n.1 == 13) = true
   ·simp only [b13, ↓reduceIte]
    exact ⟨_, rfl, fun q => by cases q⟩
   ·simp only [b13, Bool.false_eq_true, ↓reduceIte]
    exact ⟨_, rfl, fun q => by cases q⟩
 | .bin n a b, h, l, pre, post, k + 1, hl, h64, hk => by
  have hop := h.2.1
  have hfl : (Tm.bin n a b).flat.length = a.flat.length + b.flat.length + 1 := by simp [Tm.flat]; omega
  have hl1 : l = (pre ++ a.flat) ++ b.flat ++ (n :: post) := by rw [hl]; simp [Tm.flat]
  have hl0 : l = pre ++ a.flat ++ (b.flat ++ n :: post) := by rw [hl]; simp [Tm.flat]
  have hl2 : l = (pre ++ a.flat ++ b.flat) ++ n :: post := hl1
  have ei : (pre.length : Int) + (Tm.bin n a b).flat.length - 1 = ((pre ++ a.flat ++ b.flat).length : Nat) := by rw [hfl]; simp only [List.length_append]; omega
  have hlen : (((pre ++ a.flat ++ b.flat).length : Nat) : Int) < (l.length : Int) := by rw [hl2]; simp only [List.length_append, List.length_cons]; omega
  rw [ei]
  have hn := ZlD l (pre ++ a.flat ++ b.flat) post n hl2
  have hpa := Zfp a
  have hpb := Zfp b
  obtain ⟨v, hv, hvv⟩ := ZeY h.2.2.2 l (pre ++ a.flat) (n :: post) k hl1 h64 (by omega)
  obtain ⟨u, hu, huu⟩ := ZeY h.2.2.1 l pre (b.flat ++ n :: post) k hl0 h64 (by omega)
  show ∃ v, (ZcC (ZcW k) (l, env, (((pre ++ a.flat ++ b.flat).length : Nat) : Int), ())).run = _ /\ _
  have hle : (pre ++ a.flat ++ b.flat).length <= l.length := by rw [hl2]; simp only [List.length_append, List.length_cons]; omega
  have hle' : (pre ++ a.flat ++ b.flat).length = (pre ++ a.flat).length + b.flat.length := by simp only [List.length_append]
  have hle2 : (pre ++ a.flat).length = pre.length + a.flat.length := by simp only [List.length_append]
  have hw : IntKind.wrap .i64 ((((pre ++ a.flat ++ b.flat).length : Nat) : Int) - 1) = ((pre ++ a.flat).length : Int) + b.flat.length - 1 := by
   rw [Go.PI.wrap_small (by omega) (by omega)]; omega
  have hw2 : IntKind.wrap .i64 ((((pre ++ a.flat).length : Nat) : Int) - 1) = (pre.length : Int) + a.flat.length - 1 := by
   rw [Go.PI.wrap_small (by omega) (by omega)]; omega
  unfold ZcC
  have q0 : ¬ ((((pre ++ a.flat ++ b.flat).length : Nat) : Int) < 0) := by omega
  have q1 : (0 : Int) <= (((pre ++ a.flat ++ b.flat).length : Nat) : Int) := by omega
  have p1 : ((2 : Int) == 0) = false := rfl
  have p2 : ((2 : Int) == 1) = false := rfl
  simp only [Br.run, decide_eq_false q0, cond_false, decide_eq_true q1, decide_eq_true hlen, Bool.and_self, cond_true, hn, ZhV, Zoj h.2.1, p1, p2, hw, hv, hw2, hu, cond_eq_ite]
  simp only [evT]
  by_cases ca : (evT L a).2 = true
  ·by_cases cb : (evT L b).2 = true
   ·obtain rfl := hvv cb
    obtain rfl := huu ca
    have hVa := Zer h.2.2.1 ca
    have hVb := Zer h.2.2.2 cb
    simp only [ca, cb, Bool.not_true, Bool.false_eq_true, and_self, ↓reduceIte]
    by_cases he : (evT L a).1.1 = (evT L b).1.1
    ·have hne : ((evT L a).1.1 != (evT L b).1.1) = false := by rw [he]; simp
     obtain ⟨w, hw', hww⟩ := both_at h.2.1.1 h.2.1.2.1 h.2.1.2.2 hVa hVb he
     simp only [hne, Bool.false_eq_true, ↓reduceIte, hw', Br.run]
     exact ⟨_, rfl, hww⟩
    ·have hne : ((evT L a).1.1 != (evT L b).1.1) = true := by rw [bne_iff_ne]; exact he
     simp only [hne, ↓reduceIte, bi, he]
     exact ⟨_, rfl, fun q => by cases q⟩
   ·have cb' : (evT L b).2 = false := by simpa using cb
    simp only [ca, cb', Bool.not_true, Bool.not_false, Bool.false_eq_true, and_false, ↓reduceIte]
    exact ⟨_, rfl, fun q => by cases q⟩
  ·have ca' : (evT L a).2 = false := by simpa using ca
   simp only [ca', Bool.not_false, Bool.false_eq_true, false_and, ↓reduceIte]
   exact ⟨_, rfl, fun q => by cases q⟩
theorem ZqX {t : Tm} (h : TmOk s env L t) (h64 : t.flat.length <= 64) :
  ∃ v, evalRF (t.flat, env, IntKind.wrap .i64 ((t.flat.length : Int) - 1), ()) = some ((v, (evT L t).2, 0), ()) /\ ((evT L t).2 = true -> v = (evT L t).1) := by
 have hp := Zfp t
 have hw : IntKind.wrap .i64 ((t.flat.length : Int) - 1) = (([] : List Nd).length : Int) + t.flat.length - 1 := by
  rw [Go.PI.wrap_small (by omega) (by omega)]; simp
 rw [hw]
 obtain ⟨v, hv, hvv⟩ := ZeY h t.flat [] [] ((((([] : List Nd).length : Int) + t.flat.length - 1).toNat + 3)) (by simp) h64 (by simp; omega)
 exact ⟨v, hv, hvv⟩
end Go.Proofs.YtkbdofnbagmlfaaGreat

namespace Go.Proofs.YtkbdofnbagmlfaaGreat
open Go.PI Go
def nC (v : Val) : Nd := (1, v, ByteArray.empty, ByteArray.empty)
def nO (op : Int) : Nd := (op, (0, 0, ByteArray.empty, false), ByteArray.empty, ByteArray.empty)
def VC (v : Val) : Prop := VN v /\ v.2.1 ≠ -9223372036854775808 /\ v.2.2.1.size <= 64
theorem Zf2 {n : Nd} (h : nodeM (n, ()) = some (true, ())) : ZbE n = true := by simp only [ZbE, h]
theorem nodeOk_C {v : Val} (h : VC v) : ZbE (nC v) = true := by
 obtain ⟨h1, h2, h3⟩ := h
 apply Zf2
 unfold nodeM Zib mayV ZqL numV ZhW textV ZlF truthV ZcR
 cases h1 with
 | i m hm =>
  have h2' : ¬ m = -9223372036854775808 := h2
  have hb : (m != -9223372036854775808) = true := by rw [bne_iff_ne]; exact h2'
  simp only [Br.run, nC, beq_self_eq_true, cond_true, decide_true, Bool.and_self, hb]
  rfl
 | s x =>
  have h3' : x.size <= 64 := h3
  have h3'' : ((x.size : Nat) : Int) <= 64 := by omega
  have e2 : ((2 : Int) == 1) = false := rfl
  simp only [Br.run, nC, e2, beq_self_eq_true, cond_true, cond_false, decide_true, Bool.and_self]
  show (bif decide ((x.size : Int) <= 64) then some (true, ()) else some (false, ())) = some (true, ())
  rw [decide_eq_true h3'']
  rfl
 | b t => simp [Br.run, nC]; rfl
theorem Zdg {op : Int} (h1 : op ≠ 1) (h2 : op ≠ 2) : ZbE (nO op) = true := by
 apply Zf2
 unfold nodeM Zib
 have b1 : (op == 1) = false := by rw [beq_eq_false_iff_ne]; exact h1
 have b2 : (op == 2) = false := by rw [beq_eq_false_iff_ne]; exact h2
 simp [Br.run, nO, b1, b2]
end Go.Proofs.YtkbdofnbagmlfaaGreat

namespace Go.Proofs.YtkbdofnbagmlfaaGreat
open Go.PI Go
theorem Zaf {α : Type} (l : List α) (i : Nat) (d : α) (h : i < l.length) : l.getD i d = l[i] := by simp [List.getD, h]
theorem Zgq : Zab 0 := ⟨by decide, by decide⟩
theorem ZuC (op : Int) (a b : Val) (ha : Zab a.2.1) (hb : Zab b.2.1) : ∃ v t, bothR (op, a, b, ()) = some ((v, t), ()) /\ Zab v.2.1 := by
 suffices h : BT (fun y : (Val × Bool) × Unit => Zab y.1.1.2.1) (Zd1 (op, a, b, ())) by
  obtain ⟨⟨⟨v, t⟩, ⟨⟩⟩, h1, h2⟩ := h
  exact ⟨v, t, h1, h2⟩
 unfold Zd1
 dsimp only
 repeat' first
  | (with_reducible exact BT.ret Zgq)
  | (with_reducible exact BT.ret (ZhP _))
  | (with_reducible refine BT.cond (fun _ => ?_) (fun _ => ?_))
  | (refine BT.opt ⟨_, ZnC ha hb, ?_⟩)
  | (refine BT.opt ⟨_, ZmC ha hb, ?_⟩)
  | (refine BT.opt ⟨_, ZiP ha hb, ?_⟩)
theorem ZnS (e : Evt) (f : ByteArray) (L : List ByteArray) (hL : L.length <= 100) : ∃ z, placeR_w0 (f, 0, e, L, ()) = some z /\ ∀ i, z = .inl (i, ()) -> 0 <= i /\ i < e.2.2.2.2.length := by
 refine Zao (step := fun x => (ZfV x).run) (Q := fun _ z => ∀ i, z = .inl (i, ()) -> 0 <= i /\ i < e.2.2.2.2.length) (fun y => ∃ i : Int, y = (f, i, e, L, ()) /\ 0 <= i /\ i <= L.length) (fun y => ((L.length : Int) - y.2.1).toNat) ?_ _ ⟨0, rfl, Int.le_refl 0, by omega⟩
 rintro y ⟨i, rfl, h0, h1⟩
 unfold ZfV
 dsimp only
 by_cases hi : i < (L.length : Int)
 ·by_cases hv : i < (e.2.2.2.2.length : Int)
  ·have hw : IntKind.wrap .i64 (i + 1) = i + 1 := Go.PI.wrap_small (by omega) (by omega)
   simp only [Br.run, decide_eq_true hi, decide_eq_true hv, decide_eq_true h0, Bool.and_self, cond_true, hw, cond_eq_ite]
   by_cases hc : (bl (L.getD i.toNat ByteArray.empty) == bl f) = true <;> simp only [hc, ↓reduceIte, Bool.false_eq_true]
   ·refine .inr ⟨_, rfl, fun j e => ?_⟩
    injection e with e
    injection e with e _
    subst e
    exact ⟨h0, hv⟩
   ·exact .inl ⟨_, rfl, ⟨i + 1, rfl, by omega, by omega⟩, by dsimp only; omega, fun z hz => hz⟩
  ·simp only [Br.run, decide_eq_true hi, decide_eq_false hv, cond_true, cond_false]
   exact .inr ⟨_, rfl, fun j e => by cases e⟩
 ·simp only [Br.run, decide_eq_false hi, cond_false]
  exact .inr ⟨_, rfl, fun j e => by cases e⟩
theorem Ztt (e : Evt) (f : ByteArray) : ∃ i : Int, placeR (e, f, ()) = some (i, ()) /\ (i < 0 \/ 0 <= i /\ i < e.2.2.2.2.length) := by
 unfold placeR ZoS
 have key : ∀ L : List ByteArray, L.length <= 100 -> ∃ i : Int, (Br.opt (placeR_w0 (f, 0, e, L, ())) fun z => Br.sum z (fun u : Int × Unit => Br.ret (u.1, ())) (fun _ => Br.ret (-1, ()))).run = some (i, ()) /\ (i < 0 \/ 0 <= i /\ i < e.2.2.2.2.length) := by
  intro L hL
  obtain ⟨z, hz, h⟩ := ZnS e f L hL
  simp only [Br.run, hz]
  rcases z with ⟨i, ⟨⟩⟩ | ⟨⟩
  ·exact ⟨i, rfl, .inr (h i rfl)⟩
  ·exact ⟨-1, rfl, .inl (by decide)⟩
 dsimp only
 cases hc : bl e.1 == bl ({ data := #[67] } : ByteArray)
 ·exact key _ (by simp)
 ·exact key _ (by simp)
def ZeS (env : List Bnd) : Prop := ∀ b ∈ env, ∀ v ∈ b.2.2.2.2.2, Zab v.2.1
abbrev bZ : Bnd := (ByteArray.empty, ByteArray.empty, ByteArray.empty, 0, 0, [])
theorem Zo4 (env : List Bnd) (he : env.length <= 1000) (hi : ZeS env) (at' : Int) (n : Nd) : ∃ z, evalR_w0 (env, at', 0, (0, 0, ByteArray.empty, false), n, ()) = some z /\ ((∃ t v, z = .inl (t, at', v, ()) /\ Zab v.2.1) \/ ∃ v, z = .inr (at', v, ())) := by
 refine Zao (step := fun x => (Zdf x).run) (Q := fun _ z => (∃ t v, z = .inl (t, at', v, ()) /\ Zab v.2.1) \/ ∃ v, z = .inr (at', v, ())) (fun y => ∃ i : Int, y = (env, at', i, (0, 0, ByteArray.empty, false), n, ()) /\ 0 <= i /\ i <= env.length) (fun y => ((env.length : Int) - y.2.2.1).toNat) ?_ _ ⟨0, rfl, Int.le_refl 0, by omega⟩
 rintro y ⟨i, rfl, h0, h1⟩
 unfold Zdf
 dsimp only
 by_cases hc : i < (env.length : Int)
 ·have hw : IntKind.wrap .i64 (i + 1) = i + 1 := Go.PI.wrap_small (by omega) (by omega)
  have hlt : i.toNat < env.length := by omega
  have hm : env.getD i.toNat bZ ∈ env := by rw [show env.getD i.toNat bZ = env[i.toNat] by simp [List.getD, hlt]]; exact List.getElem_mem hlt
  obtain ⟨k, hk, hkk⟩ := Ztt (env.getD i.toNat bZ).2 n.2.2.2
  simp only [Br.run, decide_eq_true hc, decide_eq_true h0, Bool.and_self, cond_true, hw, cond_eq_ite]
  by_cases hb : (bl (env.getD i.toNat bZ).1 == bl n.2.2.1) = true <;> simp only [hb, ↓reduceIte, Bool.false_eq_true]
  ·refine .inr ?_
   rcases hkk with h | ⟨k0, k1⟩
   ·simp only [Br.run, hk, decide_eq_true h, ↓reduceIte]
    exact ⟨_, rfl, .inl ⟨_, _, rfl, Zgq⟩⟩
   ·have hn : ¬ k < 0 := by omega
    have klt : k.toNat < (env.getD i.toNat bZ).2.2.2.2.2.length := by omega
    simp only [Br.run, hk, decide_eq_false hn, Bool.false_eq_true, decide_eq_true k0, decide_eq_true k1, Bool.and_self, ↓reduceIte]
    refine ⟨_, rfl, .inl ⟨_, _, rfl, ?_⟩⟩
    have : (env.getD i.toNat bZ).2.2.2.2.2.getD k.toNat (0, 0, ByteArray.empty, false) = (env.getD i.toNat bZ).2.2.2.2.2[k.toNat] := Zaf _ _ _ klt
    rw [this]
    exact hi _ hm _ (List.getElem_mem klt)
  ·exact .inl ⟨_, rfl, ⟨i + 1, rfl, by omega, by omega⟩, by dsimp only; omega, fun z hz => hz⟩
 ·simp only [Br.run, decide_eq_false hc, cond_false]
  exact .inr ⟨_, rfl, .inr ⟨_, rfl⟩⟩
theorem Zty (op : Int) : ∃ k, partsR (op, ()) = some (k, ()) := by
 unfold partsR ZjJ
 simp only [Br.run, cond_eq_ite]
 repeat' split
 all_goals exact ⟨_, rfl⟩
def NIn (l : List Nd) : Prop := ∀ n ∈ l, Zab n.2.1.2.1
theorem ZhT (l : List Nd) (hl : l.length <= 1000) (hn : NIn l) (env : List Bnd) (he : env.length <= 1000) (hi : ZeS env) : ∀ (k : Nat) (i : Int), -1 <= i -> i < l.length -> i + 2 <= k ->
  ∃ v t f, ZcW k (l, env, i, ()) = some ((v, t, f), ()) /\ Zab v.2.1 /\ 0 <= f /\ (f <= i \/ f = 0)
 | 0, i, h0, h1, h2 => by omega
 | k + 1, i, h0, h1, h2 => by
  suffices h : BT (fun y : (Val × (Bool × Int)) × Unit => Zab y.1.1.2.1 /\ 0 <= y.1.2.2 /\ (y.1.2.2 <= i \/ y.1.2.2 = 0)) (ZcC (ZcW k) (l, env, i, ())) by
   obtain ⟨⟨⟨v, t, f⟩, ⟨⟩⟩, a, b⟩ := h
   exact ⟨v, t, f, a, b⟩
  unfold ZcC
  dsimp only
  by_cases hneg : i < 0
  ·rw [show decide (i < 0) = true from decide_eq_true hneg]
   exact ⟨_, rfl, Zgq, Int.le_refl 0, .inr rfl⟩
  ·have g0 : 0 <= i := by omega
   have hlt : i.toNat < l.length := by omega
   have hm : Zab (l.getD i.toNat (0, (0, 0, ByteArray.empty, false), ByteArray.empty, ByteArray.empty)).2.1.2.1 := by
    have : l.getD i.toNat (0, (0, 0, ByteArray.empty, false), ByteArray.empty, ByteArray.empty) = l[i.toNat] := by simp [List.getD, hlt]
    rw [this]
    exact hn _ (List.getElem_mem hlt)
   generalize l.getD i.toNat (0, (0, 0, ByteArray.empty, false), ByteArray.empty, ByteArray.empty) = n at hm ⊢
   have hw : IntKind.wrap .i64 (i - 1) = i - 1 := Go.PI.wrap_small (by omega) (by omega)
   obtain ⟨p, hp⟩ := Zty n.1
   obtain ⟨v1, t1, f1, e1, a1, b1, c1⟩ := ZhT l hl hn env he hi k (i - 1) (by omega) (by omega) (by omega)
   have hw2 : IntKind.wrap .i64 (f1 - 1) = f1 - 1 := Go.PI.wrap_small (by omega) (by omega)
   obtain ⟨v2, t2, f2, e2, a2, b2, c2⟩ := ZhT l hl hn env he hi k (f1 - 1) (by omega) (by omega) (by omega)
   obtain ⟨w, t3, e3, a3⟩ := ZuC n.1 v2 v1 a2 a1
   obtain ⟨z, hz, hzz⟩ := Zo4 env he hi i n
   rw [hw]
   rw [show decide (i < 0) = false from decide_eq_false hneg]
   refine BT.fls (BT.yes (by simp; omega) (BT.opt ⟨_, hp, ?_⟩))
   have fin : f1 <= i \/ f1 = 0 := by omega
   have fin2 : f2 <= i \/ f2 = 0 := by omega
   refine BT.cond (fun _ => BT.cond (fun _ => BT.ret ⟨hm, g0, .inl (Int.le_refl i)⟩) (fun _ => BT.opt ⟨_, hz, ?_⟩)) (fun _ => BT.cond (fun _ => BT.opt ⟨_, e1, ?_⟩) (fun _ => BT.opt ⟨_, e1, ?_⟩))
   ·rcases hzz with ⟨t, v, rfl, hv⟩ | ⟨v, rfl⟩
    ·exact BT.ret ⟨hv, g0, .inl (Int.le_refl i)⟩
    ·exact BT.ret ⟨Zgq, g0, .inl (Int.le_refl i)⟩
   ·dsimp only
    repeat' first
     | (with_reducible exact BT.ret ⟨Zgq, b1, fin⟩)
     | (with_reducible exact BT.ret ⟨ZhP _, b1, fin⟩)
     | (with_reducible refine BT.cond (fun _ => ?_) (fun _ => ?_))
   ·dsimp only
    rw [hw2]
    refine BT.opt ⟨_, e2, ?_⟩
    dsimp only
    repeat' first
     | (with_reducible exact BT.ret ⟨Zgq, b2, fin2⟩)
     | (with_reducible refine BT.cond (fun _ => ?_) (fun _ => ?_))
     | (refine BT.opt ⟨_, e3, BT.ret ⟨a3, b2, fin2⟩⟩)
theorem ZtU (l : List Nd) (hl : l.length <= 1000) (hn : NIn l) (env : List Bnd) (he : env.length <= 1000) (hi : ZeS env) : ∃ b, holdsR (l, env, ()) = some (b, ()) := by
 unfold holdsR Zjx
 by_cases h0 : l.length = 0
 ·have : ((l.length : Int) == 0) = true := by rw [h0]; rfl
  simp only [Br.run, this, cond_true]
  exact ⟨_, rfl⟩
 ·have e0 : ((l.length : Int) == 0) = false := beq_eq_false_iff_ne.2 (by omega)
  have hw : IntKind.wrap .i64 ((l.length : Int) - 1) = (l.length : Int) - 1 := Go.PI.wrap_small (by omega) (by omega)
  obtain ⟨v, t, f, e1, -⟩ := ZhT l hl hn env he hi (((l.length : Int) - 1).toNat + 3) ((l.length : Int) - 1) (by omega) (by omega) (by omega)
  have e1' : evalRF (l, env, (l.length : Int) - 1, ()) = some ((v, t, f), ()) := e1
  simp only [Br.run, e0, cond_false, hw, e1', cond_eq_ite]
  repeat' split
  all_goals exact ⟨_, rfl⟩
end Go.Proofs.YtkbdofnbagmlfaaGreat

namespace Go.Proofs.YtkbdofnbagmlfaaGreat
open Go.PI Go
theorem Zaw {X Z : Type} {step : X -> Br (X ⊕ Z)} (Inv : X -> Prop) (μ : X -> Nat) (Q : Z -> Prop) (h : ∀ x, Inv x -> BT (fun s => (∃ y, s = .inl y /\ Inv y /\ μ y < μ x) \/ ∃ z, s = .inr z /\ Q z) (step x)) (x : X) (hx : Inv x) :
  ∃ z, Zag (fun x => (step x).run) x = some z /\ Q z := by
 refine Zao (step := fun x => (step x).run) (Q := fun _ z => Q z) Inv μ (fun x hx => ?_) x hx
 obtain ⟨s, hs, ⟨y, rfl, h1, h2⟩ | ⟨z, rfl, h1⟩⟩ := h x hx
 ·exact .inl ⟨y, hs, h1, h2, fun z hz => hz⟩
 ·exact .inr ⟨z, hs, h1⟩
theorem BT.lt {α : Type} {P : α -> Prop} {c : Bool} {a b : Br α} (hc : c = true) (h : BT P a) : BT P (.cond c a b) := by subst hc; exact h
theorem BT.ge {α : Type} {P : α -> Prop} {c : Bool} {a b : Br α} (hc : c = false) (h : BT P b) : BT P (.cond c a b) := by subst hc; exact h
theorem BT.goes {X Z : Type} {I : X -> Prop} {Q : Z -> Prop} {y : X} (h : I y) : BT (fun s : X ⊕ Z => (∃ y, s = .inl y /\ I y) \/ ∃ z, s = .inr z /\ Q z) (.ret (.inl y)) := ⟨_, rfl, .inl ⟨y, rfl, h⟩⟩
theorem BT.ends {X Z : Type} {I : X -> Prop} {Q : Z -> Prop} {z : Z} (h : Q z) : BT (fun s : X ⊕ Z => (∃ y, s = .inl y /\ I y) \/ ∃ z, s = .inr z /\ Q z) (.ret (.inr z)) := ⟨_, rfl, .inr ⟨z, rfl, h⟩⟩
theorem in2 {i n : Int} (h0 : 0 <= i) (h1 : i < n) : (decide (0 <= i) && decide (i < n)) = true := by simp [h0, h1]
structure QGood (q : Qry) : Prop where
 es : EsOk q.1
 lo : 1 <= q.1.length
 hi : q.1.length <= 4
abbrev Zac : Elm := (ByteArray.empty, [], false, 0, 0, [])
theorem QGood.get {q : Qry} (h : QGood q) (i : Int) (h0 : 0 <= i) (h1 : i < q.1.length) : EOk i (q.1.getD i.toNat Zac) := by
 have hlt : i.toNat < q.1.length := by omega
 have := h.es i.toNat (q.1.getD i.toNat Zac) (by rw [Zaf _ _ _ hlt]; exact List.getElem?_eq_getElem hlt)
 have e : ((i.toNat : Nat) : Int) = i := by omega
 rw [e] at this
 exact this
theorem ofS_tot (l : List ByteArray) (hl : l.length <= 1000) (t : ByteArray) : ∃ b, ofS (l, t, ()) = some (b, ()) := by
 unfold ofS ofS_B
 obtain ⟨z, hz, -⟩ : ∃ z, ofS_w0 (l, t, 0, ()) = some z /\ True := by
  refine Zaw (step := Zgm) (fun y => ∃ i : Int, y = (l, t, i, ()) /\ 0 <= i /\ i <= l.length) (fun y => ((l.length : Int) - y.2.2.1).toNat) (fun _ => True) ?_ _ ⟨0, rfl, Int.le_refl 0, by omega⟩
  rintro y ⟨i, rfl, h0, h1⟩
  unfold Zgm
  by_cases hi : i < (l.length : Int)
  ·have hw : IntKind.wrap .i64 (i + 1) = i + 1 := Go.PI.wrap_small (by omega) (by omega)
   refine BT.lt (decide_eq_true hi) (BT.yes (in2 h0 hi) (BT.cond (fun _ => BT.ends trivial) (fun _ => BT.goes ⟨⟨i + 1, by rw [hw], by omega, by omega⟩, ?_⟩)))
   dsimp only
   rw [hw]
   omega
  ·exact BT.ge (decide_eq_false hi) (BT.ends trivial)
 simp only [Br.run, hz]
 cases z <;> exact ⟨_, rfl⟩
def Zb2 (e : Evt) : Prop := e.2.2.2.2.length <= 3 /\ ∀ v ∈ e.2.2.2.2, Zab v.2.1
theorem ZeK (e : Elm) (h1 : e.2.1.length <= 1000) (h2 : e.2.2.2.2.2.length <= 1000) (h3 : ZfU e.2.2.2.2.2) (x : Evt) (hx : Zb2 x) (env : List Bnd) (he : env.length <= 900) (hi : ZeS env) : ∃ b, fits20 (e, x, env, ()) = some (b, ()) := by
 suffices h : BT (fun _ : Bool × Unit => True) (Zhb (e, x, env, ())) by
  obtain ⟨⟨b, ⟨⟩⟩, h, -⟩ := h
  exact ⟨b, h⟩
 obtain ⟨b, hb⟩ := ofS_tot e.2.1 h1 x.1
 obtain ⟨c, hc⟩ := ZtU e.2.2.2.2.2 h2 h3 (env ++ [(e.1, x)]) (by rw [List.length_append, List.length_singleton]; omega) (fun u hu v hv => by
  rcases List.mem_append.1 hu with h | h
  ·exact hi u h v hv
  ·obtain rfl := List.mem_singleton.1 h
   exact hx.2 v hv)
 unfold Zhb
 refine BT.opt ⟨_, hb, BT.cond (fun _ => ?_) (fun _ => BT.ret trivial)⟩
 refine BT.yes (decide_eq_true ?_) (BT.yes (decide_eq_true ?_) (BT.opt ⟨_, hc, BT.ret trivial⟩))
 ·show (0 + env.length) * 88 <= 140737488355328
  omega
 ·show (env.length + 1) * 88 <= 140737488355328
  omega
def Zan (e : Elm) (env : List Bnd) (x : Evt) : List Bnd := if e.2.2.2.2.1 = 1 then env ++ [(e.1, x)] else env
structure Steps (q : Qry) (l : List Evt) (R : Int -> Int -> List Prs -> List Bnd -> Int -> Int -> Prop) (O : List Prs -> Prop) : Prop where
 rng : ∀ {a h m env f0 fr}, R a h m env f0 fr -> 0 <= a /\ a < q.1.length /\ 0 <= h /\ h <= 1000 /\ m.length <= 800 /\ env.length <= 800 /\ ZeS env /\ 0 <= fr /\ fr <= l.length
 more : ∀ {a h m env f0 fr} (i : Int), R a h m env f0 fr -> fr <= i -> i < l.length -> fits20 (q.1.getD a.toNat Zac, l.getD i.toNat evZ, env, ()) = some (true, ()) -> R a (h + 1) (m ++ [(a, (l.getD i.toNat evZ).2.2.2.1)]) (Zan (q.1.getD a.toNat Zac) env (l.getD i.toNat evZ)) f0 (i + 1)
 next : ∀ {a h m env f0 fr} (k i : Int), R a h m env f0 fr -> a < k -> k < q.1.length -> fr <= i -> i < l.length -> fits20 (q.1.getD k.toNat Zac, l.getD i.toNat evZ, env, ()) = some (true, ()) -> R k 1 (m ++ [(k, (l.getD i.toNat evZ).2.2.2.1)]) (Zan (q.1.getD k.toNat Zac) env (l.getD i.toNat evZ)) f0 (i + 1)
 out : ∀ {a h m env f0 fr}, R a h m env f0 fr -> O m
theorem p3 (n : Nat) : 1 <= 3 ^ n := Nat.one_le_pow _ _ (by decide)
theorem p3s (n i : Int) (h : i < n) : 3 ^ (n - i).toNat = 3 * 3 ^ (n - (i + 1)).toNat := by
 have : (n - i).toNat = (n - (i + 1)).toNat + 1 := by omega
 rw [this, Nat.pow_succ, Nat.mul_comm]
theorem p3le (n i j : Int) (h : i <= j) : 3 ^ (n - j).toNat <= 3 ^ (n - i).toNat := Nat.pow_le_pow_right (by decide) (by omega)
section
variable {q : Qry} {l : List Evt} {R : Int -> Int -> List Prs -> List Bnd -> Int -> Int -> Prop} {O : List Prs -> Prop}
def Tells (q : Qry) (l : List Evt) (O : List Prs -> Prop) (out : List (List Prs)) (B : Nat) (y : Option ((Qry × (List Evt × List (List Prs))) × Unit)) : Prop :=
 ∃ out', y = some ((q, l, out ++ out'), ()) /\ (∀ m ∈ out', O m) /\ 2 * out'.length <= B
end
end Go.Proofs.YtkbdofnbagmlfaaGreat
