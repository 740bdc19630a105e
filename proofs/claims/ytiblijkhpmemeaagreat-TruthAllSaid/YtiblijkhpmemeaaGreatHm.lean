/- All matches, as the program seeks them: what it looks at, and that each match is among it, once. Events that stand in order stay as they are. Contracts of functions. Printed by auto.py. The statements' own example comes out. Contracts of functions. Printed by auto.py. All matches: both sides tell the same, in the same order. -/
import Derived.Test.YtiblijkhpmemeaaGreatHl
import Derived.Test.YtiblijkhpmemeaaGreatHh
import Derived.Test.YtiblijkhpmemeaaGreatHk
import Derived.Test.YtiblijkhpmemeaaGreatGe
import Derived.Test.YtiblijkhpmemeaaGreatHe
import Derived.Test.YtiblijkhpmemeaaGreatHi
import Derived.Test.YtiblijkhpmemeaaGreatT1
import Derived.KernelRfl
import Derived.Test.YtiblijkhpmemeaaGreatHa
import Derived.Test.YtiblijkhpmemeaaGreatTmB
namespace Go.Proofs.YtiblijkhpmemeaaGreat
open Go.PI Go
def lastE (m : List Prs) : Int := match m.getLast? with
 | some x => x.1
 | none => -1
theorem lastE_snoc (m : List Prs) (x : Prs) : lastE (m ++ [x]) = x.1 := by unfold lastE; rw [List.getLast?_concat]
def StepE (q : Qry) (a e : Int) : Prop := 0 ≤ e ∧ (e = a ∨ Nxt q a e)
inductive MV (q : Qry) (l : List Evt) : List Prs → Int → List Prs → Prop
 | here {m fr} : MV q l m fr m
 | step {m fr mm} (i e : Int) (h1 : (m.length : Int) < mxs q.1) (h2 : fr ≤ i) (h3 : i < l.length) (h4 : StepE q (lastE m) e) (h5 : MV q l (m ++ [(e, seqI l i)]) (i + 1) mm) : MV q l m fr mm
theorem MV.pre {q : Qry} {l : List Evt} {m : List Prs} {fr : Int} {mm : List Prs} (h : MV q l m fr mm) : ∃ r, mm = m ++ r := by
 induction h with
 | here => exact ⟨[], (List.append_nil _).symm⟩
 | step i e _ _ _ _ _ ih =>
  obtain ⟨r, rfl⟩ := ih
  exact ⟨_ :: r, by rw [List.append_assoc]; rfl⟩
theorem MV.apart {q : Qry} {l : List Evt} {m : List Prs} {x y : Prs} {f1 f2 : Int} {mm : List Prs} (h1 : MV q l (m ++ [x]) f1 mm) (h2 : MV q l (m ++ [y]) f2 mm) : x = y := by
 obtain ⟨r, rfl⟩ := h1.pre
 obtain ⟨r', h⟩ := h2.pre
 rw [List.append_assoc, List.append_assoc] at h
 have := List.append_cancel_left h
 exact (List.cons.inj this).1
def Once (P : List Prs → Prop) (out : List (List Prs)) (B : Nat) : Prop := (∀ m, m ∈ out ↔ P m) ∧ out.Nodup ∧ out.length ≤ B
theorem Once.nil {P : List Prs → Prop} (h : ∀ m, ¬ P m) (B : Nat) : Once P [] B := ⟨fun m => ⟨fun h => by simp at h, fun k => (h m k).elim⟩, List.nodup_nil, Nat.zero_le _⟩
theorem Once.add {P Q R : List Prs → Prop} {a b : List (List Prs)} {A B : Nat} (h : Once P a A) (k : Once Q b B) (hR : ∀ m, R m ↔ P m ∨ Q m) (hd : ∀ m, P m → ¬ Q m) : Once R (a ++ b) (A + B) := by
 refine ⟨fun m => by rw [List.mem_append, h.1, k.1, hR], ?_, by rw [List.length_append]; have := h.2.2; have := k.2.2; omega⟩
 rw [List.nodup_append]
 refine ⟨h.2.1, k.2.1, fun x hx y hy e => ?_⟩
 subst e
 exact hd x ((h.1 x).1 hx) ((k.1 x).1 hy)
theorem Once.iff {P Q : List Prs → Prop} {a : List (List Prs)} {A : Nat} (h : Once P a A) (k : ∀ m, Q m ↔ P m) : Once Q a A := ⟨fun m => by rw [h.1, k], h.2⟩
theorem Once.le {P : List Prs → Prop} {a : List (List Prs)} {A B : Nat} (h : Once P a A) (k : A ≤ B) : Once P a B := ⟨h.1, h.2.1, Nat.le_trans h.2.2 k⟩
section
variable {q : Qry} {l : List Evt} (hq : QMk q) (hx : XMk l)
def MoreT (q : Qry) (l : List Evt) (k : Nat) : Prop :=
 ∀ m fr out, (m.length : Int) ≤ fr → 0 ≤ fr → fr ≤ l.length → (l.length : Int) - fr + 1 ≤ k → -1 ≤ lastE m → lastE m < q.1.length → out.length + 3 ^ ((l.length : Int) - fr).toNat ≤ 1000000 →
  ∃ out', moreT_k k ((sch3, q, l, out), m, fr, ()) = some ((), (sch3, q, l, out ++ out'), ()) ∧ Once (fun mm => MV q l m fr mm ∧ FA q l mm) out' (3 ^ ((l.length : Int) - fr).toNat)
theorem moreT_l1_yes {G : _} {a i : Int} {L : List Int} {j : Int} {m : List Prs} {out out2 : List (List Prs)} (h0 : 0 ≤ j) (h2 : j < 2) (hi0 : 0 ≤ i) (hi : i < l.length) (hl : l.length ≤ 8) (hm : m.length ≤ 40) (he : 0 ≤ L.getD j.toNat 0)
  (hG : G ((sch3, q, l, out), m ++ [(L.getD j.toNat 0, seqI l i)], i + 1, ()) = some ((), (sch3, q, l, out2), ())) :
  (moreT_l1 G (a, i, L, j, sch3, q.1, q.2.1, q.2.2, l, m, out, ())).run = some (.inl (a, i, L, j + 1, sch3, q.1, q.2.1, q.2.2, l, m, out2, ())) := by
 have hwj : IntKind.wrap .i64 (j + 1) = j + 1 := Go.PI.wrap_small (by omega) (by omega)
 have hwi : IntKind.wrap .i64 (i + 1) = i + 1 := Go.PI.wrap_small (by omega) (by omega)
 have e1 : List.take (Int.toNat (↑(List.length m) : Int) - Int.toNat 0) (List.drop (0 + Int.toNat 0) m) = m := by simp
 have e2 : ∀ x : Prs, List.set (List.replicate 1 ((0 : Int), (0 : Int))) 0 x = [x] := fun _ => rfl
 obtain ⟨y, hy, rfl⟩ : BT (fun y => y = .inl (a, i, L, j + 1, sch3, q.1, q.2.1, q.2.2, l, m, out2, ())) (moreT_l1 G (a, i, L, j, sch3, q.1, q.2.1, q.2.2, l, m, out, ())) := by
  unfold moreT_l1
  refine BT.lt (decide_eq_true h2) (BT.yes (in2 h0 h2) (BT.lt (decide_eq_true he) (BT.yes ?_ (BT.yes (in2 hi0 hi) (BT.yes ?_ (BT.opt ⟨((), (sch3, q, l, out2), ()), ?_, ?_⟩))))))
  ·simp
  ·rw [e1, e2]
   simp
   omega
  ·rw [e1, e2, hwi]
   exact hG
  ·rw [hwj]
   exact BT.ret rfl
 exact hy
theorem moreT_l1_no {G : _} {a i : Int} {L : List Int} {j : Int} {m : List Prs} {out : List (List Prs)} (h0 : 0 ≤ j) (h2 : j < 2) (he : L.getD j.toNat 0 < 0) :
  (moreT_l1 G (a, i, L, j, sch3, q.1, q.2.1, q.2.2, l, m, out, ())).run = some (.inl (a, i, L, j + 1, sch3, q.1, q.2.1, q.2.2, l, m, out, ())) := by
 have hwj : IntKind.wrap .i64 (j + 1) = j + 1 := Go.PI.wrap_small (by omega) (by omega)
 obtain ⟨y, hy, rfl⟩ : BT (fun y => y = .inl (a, i, L, j + 1, sch3, q.1, q.2.1, q.2.2, l, m, out, ())) (moreT_l1 G (a, i, L, j, sch3, q.1, q.2.1, q.2.2, l, m, out, ())) := by
  unfold moreT_l1
  refine BT.lt (decide_eq_true h2) (BT.yes (in2 h0 h2) (BT.ge (decide_eq_false (by omega)) ?_))
  rw [hwj]
  exact BT.ret rfl
 exact hy
include hx in
theorem moreT_w1_at {k : Nat} (ih : MoreT q l k) {m : List Prs} {fr i nx : Int} {out : List (List Prs)} (hml : (m.length : Int) ≤ i) (hi0 : 0 ≤ i) (hi : i < l.length) (hk : (l.length : Int) - (i + 1) + 1 ≤ k)
  (ha : -1 ≤ lastE m) (ha1 : lastE m < q.1.length) (hnx : (nx = -1 ∧ NoNxt q (lastE m)) ∨ (Nxt q (lastE m) nx ∧ 0 ≤ nx)) (hb : out.length + 2 * 3 ^ ((l.length : Int) - (i + 1)).toNat ≤ 1000000) :
  ∃ out', moreT_w1 (moreT_k k) (lastE m, i, [lastE m, nx], 0, sch3, q.1, q.2.1, q.2.2, l, m, out, ()) = some (lastE m, i, sch3, q.1, q.2.1, q.2.2, l, m, out ++ out', ()) ∧
   Once (fun mm => (∃ e, StepE q (lastE m) e ∧ MV q l (m ++ [(e, seqI l i)]) (i + 1) mm) ∧ FA q l mm) out' (2 * 3 ^ ((l.length : Int) - (i + 1)).toNat) := by
 have hl := hx.len
 have call : ∀ (e : Int) (o : List (List Prs)), 0 ≤ e → e < q.1.length → o.length + 3 ^ ((l.length : Int) - (i + 1)).toNat ≤ 1000000 → ∃ o', moreT_k k ((sch3, q, l, o), m ++ [(e, seqI l i)], i + 1, ()) = some ((), (sch3, q, l, o ++ o'), ()) ∧
   Once (fun mm => MV q l (m ++ [(e, seqI l i)]) (i + 1) mm ∧ FA q l mm) o' (3 ^ ((l.length : Int) - (i + 1)).toNat) := by
  intro e o h0 h1 h2
  refine ih _ _ _ ?_ (by omega) (by omega) hk (by rw [lastE_snoc]; show -1 ≤ e; omega) (by rw [lastE_snoc]; exact h1) h2
  rw [List.length_append, List.length_singleton]
  omega
 obtain ⟨o1, s1, t1⟩ : ∃ o1, (moreT_l1 (moreT_k k) (lastE m, i, [lastE m, nx], 0, sch3, q.1, q.2.1, q.2.2, l, m, out, ())).run = some (.inl (lastE m, i, [lastE m, nx], 0 + 1, sch3, q.1, q.2.1, q.2.2, l, m, out ++ o1, ())) ∧
   Once (fun mm => (0 ≤ lastE m ∧ MV q l (m ++ [(lastE m, seqI l i)]) (i + 1) mm) ∧ FA q l mm) o1 (3 ^ ((l.length : Int) - (i + 1)).toNat) := by
  by_cases h : 0 ≤ lastE m
  ·obtain ⟨o1, e1, e2⟩ := call _ out h ha1 (by omega)
   exact ⟨o1, moreT_l1_yes (by omega) (by omega) hi0 hi hl (by omega) h e1, e2.iff fun mm => by simp [h]⟩
  ·refine ⟨[], ?_, Once.nil (fun mm hm => h hm.1.1) _⟩
   rw [List.append_nil]
   exact moreT_l1_no (by omega) (by omega) (show lastE m < 0 by omega)
 have b1 := t1.2.2
 obtain ⟨o2, s2, t2⟩ : ∃ o2, (moreT_l1 (moreT_k k) (lastE m, i, [lastE m, nx], 1, sch3, q.1, q.2.1, q.2.2, l, m, out ++ o1, ())).run = some (.inl (lastE m, i, [lastE m, nx], 1 + 1, sch3, q.1, q.2.1, q.2.2, l, m, (out ++ o1) ++ o2, ())) ∧
   Once (fun mm => (0 ≤ nx ∧ MV q l (m ++ [(nx, seqI l i)]) (i + 1) mm) ∧ FA q l mm) o2 (3 ^ ((l.length : Int) - (i + 1)).toNat) := by
  by_cases h : 0 ≤ nx
  ·have hn : nx < q.1.length := by
    rcases hnx with ⟨rfl, -⟩ | ⟨hn, -⟩
    ·omega
    ·exact hn.2.1
   obtain ⟨o2, e1, e2⟩ := call _ (out ++ o1) h hn (by rw [List.length_append]; omega)
   exact ⟨o2, moreT_l1_yes (by omega) (by omega) hi0 hi hl (by omega) h e1, e2.iff fun mm => by simp [h]⟩
  ·refine ⟨[], ?_, Once.nil (fun mm hm => h hm.1.1) _⟩
   rw [List.append_nil]
   exact moreT_l1_no (by omega) (by omega) (show nx < 0 by omega)
 refine ⟨o1 ++ o2, ?_, ?_⟩
 ·unfold moreT_w1
  rw [iterO_inl s1, show (0 : Int) + 1 = 1 from rfl, iterO_inl s2, show (1 : Int) + 1 = 2 from rfl]
  refine iterO_inr ?_
  rw [List.append_assoc]
  rfl
 ·refine (t1.add t2 (R := fun mm => (∃ e, StepE q (lastE m) e ∧ MV q l (m ++ [(e, seqI l i)]) (i + 1) mm) ∧ FA q l mm) (fun mm => ?_) (fun mm h1 h2 => ?_)).le (by omega)
  ·constructor
   ·rintro ⟨⟨e, ⟨e0, rfl | he⟩, h1⟩, h2⟩
    ·exact .inl ⟨⟨e0, h1⟩, h2⟩
    ·rcases hnx with ⟨-, hn⟩ | ⟨hn, hn0⟩
     ·have := hn e he.1 he.2.1
      rw [he.2.2.1] at this
      cases this
     ·obtain rfl := he.uniq hn
      exact .inr ⟨⟨e0, h1⟩, h2⟩
   ·rintro (⟨⟨h0, h1⟩, h2⟩ | ⟨⟨h0, h1⟩, h2⟩)
    ·exact ⟨⟨_, ⟨h0, .inl rfl⟩, h1⟩, h2⟩
    ·rcases hnx with ⟨rfl, -⟩ | ⟨hn, -⟩
     ·omega
     ·exact ⟨⟨_, ⟨h0, .inr hn⟩, h1⟩, h2⟩
  ·have := MV.apart h1.1.2 h2.1.2
   rcases hnx with ⟨rfl, -⟩ | ⟨hn, -⟩
   ·have := h2.1.1; omega
   ·have := (Prod.mk.inj this).1
    have := hn.1
    omega
theorem p3sum (n d : Nat) (h : d < n) : 2 * 3 ^ (n - (d + 1)) + 3 ^ (n - (d + 1)) = 3 ^ (n - d) := by
 rw [show n - d = (n - (d + 1)) + 1 by omega, Nat.pow_succ]
 omega
include hx in
theorem moreT_w0_at {k : Nat} (ih : MoreT q l k) {m : List Prs} {fr : Int} {out : List (List Prs)} (hq4 : q.1.length ≤ 100) (hml : (m.length : Int) ≤ fr) (h0 : 0 ≤ fr) (h1 : fr ≤ l.length) (hk : (l.length : Int) - fr ≤ k)
  (ha : -1 ≤ lastE m) (ha1 : lastE m < q.1.length) (hb : out.length + 3 ^ ((l.length : Int) - fr).toNat ≤ 1000001) :
  ∃ out', moreT_w0 (moreT_k k) (lastE m, fr, sch3, q.1, q.2.1, q.2.2, l, m, out, ()) = some (sch3, q.1, q.2.1, q.2.2, l, out ++ out', ()) ∧
   Once (fun mm => (∃ i e, fr ≤ i ∧ i < l.length ∧ StepE q (lastE m) e ∧ MV q l (m ++ [(e, seqI l i)]) (i + 1) mm) ∧ FA q l mm) out' (3 ^ ((l.length : Int) - fr).toNat - 1) := by
 have hl := hx.len
 obtain ⟨nx, hn, hnx⟩ := nextT_at q hq4 (lastE m) ha ha1
 obtain ⟨z, hz, out', rfl, hO⟩ : ∃ z, moreT_w0 (moreT_k k) (lastE m, fr, sch3, q.1, q.2.1, q.2.2, l, m, out, ()) = some z ∧ ∃ out', z = (sch3, q.1, q.2.1, q.2.2, l, out ++ out', ()) ∧
   Once (fun mm => (∃ i e, fr ≤ i ∧ i < l.length ∧ StepE q (lastE m) e ∧ MV q l (m ++ [(e, seqI l i)]) (i + 1) mm) ∧ FA q l mm) out' (3 ^ ((l.length : Int) - fr).toNat - 1) := by
  refine iterO_bt (step := moreT_l0 (moreT_k k)) (fun y => ∃ (i : Int) (o : List (List Prs)), y = (lastE m, i, sch3, q.1, q.2.1, q.2.2, l, m, out ++ o, ()) ∧ fr ≤ i ∧ i ≤ l.length ∧
   Once (fun mm => (∃ j e, fr ≤ j ∧ j < i ∧ StepE q (lastE m) e ∧ MV q l (m ++ [(e, seqI l j)]) (j + 1) mm) ∧ FA q l mm) o (3 ^ ((l.length : Int) - fr).toNat - 3 ^ ((l.length : Int) - i).toNat)) (fun y => ((l.length : Int) - y.2.1).toNat) _ ?_ _
   ⟨fr, [], by rw [List.append_nil], Int.le_refl _, h1, Once.nil (fun mm hm => by obtain ⟨⟨j, e, a, b, -⟩, -⟩ := hm; omega) _⟩
  rintro y ⟨i, o, rfl, g0, g1, gO⟩
  have hp : 3 ^ ((l.length : Int) - i).toNat ≤ 3 ^ ((l.length : Int) - fr).toNat := Nat.pow_le_pow_right (by decide) (by omega)
  unfold moreT_l0
  by_cases hi : i < (l.length : Int)
  ·have hw : IntKind.wrap .i64 (i + 1) = i + 1 := Go.PI.wrap_small (by omega) (by omega)
   have hs := p3sum l.length i.toNat (by omega)
   have e1 : ((l.length : Int) - (i + 1)).toNat = l.length - (i.toNat + 1) := by omega
   have e2 : ((l.length : Int) - i).toNat = l.length - i.toNat := by omega
   have hol := gO.2.2
   have hp1 : 1 ≤ 3 ^ (l.length - (i.toNat + 1)) := Nat.one_le_pow _ _ (by decide)
   obtain ⟨o2, w1, t2⟩ := moreT_w1_at hx ih (m := m) (fr := fr) (out := out ++ o) (by omega) (by omega) hi (by omega) ha ha1 hnx (by rw [List.length_append, e1]; rw [e2] at hp hol; omega)
   refine BT.lt (decide_eq_true hi) (BT.opt ⟨_, hn, BT.opt ⟨_, w1, ?_⟩⟩)
   refine BT.goes ⟨⟨i + 1, o ++ o2, by rw [hw, List.append_assoc], by omega, by omega, ?_⟩, ?_⟩
   ·refine (gO.add t2 (R := fun mm => (∃ j e, fr ≤ j ∧ j < i + 1 ∧ StepE q (lastE m) e ∧ MV q l (m ++ [(e, seqI l j)]) (j + 1) mm) ∧ FA q l mm) (fun mm => ?_) (fun mm q1 q2 => ?_)).le (by rw [e1]; rw [e2] at hp ⊢; omega)
    ·constructor
     ·rintro ⟨⟨j, e, j0, j1, j2, j3⟩, hF⟩
      by_cases hj : j < i
      ·exact .inl ⟨⟨j, e, j0, hj, j2, j3⟩, hF⟩
      ·obtain rfl : j = i := by omega
       exact .inr ⟨⟨e, j2, j3⟩, hF⟩
     ·rintro (⟨⟨j, e, j0, j1, j2, j3⟩, hF⟩ | ⟨⟨e, j2, j3⟩, hF⟩)
      ·exact ⟨⟨j, e, j0, by omega, j2, j3⟩, hF⟩
      ·exact ⟨⟨i, e, g0, by omega, j2, j3⟩, hF⟩
    ·obtain ⟨⟨j, e, j0, j1, -, j3⟩, -⟩ := q1
     obtain ⟨⟨e', -, j4⟩, -⟩ := q2
     have := (Prod.mk.inj (MV.apart j3 j4)).2
     have hne := List.pairwise_iff_getElem.1 hx.ne j.toNat i.toNat (by omega) (by omega) (by omega)
     refine hne ?_
     have k1 : seqI l j = (l[j.toNat]'(by omega)).2.2.2.1 := by unfold seqI; rw [getD_in _ _ _ (by omega)]
     have k2 : seqI l i = (l[i.toNat]'(by omega)).2.2.2.1 := by unfold seqI; rw [getD_in _ _ _ (by omega)]
     rw [← k1, ← k2]
     exact this
   ·dsimp only
    rw [hw]
    omega
  ·obtain rfl : i = l.length := by omega
   refine BT.ge (decide_eq_false hi) (BT.ends ⟨o, rfl, ?_⟩)
   have : ((l.length : Int) - l.length).toNat = 0 := by omega
   rw [this] at gO
   exact gO
 exact ⟨out', hz, hO⟩
include hq hx in
theorem moreT_at : ∀ k, MoreT q l k
 | 0 => fun m fr out _ _ h2 h3 => by omega
 | k + 1 => fun m fr out h0 h1 h2 h3 h4 h5 hb => by
  have hl := hx.len
  have hq4 := hq.hi
  have p8 : 3 ^ ((l.length : Int) - fr).toNat ≤ 6561 := Nat.le_trans (Nat.pow_le_pow_right (by decide) (show ((l.length : Int) - fr).toNat ≤ 8 by omega)) (by decide)
  have p0 : 1 ≤ 3 ^ ((l.length : Int) - fr).toNat := Nat.one_le_pow _ _ (by decide)
  obtain ⟨b, hm, hbF⟩ := matchT_at hq hx (m := m) (by omega)
  have hlast : ∀ (hp : m.length > 0), Prod.fst (List.getD m (Int.toNat (IntKind.wrap .i64 ((↑(List.length m) : Int) - 1))) (0, 0)) = lastE m := by
   intro hp
   rw [Go.PI.wrap_small (by omega) (by omega), show Int.toNat ((m.length : Int) - 1) = m.length - 1 by omega, getD_in _ _ _ (by omega)]
   unfold lastE
   rw [List.getLast?_eq_getElem?, List.getElem?_eq_getElem (by omega)]
  have hempty : m.length = 0 → lastE m = -1 := by
   intro h
   rw [List.eq_nil_of_length_eq_zero h]
   rfl
  have tail : ∀ o1 : List (List Prs), o1.length ≤ 1 → BT (fun y => ∃ out', y = ((), (sch3, q, l, (out ++ o1) ++ out'), ()) ∧ Once (fun mm => (∃ i e, (m.length : Int) < mxs q.1 ∧ fr ≤ i ∧ i < l.length ∧ StepE q (lastE m) e ∧ MV q l (m ++ [(e, seqI l i)]) (i + 1) mm) ∧ FA q l mm) out' (3 ^ ((l.length : Int) - fr).toNat - 1))
    (.opt (mostQ ((q.1, q.2.1, q.2.2), ())) fun y294 =>
     (.cond (decide ((↑(List.length m) : Int) ≥ y294.1))
     (.ret ((), (sch3, (q.1, q.2.1, q.2.2), l, out ++ o1), ()))
     (.cond (decide ((↑(List.length m) : Int) > 0))
     (.cond (decide (0 ≤ IntKind.wrap .i64 ((↑(List.length m) : Int) - 1)) && decide (IntKind.wrap .i64 ((↑(List.length m) : Int) - 1) < (↑(List.length m) : Int)))
     (.opt ((moreT_w0 (moreT_k k)) (Prod.fst (List.getD m (Int.toNat (IntKind.wrap .i64 ((↑(List.length m) : Int) - 1))) (0, 0)), fr, sch3, q.1, q.2.1, q.2.2, l, m, out ++ o1, ())) fun z320 =>
     (.ret ((), (z320.1, (z320.2.1, z320.2.2.1, z320.2.2.2.1), z320.2.2.2.2.1, z320.2.2.2.2.2.1), ())))
     (.no))
     (.opt ((moreT_w0 (moreT_k k)) (-1, fr, sch3, q.1, q.2.1, q.2.2, l, m, out ++ o1, ())) fun z344 =>
     (.ret ((), (z344.1, (z344.2.1, z344.2.2.1, z344.2.2.2.1), z344.2.2.2.2.1, z344.2.2.2.2.2.1), ())))))) := by
   intro o1 ho
   refine BT.opt ⟨_, mostQ_at hq, BT.cond (fun hc => ?_) (fun hc => ?_)⟩
   ·have hc : (m.length : Int) ≥ mxs q.1 := of_decide_eq_true hc
    exact BT.ret ⟨[], by rw [List.append_nil], Once.nil (fun mm hm => by obtain ⟨⟨i, e, a, -⟩, -⟩ := hm; omega) _⟩
   ·have hc : ¬ (m.length : Int) ≥ mxs q.1 := of_decide_eq_false hc
    obtain ⟨o2, w0, t0⟩ := moreT_w0_at hx (moreT_at k) (m := m) (fr := fr) (out := out ++ o1) (by omega) h0 h1 h2 (by omega) h4 h5 (by rw [List.length_append]; omega)
    have t0 := t0.iff (Q := fun mm => (∃ i e, (m.length : Int) < mxs q.1 ∧ fr ≤ i ∧ i < l.length ∧ StepE q (lastE m) e ∧ MV q l (m ++ [(e, seqI l i)]) (i + 1) mm) ∧ FA q l mm) fun mm =>
     ⟨fun ⟨⟨i, e, _, a, b, c, d⟩, f⟩ => ⟨⟨i, e, a, b, c, d⟩, f⟩, fun ⟨⟨i, e, a, b, c, d⟩, f⟩ => ⟨⟨i, e, by omega, a, b, c, d⟩, f⟩⟩
    refine BT.cond (fun hp => ?_) (fun hp => ?_)
    ·have hp : (m.length : Int) > 0 := of_decide_eq_true hp
     rw [hlast (by omega)]
     refine BT.yes ?_ (BT.opt ⟨_, w0, BT.ret ⟨o2, rfl, t0⟩⟩)
     rw [Go.PI.wrap_small (by omega) (by omega)]
     exact in2 (by omega) (by omega)
    ·have hp : ¬ (m.length : Int) > 0 := of_decide_eq_false hp
     rw [hempty (by omega)] at w0
     exact BT.opt ⟨_, w0, BT.ret ⟨o2, rfl, t0⟩⟩
  have split : ∀ mm, (MV q l m fr mm ∧ FA q l mm) ↔ (mm = m ∧ FA q l m) ∨ ((∃ i e, (m.length : Int) < mxs q.1 ∧ fr ≤ i ∧ i < l.length ∧ StepE q (lastE m) e ∧ MV q l (m ++ [(e, seqI l i)]) (i + 1) mm) ∧ FA q l mm) := by
   intro mm
   constructor
   ·rintro ⟨h, hF⟩
    cases h with
    | here => exact .inl ⟨rfl, hF⟩
    | step i e a b c d f => exact .inr ⟨⟨i, e, a, b, c, d, f⟩, hF⟩
   ·rintro (⟨rfl, hF⟩ | ⟨⟨i, e, a, b, c, d, f⟩, hF⟩)
    ·exact ⟨.here, hF⟩
    ·exact ⟨.step i e a b c d f, hF⟩
  have far : ∀ mm, (mm = m ∧ FA q l m) → ¬ ((∃ i e, (m.length : Int) < mxs q.1 ∧ fr ≤ i ∧ i < l.length ∧ StepE q (lastE m) e ∧ MV q l (m ++ [(e, seqI l i)]) (i + 1) mm) ∧ FA q l mm) := by
   rintro mm ⟨rfl, -⟩ ⟨⟨i, e, -, -, -, -, f⟩, -⟩
   obtain ⟨r, hr⟩ := f.pre
   have := congrArg List.length hr
   simp at this
  obtain ⟨y, hy, o1, out', rfl, hO1, hO⟩ : BT (fun y => ∃ o1 out', y = ((), (sch3, q, l, (out ++ o1) ++ out'), ()) ∧ Once (fun mm => mm = m ∧ FA q l m) o1 1 ∧ Once (fun mm => (∃ i e, (m.length : Int) < mxs q.1 ∧ fr ≤ i ∧ i < l.length ∧ StepE q (lastE m) e ∧ MV q l (m ++ [(e, seqI l i)]) (i + 1) mm) ∧ FA q l mm) out' (3 ^ ((l.length : Int) - fr).toNat - 1))
    (moreT_B (moreT_k k) ((sch3, q, l, out), m, fr, ())) := by
   unfold moreT_B
   refine BT.opt ⟨_, hm, BT.cond (fun hc => ?_) (fun hc => ?_)⟩
   ·have hF := hbF.1 hc
    have hcl : clonePs (m, ()) = some (m, ()) := by
     unfold clonePs
     rw [show bound (0 + m.length) 16 = true from decide_eq_true (by omega)]
     rfl
    refine BT.opt ⟨_, hcl, BT.yes (decide_eq_true ?_) ?_⟩
    ·show (out.length + 1) * 24 ≤ 140737488355328
     omega
    ·obtain ⟨y, hy, out', rfl, t⟩ := tail [m] (by simp)
     exact ⟨_, hy, [m], out', rfl, ⟨fun mm => by simp [hF], by simp, by simp⟩, t⟩
   ·have hF : ¬ FA q l m := fun h => by rw [hbF.2 h] at hc; cases hc
    obtain ⟨y, hy, out', rfl, t⟩ := tail [] (by simp)
    rw [List.append_nil] at hy
    exact ⟨_, hy, [], out', by rw [List.append_nil], Once.nil (fun mm h => hF h.2) _, t⟩
  refine ⟨o1 ++ out', by rw [← List.append_assoc]; exact hy, ((hO1.add hO split far)).le (by omega)⟩
end
end Go.Proofs.YtiblijkhpmemeaaGreat

namespace Go.Proofs.YtiblijkhpmemeaaGreat
open Go.PI Go
theorem beforeV_at (a b : Evt) : beforeV (a, b, ()) = some (ltE a b, ()) := by
 unfold beforeV beforeV_B stampV stampV_B lessSt lessSt_B ltE
 simp only [Br.run]
 by_cases h1 : a.2.2.1 = b.2.2.1
 ·by_cases h2 : a.2.2.2.1 = b.2.2.2.1
  ·simp [h1, h2, Br.run]
  ·rw [show (a.2.2.1 != b.2.2.1) = false by simp [h1], show (a.2.2.2.1 != b.2.2.2.1) = true by simp [h2]]
   simp [h1, Br.run]
 ·rw [show (a.2.2.1 != b.2.2.1) = true by simp [h1]]
  simp [h1, Br.run]
theorem ltE_not {a b : Evt} (h : leE a b) : ltE b a = false := by
 unfold leE at h
 unfold ltE
 simp
 omega
theorem cmpEv_at {a b : Evt} (h : leE a b) : ∃ c : Int, cmpEv (b, a, ()) = some (c, ()) ∧ ¬ c < 0 := by
 unfold cmpEv cmpEv_B
 simp only [Br.run, beforeV_at, ltE_not h, cond_false]
 cases ltE a b with
 | true => exact ⟨1, rfl, by decide⟩
 | false => exact ⟨0, rfl, by decide⟩
theorem insEv_at (x : List Evt) (hs : x.Pairwise leE) (hl : x.length ≤ 1000) : insEv x (0, (x.length : Int), (), ()) = some x := by
 obtain ⟨z, hz, rfl⟩ : ∃ z, insEv_w0 (0, (x.length : Int), 1, x, ()) = some z ∧ z = (x, ()) := by
  refine iterO_bt (step := insEv_l0) (fun y => ∃ i : Int, y = (0, (x.length : Int), i, x, ()) ∧ 1 ≤ i) (fun y => ((x.length : Int) - y.2.2.1).toNat) _ ?_ _ ⟨1, rfl, Int.le_refl _⟩
  rintro y ⟨i, rfl, g0⟩
  unfold insEv_l0
  by_cases hi : i < (x.length : Int)
  ·have hw : IntKind.wrap .i64 (i + 1) = i + 1 := Go.PI.wrap_small (by omega) (by omega)
   have hw1 : IntKind.wrap .i64 (i - 1) = i - 1 := Go.PI.wrap_small (by omega) (by omega)
   have hle : leE (x.getD (i - 1).toNat evZ) (x.getD i.toNat evZ) := by
    rw [getD_in _ _ _ (by omega), getD_in _ _ _ (by omega)]
    exact List.pairwise_iff_getElem.1 hs _ _ (by omega) (by omega) (by omega)
   obtain ⟨c, hc, hc0⟩ := cmpEv_at hle
   have hin : insEv_w1 (0, (x.length : Int), i, i, x, ()) = some (0, (x.length : Int), i, x, ()) := by
    unfold insEv_w1
    refine iterO_inr ?_
    obtain ⟨y, hy, rfl⟩ : BT (fun y => y = .inr (0, (x.length : Int), i, x, ())) (insEv_l1 (0, (x.length : Int), i, i, x, ())) := by
     unfold insEv_l1
     refine BT.lt (decide_eq_true (by omega)) (BT.yes (in2 (by omega) hi) (BT.yes ?_ (BT.opt ⟨(c, ()), ?_, BT.ge (decide_eq_false hc0) (BT.ret rfl)⟩)))
     ·rw [hw1]; exact in2 (by omega) (by omega)
     ·rw [hw1]; exact hc
    exact hy
   refine BT.lt (decide_eq_true hi) (BT.opt ⟨_, hin, BT.goes ⟨⟨i + 1, by rw [hw], by omega⟩, ?_⟩⟩)
   dsimp only
   rw [hw]
   omega
  ·exact BT.ge (decide_eq_false hi) (BT.ends rfl)
 unfold insEv insEv_B
 dsimp only
 rw [show IntKind.wrap .i64 ((0 : Int) + 1) = 1 from Go.PI.wrap_small (by decide) (by decide)]
 simp only [Br.run, hz]
theorem sortEv_at (x : List Evt) (hs : x.Pairwise leE) (hl : x.length ≤ 19) : sortEv (x, ()) = some (x, ()) := by
 have h0 : stableEv_w0 ((x.length : Int), 20, 0, 20, x, ()) = some ((x.length : Int), 20, 0, x, ()) := by
  unfold stableEv_w0
  refine iterO_inr ?_
  unfold stableEv_l0
  dsimp only
  rw [show decide ((20 : Int) ≤ (x.length : Int)) = false from decide_eq_false (by omega)]
  rfl
 have h1 : stableEv_w1 ((x.length : Int), 20, x, ()) = some (x, ()) := by
  unfold stableEv_w1
  refine iterO_inr ?_
  unfold stableEv_l1
  dsimp only
  rw [show decide ((20 : Int) < (x.length : Int)) = false from decide_eq_false (by omega)]
  rfl
 have hc : cloneEv (x, ()) = some (x, ()) := by
  unfold cloneEv
  simp only [bound]
  rw [decide_eq_true (by omega)]
  rfl
 unfold sortEv sortEv_B sortStEv sortStEv_B stableEv stableEv_B
 simp only [Br.run, hc, h0, insEv_at x hs (by omega), h1]
end Go.Proofs.YtiblijkhpmemeaaGreat

namespace Go.Proofs.YtiblijkhpmemeaaGreat
set_option maxRecDepth 100000
open Go.PI Go
noncomputable def cxT4 : Ctx := withF cx_allT [12]
theorem enT4 : EnvFull Tryz.prog cxT4 := env_F en_allT [12]
noncomputable def awake20_B : Unit → Br (Bool × Unit) := fun (()) =>
 (.opt (newS ([({ data := #[65] }, []), ({ data := #[66] }, [])], ())) fun y3 =>
 (.opt (allT (y3.1.1, ([({ data := #[97] }, [{ data := #[65] }], false, 1, 1, []), ({ data := #[98] }, [{ data := #[66] }], false, 1, 1, [])], 5, 5), [({ data := #[65] }, ByteArray.empty, 1, 1, []), ({ data := #[65] }, ByteArray.empty, 2, 2, []), ({ data := #[66] }, ByteArray.empty, 3, 3, [])], ())) fun y4 =>
 (.cond ((↑(List.length y4.1) : Int) == 2)
 (.cond (decide (0 ≤ 0) && decide (0 < (↑(List.length y4.1) : Int)))
 (.cond ((↑(List.length (List.getD y4.1 (Int.toNat 0) [])) : Int) == 2)
 (.cond (decide (0 ≤ 0) && decide (0 < (↑(List.length y4.1) : Int)))
 (.cond (decide (0 ≤ 0) && decide (0 < (↑(List.length (List.getD y4.1 (Int.toNat 0) [])) : Int)))
 (.cond ((List.getD (List.getD y4.1 (Int.toNat 0) []) (Int.toNat 0) (0, 0)).2 == 1)
 (.cond (decide (0 ≤ 1) && decide (1 < (↑(List.length y4.1) : Int)))
 (.opt (matchT (y3.1.1, ([({ data := #[97] }, [{ data := #[65] }], false, 1, 1, []), ({ data := #[98] }, [{ data := #[66] }], false, 1, 1, [])], 5, 5), [({ data := #[65] }, ByteArray.empty, 1, 1, []), ({ data := #[65] }, ByteArray.empty, 2, 2, []), ({ data := #[66] }, ByteArray.empty, 3, 3, [])], List.getD y4.1 (Int.toNat 1) [], ())) fun y5 =>
 (.ret (y5.1, ())))
 (.no))
 (.ret (false, ())))
 (.no))
 (.no))
 (.ret (false, ())))
 (.no))
 (.ret (false, ())))))
noncomputable def awake20 := fun x => (awake20_B x).run
abbrev awake20_ins : List (Bool × Pat) := []
abbrev awake20_outs : List Pat := [.ty false .bool]
theorem awake20_oc : OC Tryz.prog 10 awake20_ins awake20_outs awake20 := OC.lp enT4 1024 Tryz.func10 [] (by kernel_rfl) trivial (fun _ => by kernel_rfl)
noncomputable def cx_awake20 : Ctx := ocx cxT4 awake20_oc
theorem en_awake20 : EnvFull Tryz.prog cx_awake20 := ocn enT4 awake20_oc
end Go.Proofs.YtiblijkhpmemeaaGreat

namespace Go.Proofs.YtiblijkhpmemeaaGreat
open Go.PI Go
theorem awake20_at : awake20 () = some (true, ()) := by kernel_rfl
end Go.Proofs.YtiblijkhpmemeaaGreat

namespace Go.Proofs.YtiblijkhpmemeaaGreat
set_option maxRecDepth 100000
open Go.PI Go
noncomputable def truthAll_B : ((List Int) × ((List zA2) × Unit)) → Br (Bool × Unit) := fun (p0, p1, ()) =>
 (.opt (typesR ()) fun a =>
 (.opt (newS (a.1, ())) fun b =>
 (.opt (queryQ (p0, ())) fun c =>
 (.opt (events20 (p1, 7, ())) fun d =>
 (.opt (awake20 ()) fun e =>
 (.cond e.1
 (.opt (allT (b.1.1, c.1, d.1, ())) fun f =>
 (.opt (allM (c.1, d.1, ())) fun g =>
 (.opt (sameMs (f.1, g.1, ())) fun h =>
 (.ret (h.1, ())))))
 (.ret (false, ()))))))))
noncomputable def truthAll := fun x => (truthAll_B x).run
abbrev truthAll_ins : List (Bool × Pat) := [(false, .ty true (.sl (.int .i64))), (false, .ty true (.sl zA9))]
theorem truthAll_oc : OC Tryz.prog 3 truthAll_ins [.ty false .bool] truthAll := OC.lp en_awake20 1024 Tryz.func3 [] (by kernel_rfl) trivial (fun _ => by kernel_rfl)
end Go.Proofs.YtiblijkhpmemeaaGreat

namespace Go.Proofs.YtiblijkhpmemeaaGreat
open Go.PI Go
theorem lessP_at (a b : List Prs) (hb : a.length ≤ 1000000) : lessP (a, b, ()) = some (decide (cmpS a b < 0), ()) := by
 obtain ⟨z, hz, h⟩ : ∃ z, lessP_w0 (a, b, 0, ()) = some z ∧ ((∃ c, z = .inl (c, ()) ∧ c = decide (cmpS a b < 0)) ∨ (z = .inr (a, b, ()) ∧ decide (cmpS a b < 0) = decide ((a.length : Int) < (b.length : Int)))) := by
  refine iterO_bt (step := lessP_l0) (fun y => ∃ i : Int, y = (a, b, i, ()) ∧ 0 ≤ i ∧ i ≤ a.length ∧ i ≤ b.length ∧ cmpS a b = cmpS (a.drop i.toNat) (b.drop i.toNat)) (fun y => ((a.length : Int) - y.2.2.1).toNat) _ ?_ _ ⟨0, rfl, Int.le_refl _, by omega, by omega, rfl⟩
  rintro y ⟨i, rfl, g0, g1, g3, g2⟩
  unfold lessP_l0
  by_cases hi : i < (a.length : Int)
  ·have hw : IntKind.wrap .i64 (i + 1) = i + 1 := Go.PI.wrap_small (by omega) (by omega)
   rw [drop_cons a i (0, 0) g0 hi] at g2
   by_cases hj : i < (b.length : Int)
   ·rw [drop_cons b i (0, 0) g0 hj] at g2
    simp only [cmpS] at g2
    have ai := in2 g0 hi
    have bi := in2 g0 hj
    have d2 : cmp2 (a.getD i.toNat (0, 0)) (b.getD i.toNat (0, 0)) = _ := rfl
    unfold cmp2 at d2
    refine BT.lt (decide_eq_true hi) (BT.lt (decide_eq_true hj) (BT.yes ai (BT.yes bi (BT.cond (fun h1 => BT.yes ai (BT.yes bi (BT.ends (.inl ⟨_, rfl, ?_⟩)))) (fun h1 => BT.yes ai (BT.yes bi (BT.cond (fun h2 => BT.yes ai (BT.yes bi (BT.ends (.inl ⟨_, rfl, ?_⟩)))) (fun h2 => BT.goes ⟨⟨i + 1, by rw [hw], by omega, by omega, by omega, ?_⟩, ?_⟩))))))))
    ·have h1 : (a.getD i.toNat (0, 0)).1 ≠ (b.getD i.toNat (0, 0)).1 := by simpa using h1
     rw [g2]
     unfold cmp2
     generalize a.getD i.toNat (0, 0) = u at *
     generalize b.getD i.toNat (0, 0) = v at *
     rcases Int.lt_or_gt_of_ne h1 with h | h
     ·simp [h]
     ·have h' : ¬ u.1 < v.1 := by omega
      simp [h, h']
    ·have h1 : (a.getD i.toNat (0, 0)).1 = (b.getD i.toNat (0, 0)).1 := by simpa using h1
     have h2 : (a.getD i.toNat (0, 0)).2 ≠ (b.getD i.toNat (0, 0)).2 := by simpa using h2
     rw [g2]
     unfold cmp2
     generalize a.getD i.toNat (0, 0) = u at *
     generalize b.getD i.toNat (0, 0) = v at *
     rcases Int.lt_or_gt_of_ne h2 with h | h
     ·simp [h, h1]
     ·have h' : ¬ u.2 < v.2 := by omega
      simp [h, h', h1]
    ·have h1 : (a.getD i.toNat (0, 0)).1 = (b.getD i.toNat (0, 0)).1 := by simpa using h1
     have h2 : (a.getD i.toNat (0, 0)).2 = (b.getD i.toNat (0, 0)).2 := by simpa using h2
     rw [g2, if_pos ((cmp2_eq _ _).2 (Prod.ext h1 h2))]
    ·dsimp only
     rw [hw]
     omega
   ·refine BT.lt (decide_eq_true hi) (BT.ge (decide_eq_false hj) (BT.ends (.inr ⟨rfl, ?_⟩)))
    rw [g2, List.drop_eq_nil_of_le (show b.length ≤ i.toNat by omega), decide_eq_false (show ¬ (a.length : Int) < (b.length : Int) by omega)]
    rfl
  ·refine BT.ge (decide_eq_false hi) (BT.ends (.inr ⟨rfl, ?_⟩))
   rw [g2, List.drop_eq_nil_of_le (show a.length ≤ i.toNat by omega)]
   by_cases hl : (a.length : Int) < (b.length : Int)
   ·rw [decide_eq_true hl, drop_cons b i (0, 0) g0 (by omega)]
    rfl
   ·rw [decide_eq_false hl, List.drop_eq_nil_of_le (by omega)]
    rfl
 unfold lessP lessP_B
 simp only [Br.run, hz]
 rcases h with ⟨c, rfl, rfl⟩ | ⟨rfl, h⟩
 ·rfl
 ·rw [h]
  rfl
theorem samePs_at (a b : List Prs) (ha : a.length ≤ 1000000) : ∃ c, samePs (a, b, ()) = some (c, ()) ∧ (c = true ↔ a = b) := by
 by_cases hl : a.length = b.length
 ·obtain ⟨z, hz, h⟩ : ∃ z, samePs_w0 (a, b, 0, ()) = some z ∧ ((z = .inl () ∧ a ≠ b) ∨ (z = .inr () ∧ a = b)) := by
   refine iterO_bt (step := samePs_l0) (fun y => ∃ i : Int, y = (a, b, i, ()) ∧ 0 ≤ i ∧ i ≤ a.length ∧ ∀ k : Nat, (k : Int) < i → a.getD k (0, 0) = b.getD k (0, 0)) (fun y => ((a.length : Int) - y.2.2.1).toNat) _ ?_ _ ⟨0, rfl, Int.le_refl _, by omega, fun k h => by omega⟩
   rintro y ⟨i, rfl, g0, g1, g2⟩
   unfold samePs_l0
   by_cases hi : i < (a.length : Int)
   ·have hw : IntKind.wrap .i64 (i + 1) = i + 1 := Go.PI.wrap_small (by omega) (by omega)
    refine BT.lt (decide_eq_true hi) (BT.yes (in2 g0 hi) (BT.yes (in2 g0 (by omega)) (BT.cond (fun hc => BT.ends (.inl ⟨rfl, fun e => ?_⟩)) (fun hc => BT.goes ⟨⟨i + 1, by rw [hw], by omega, by omega, fun k hk => ?_⟩, ?_⟩))))
    ·subst e
     simp at hc
    ·by_cases hki : (k : Int) = i
     ·obtain rfl : k = i.toNat := by omega
      simp at hc
      exact Prod.ext hc.1 hc.2
     ·exact g2 k (by omega)
    ·dsimp only
     rw [hw]
     omega
   ·exact BT.ge (decide_eq_false hi) (BT.ends (.inr ⟨rfl, ext_getD (0, 0) hl fun k hk => g2 k (by omega)⟩))
  have hne : (((a.length : Nat) : Int) != ((b.length : Nat) : Int)) = false := by rw [hl]; simp
  unfold samePs samePs_B
  simp only [Br.run, hne, cond_false, hz]
  rcases h with ⟨rfl, h⟩ | ⟨rfl, h⟩
  ·exact ⟨false, rfl, ⟨fun e => (by cases e), fun e => absurd e h⟩⟩
  ·exact ⟨true, rfl, ⟨fun _ => h, fun _ => rfl⟩⟩
 ·have hne : (((a.length : Nat) : Int) != ((b.length : Nat) : Int)) = true := by simp; omega
  refine ⟨false, ?_, ⟨fun e => (by cases e), fun e => absurd (congrArg List.length e) hl⟩⟩
  unfold samePs samePs_B
  simp only [Br.run, hne, cond_true]
theorem sameMs_at (ms : List (List Prs)) (hl : ms.length ≤ 1000000) (hm : ∀ m ∈ ms, m.length ≤ 1000000) : sameMs (ms, ms, ()) = some (true, ()) := by
 obtain ⟨z, hz, rfl⟩ : ∃ z, sameMs_w0 (ms, ms, 0, ()) = some z ∧ z = .inr () := by
  refine iterO_bt (step := sameMs_l0) (fun y => ∃ i : Int, y = (ms, ms, i, ()) ∧ 0 ≤ i) (fun y => ((ms.length : Int) - y.2.2.1).toNat) _ ?_ _ ⟨0, rfl, Int.le_refl _⟩
  rintro y ⟨i, rfl, g0⟩
  unfold sameMs_l0
  by_cases hi : i < (ms.length : Int)
  ·have hw : IntKind.wrap .i64 (i + 1) = i + 1 := Go.PI.wrap_small (by omega) (by omega)
   have hlt : i.toNat < ms.length := by omega
   obtain ⟨c, hc, hc2⟩ := samePs_at (ms.getD i.toNat []) (ms.getD i.toNat []) (hm _ (by rw [getD_in _ _ _ hlt]; exact List.getElem_mem hlt))
   obtain rfl := hc2.2 rfl
   refine BT.lt (decide_eq_true hi) (BT.yes (in2 g0 hi) (BT.yes (in2 g0 hi) (BT.opt ⟨_, hc, BT.ge rfl (BT.goes ⟨⟨i + 1, by rw [hw], by omega⟩, ?_⟩)⟩)))
   dsimp only
   rw [hw]
   omega
  ·exact BT.ge (decide_eq_false hi) (BT.ends rfl)
 unfold sameMs sameMs_B
 simp only [Br.run, bne_self_eq_false, cond_false, hz]
section
variable {q : Qry} {l : List Evt}
theorem SegO.mv : ∀ (r : List Prs) {m : List Prs} {a h fr : Int}, SegO q l a h fr r → lastE m = a → 0 ≤ a → 0 ≤ fr → (m.length : Int) + r.length ≤ mxs q.1 → MV q l m fr (m ++ r)
 | [], m, a, h, fr, _, _, _, _, _ => by rw [List.append_nil]; exact .here
 | (p, s) :: r, m, a, h, fr, hs, hm, a0, f0, hl => by
  obtain ⟨h0, hs⟩ := hs
  have hA := idx_some (show 0 ≤ idx l s by omega)
  rw [List.length_cons] at hl
  have hseq : seqI l (idx l s) = s := hA.2.2
  have hl2 : ((m ++ [(p, s)]).length : Int) + r.length ≤ mxs q.1 := by rw [List.length_append, List.length_singleton]; omega
  have key : StepE q (lastE m) p ∧ MV q l (m ++ [(p, s)]) (idx l s + 1) ((m ++ [(p, s)]) ++ r) := by
   rcases hs with ⟨rfl, hs⟩ | ⟨-, -, -, hn, hs⟩
   ·exact ⟨⟨a0, .inl hm.symm⟩, SegO.mv r hs (lastE_snoc _ _) a0 (by omega) hl2⟩
   ·have := hn.1
    exact ⟨⟨by omega, .inr (by rw [hm]; exact hn)⟩, SegO.mv r hs (lastE_snoc _ _) (by omega) (by omega) hl2⟩
  refine .step (idx l s) p (by omega) h0 hA.2.1 key.1 ?_
  rw [hseq]
  have := key.2
  rwa [List.append_assoc] at this
theorem FA.mv (hq : QMk q) (hx : XMk l) {mm : List Prs} (h : FA q l mm) : MV q l [] 0 mm := by
 obtain ⟨p, s, r, rfl, hs, -, -⟩ := (fa_iff hq.good (by have := hq.w0; omega) hx.ne mm).1 h
 have hlen := hs.most hq
 rw [List.length_cons] at hlen
 have hlo := hq.lo
 have hE := (hq.get 0 (Int.le_refl 0) (by omega)).1
 obtain ⟨h0, hs⟩ := hs
 have hA := idx_some h0
 have hseq : seqI l (idx l s) = s := hA.2.2
 rcases hs with ⟨rfl, hs⟩ | ⟨-, hmin, -, -, -⟩
 ·refine .step (idx l s) 0 (by simp; omega) h0 hA.2.1 ⟨Int.le_refl 0, .inr ⟨by decide, by omega, ?_, fun u u0 u1 => by have : -1 < u := u0; omega⟩⟩ ?_
  ·cases e : (q.1.getD (0 : Int).toNat elmZ).2.2.1 with
   | false => rfl
   | true => have := hE.2.2.2.2.1 e; omega
  ·rw [hseq]
   exact SegO.mv r hs (lastE_snoc [] _) (Int.le_refl 0) (by omega) (by simp; omega)
 ·have := hE.2.1
  have h' : (q.1.getD (0 : Int).toNat elmZ).2.2.2.1 ≤ 0 := hmin
  omega
end
theorem truthAll_at (p : List Int) (l : List Evt) : truthAll (p, l, ()) = some (true, ()) := by
 obtain ⟨q, e1, hq⟩ := queryQ_at3 p
 obtain ⟨x, e2, hx, hx7⟩ := events20_at2 l 7 (by decide) (by decide)
 have hx8 := hx.len
 have hql := hq.lo
 obtain ⟨out, f1, f2, f3, f4, f5⟩ := allM_o hq.good hx.len (fun e he => (hx.ev e he).good) hx.ne hx.tm
 obtain ⟨ms, e3, e4, e5⟩ := sortP_at (fun m => m.length ≤ 1000000) (fun a b => decide (cmpS a b < 0)) (fun a b => Go.Proofs.ltOf cmpS b a = false) (fun a b ha _ => lessP_at a b ha)
  (fun a b h => by
   cases e : Go.Proofs.ltOf cmpS b a with
   | false => rfl
   | true =>
    have h1 := of_decide_eq_true h
    have h2 : cmpS b a < 0 := of_decide_eq_true e
    have := cmpS_swap a b
    omega) (fun a b h => h) (fun a b c h k => cmpS_swo.ntrans _ _ _ k h) out f3 f5
 obtain ⟨out', g1, g2, g3, g4⟩ := moreT_at hq hx (x.length + 2) [] 0 [] (by simp) (Int.le_refl 0) (by omega) (by omega) (by decide) (by show (-1 : Int) < q.1.length; omega) (by
  have p8 : 3 ^ ((x.length : Int) - 0).toNat ≤ 6561 := Nat.le_trans (Nat.pow_le_pow_right (by decide) (show ((x.length : Int) - 0).toNat ≤ 8 by omega)) (by decide)
  simp only [List.length_nil]
  omega)
 have p8 : 3 ^ ((x.length : Int) - 0).toNat ≤ 6561 := Nat.le_trans (Nat.pow_le_pow_right (by decide) (show ((x.length : Int) - 0).toNat ≤ 8 by omega)) (by decide)
 have hperm : out'.Perm out := (List.perm_ext_iff_of_nodup g3 f4).2 fun m => by
  rw [g2, f2]
  exact ⟨fun h => h.2, fun h => ⟨h.mv hq hx, h⟩⟩
 have hms : ms = sorted cmpS out' := by
  rw [sorted_uniq cmpS_swo cmpS_tot e4 e5]
  exact (sorted_uniq cmpS_swo cmpS_tot ((sorted_perm cmpS out').trans hperm) (sorted_sorted cmpS_swo out')).symm
 have hso : sortPs out' ((), ()) = some ms := by
  unfold sortPs
  rw [decide_eq_true (by omega), hms]
  rfl
 have hA : allT (sch3, q, x, ()) = some (ms, ()) := by
  have hmin : (if 16 < (↑(List.length x) : Int) then 16 else (↑(List.length x) : Int)) = x.length := if_neg (by omega)
  have hF : moreTF ((sch3, (q.1, q.2.1, q.2.2), x, []), [], 0, ()) = some ((), (sch3, q, x, out'), ()) := g1
  have htake : List.drop (Int.toNat 0) (List.take (Int.toNat (x.length : Int)) x) = x := by simp
  unfold allT allT_B
  simp only [Br.run, sortEv_at x hx.so (by omega), hmin, htake, hF, hso]
  simp
 have hS := sameMs_at ms (by have := e4.length_eq; omega) fun m hm => f5 m (e4.mem_iff.1 hm)
 unfold truthAll truthAll_B
 simp only [Br.run, typesR_at, newS_T3, e1, e2, f1 _ e3, hA, hS, awake20_at, cond_true]
end Go.Proofs.YtiblijkhpmemeaaGreat
