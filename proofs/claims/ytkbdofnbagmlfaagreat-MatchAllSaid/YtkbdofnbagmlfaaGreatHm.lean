/- The run of pairs, and what variables stand for by pairs: the same. Matches, by what is still to come: elements and events in order, what fits, what must not be there, the window. Contracts of functions. Printed by auto.py. GuardFits: the statement comes to true. Whether an element can stand for an event: the same on both sides. What truth's order and find tell: elements and events in order. Where beginnings of matches may be: the states, what they move to, where a match may end. -/
import Derived.Test.YtkbdofnbagmlfaaGreatHl
import Derived.Test.YtkbdofnbagmlfaaGreatHh
import Derived.Test.YtkbdofnbagmlfaaGreatTmB
import Derived.Test.YtkbdofnbagmlfaaGreatHg
import Derived.Test.YtkbdofnbagmlfaaGreatHa
import Derived.Test.YtkbdofnbagmlfaaGreatHf
import Derived.Test.YtkbdofnbagmlfaaGreatS2
namespace Go.Proofs.YtkbdofnbagmlfaaGreat
open Go.PI Go
def evOf (x : List Evt) (s : Int) : Option Evt := x.find? fun e => e.2.2.2.1 == s
def pick (q : Qry) (x : List Evt) (p : Prs) : Option Bnd := match evOf x p.2 with
 | some e => if 0 <= p.1 /\ p.1 < q.1.length /\ (q.1.getD p.1.toNat Zac).2.2.2.2.1 = 1 then some ((q.1.getD p.1.toNat Zac).1, e) else none
 | none => none
end Go.Proofs.YtkbdofnbagmlfaaGreat

namespace Go.Proofs.YtkbdofnbagmlfaaGreat
open Go.PI Go
def Suf (q : Qry) (l : List Evt) (f0 : Int) : Int -> Int -> List Bnd -> Int -> List Prs -> Prop
 | a, h, _, _, [] => Zbl q a <= h /\ Zbi q a
 | a, h, env, fr, (p, s) :: r => ∃ i : Int, fr <= i /\ i < l.length /\ ZaN l i = s /\ Zbn l i - f0 <= q.2.1 /\ ZaO q l p i env /\
   ((p = a /\ h < Zbt q a /\ Suf q l f0 a (h + 1) (Zan (q.1.getD a.toNat Zac) env (l.getD i.toNat evZ)) (i + 1) r) \/
    (Zbl q a <= h /\ Nxt q a p /\ (∀ j, fr <= j -> j < i -> ∀ u, a < u -> u < p -> ¬ ZaO q l u j env) /\ Suf q l f0 p 1 (Zan (q.1.getD p.toNat Zac) env (l.getD i.toNat evZ)) (i + 1) r))
section
variable {q : Qry} {l : List Evt} {f0 : Int}
theorem FE.suf {a h : Int} {m : List Prs} {env : List Bnd} {fr : Int} {mm : List Prs} (hf : FE q l a h m env f0 fr mm) : ∃ r, mm = m ++ r /\ Suf q l f0 a h env fr r := by
 induction hf with
 | stop h1 h2 => exact ⟨[], by simp, h1, h2⟩
 | cross k i h1 h2 h3 h4 h5 h6 h7 h8 ih =>
  obtain ⟨r, e, hs⟩ := ih
  exact ⟨(k, ZaN l i) :: r, by rw [e]; simp, i, h3, h4, rfl, h5, h6, .inr ⟨h1, h2, h7, hs⟩⟩
 | @more a h m env f0 fr mm i h1 h3 h4 h5 h6 h8 ih =>
  obtain ⟨r, e, hs⟩ := ih
  exact ⟨(a, ZaN l i) :: r, by rw [e]; simp, i, h3, h4, rfl, h5, h6, .inl ⟨rfl, h1, hs⟩⟩
theorem Suf.fe : ∀ (r : List Prs) {a h : Int} {m : List Prs} {env : List Bnd} {fr : Int}, Suf q l f0 a h env fr r -> FE q l a h m env f0 fr (m ++ r)
 | [], a, h, m, env, fr, hs => by rw [List.append_nil]; exact .stop hs.1 hs.2
 | (p, s) :: r, a, h, m, env, fr, hs => by
  obtain ⟨i, i0, i1, rfl, w, f, ⟨rfl, h1, hs⟩ | ⟨h1, h2, h3, hs⟩⟩ := hs
  ·have := Suf.fe r (m := m ++ [(p, ZaN l i)]) hs
   rw [List.append_assoc] at this
   exact .more i h1 i0 i1 w f this
  ·have := Suf.fe r (m := m ++ [(p, ZaN l i)]) hs
   rw [List.append_assoc] at this
   exact .cross p i h1 h2 i0 i1 w f h3 this
def At (l : List Evt) (s i : Int) : Prop := 0 <= i /\ i < l.length /\ ZaN l i = s
open Classical in
noncomputable def idx (l : List Evt) (s : Int) : Int := if h : ∃ i, At l s i then h.choose else -1
theorem At.uniq (hx : l.Pairwise (fun a b => a.2.2.2.1 ≠ b.2.2.2.1)) {s i j : Int} (hi : At l s i) (hj : At l s j) : i = j := by
 obtain ⟨i0, i1, i2⟩ := hi
 obtain ⟨j0, j1, j2⟩ := hj
 have key : ∀ (a b : Nat) (ha : a < l.length) (hb : b < l.length), a < b -> (l.getD a evZ).2.2.2.1 ≠ (l.getD b evZ).2.2.2.1 := fun a b ha hb hab => by
  rw [Zaf _ _ _ ha, Zaf _ _ _ hb]
  exact List.pairwise_iff_getElem.1 hx a b ha hb hab
 have e : ZaN l i = ZaN l j := i2.trans j2.symm
 rcases Int.lt_trichotomy i j with c | c | c
 ·exact absurd e (key i.toNat j.toNat (by omega) (by omega) (by omega))
 ·exact c
 ·exact absurd e.symm (key j.toNat i.toNat (by omega) (by omega) (by omega))
theorem At.idx (hx : l.Pairwise (fun a b => a.2.2.2.1 ≠ b.2.2.2.1)) {s i : Int} (hi : At l s i) : idx l s = i := by
 have h : ∃ i, At l s i := ⟨i, hi⟩
 unfold Go.Proofs.YtkbdofnbagmlfaaGreat.idx
 rw [dif_pos h]
 exact At.uniq hx h.choose_spec hi
theorem Zt1 {s : Int} {e : Evt} (h : evOf l s = some e) : e ∈ l /\ e.2.2.2.1 = s := ⟨List.mem_of_find?_eq_some h, by have := List.find?_some h; simpa using this⟩
theorem At.ev (hx : l.Pairwise (fun a b => a.2.2.2.1 ≠ b.2.2.2.1)) {s i : Int} (hi : At l s i) : evOf l s = some (l.getD i.toNat evZ) := by
 obtain ⟨i0, i1, i2⟩ := id hi
 cases he : evOf l s with
 | none =>
  have hlt : i.toNat < l.length := by omega
  have := List.find?_eq_none.1 he (l.getD i.toNat evZ) (by rw [Zaf _ _ _ hlt]; exact List.getElem_mem hlt)
  exact absurd (show ((l.getD i.toNat evZ).2.2.2.1 == s) = true by rw [beq_iff_eq]; exact i2) this
 | some e =>
  obtain ⟨h1, h2⟩ := Zt1 he
  obtain ⟨j, hj, rfl⟩ := List.getElem_of_mem h1
  have hA : At l s j := ⟨by omega, by omega, by show (l.getD (j : Int).toNat evZ).2.2.2.1 = s; rw [show ((j : Int)).toNat = j by omega, Zaf _ _ _ hj]; exact h2⟩
  have := At.uniq hx hi hA
  subst this
  rw [show ((j : Int)).toNat = j by omega, Zaf _ _ _ hj]
def SegO (q : Qry) (l : List Evt) : Int -> Int -> Int -> List Prs -> Prop
 | a, h, _, [] => Zbl q a <= h /\ h <= Zbt q a /\ Zbi q a
 | a, h, fr, (p, s) :: r => fr <= idx l s /\ ((p = a /\ SegO q l a (h + 1) (idx l s + 1) r) \/ (p ≠ a /\ Zbl q a <= h /\ h <= Zbt q a /\ Nxt q a p /\ SegO q l p 1 (idx l s + 1) r))
theorem SegO.le : ∀ {r : List Prs} {a h fr : Int}, SegO q l a h fr r -> h <= Zbt q a
 | [], _, _, _, hs => hs.2.1
 | (p, s) :: r, a, h, fr, hs => by
  obtain ⟨-, ⟨-, hs⟩ | ⟨-, -, h1, -⟩⟩ := hs
  ·have := hs.le; omega
  ·exact h1
theorem SegO.ge : ∀ {r : List Prs} {a h fr : Int}, SegO q l a h fr r -> ∀ x ∈ r, fr <= idx l x.2 /\ a <= x.1 /\ (0 <= a -> a < q.1.length -> x.1 < q.1.length)
 | (p, s) :: r, a, h, fr, hs, x, hx => by
  obtain ⟨h0, hs⟩ := hs
  rcases List.mem_cons.1 hx with rfl | hx
  ·refine ⟨h0, ?_⟩
   rcases hs with ⟨rfl, -⟩ | ⟨-, -, -, hn, -⟩
   ·exact ⟨Int.le_refl _, fun _ h => h⟩
   ·exact ⟨Int.le_of_lt hn.1, fun _ _ => hn.2.1⟩
  ·rcases hs with ⟨rfl, hs⟩ | ⟨-, -, -, hn, hs⟩
   ·have := hs.ge x hx
    exact ⟨by omega, this.2⟩
   ·have := hs.ge x hx
    have h1 := hn.1
    have h2 := hn.2.1
    exact ⟨by omega, by omega, fun _ _ => this.2.2 (by omega) h2⟩
end
end Go.Proofs.YtkbdofnbagmlfaaGreat

namespace Go.Proofs.YtkbdofnbagmlfaaGreat
open Go.PI Go
end Go.Proofs.YtkbdofnbagmlfaaGreat

namespace Go.Proofs.YtkbdofnbagmlfaaGreat
open Go.PI Go
noncomputable def fitD (q : Qry) (a : Int) (e : Evt) (env : List Bnd) : Option (Bool × Unit) := match hasStr ((q.1.getD a.toNat Zac).2.1, e.1, ()) with
 | some (true, _) => holdsF (ZaJ, (q.1.getD a.toNat Zac).2.2.2.2.2, env ++ [((q.1.getD a.toNat Zac).1, e)], ())
 | some (false, _) => some (false, ())
 | none => none
theorem fitsG_d {q : Qry} (h : QOk q) (r : RunT) (hr : r.2.2.1.length <= 60) (a : Int) (h0 : 0 <= a) (h1 : a < q.1.length) (e : Evt) : fitsG (ZaJ, q, r, a, e, ()) = fitD q a e r.2.2.1.reverse := by
 unfold fitsG Zl0 envR Zp7 listB fitD
 obtain ⟨b, hb⟩ := ZkF _ (Zr8 h a.toNat) e.1
 have n0 : ¬ a < 0 := by omega
 have n1 : ¬ a >= (↑(List.length q.1) : Int) := by omega
 have g2 : r.2.2.1.length * 88 <= 140737488355328 := by omega
 have hb' : hasStr ((q.1.getD a.toNat (ByteArray.empty, [], false, 0, 0, [])).2.1, e.1, ()) = some (b, ()) := hb
 simp only [Br.run, decide_eq_false n0, decide_eq_false n1, decide_eq_true h0, decide_eq_true h1, Bool.and_self, cond_true, cond_false, hb', decide_eq_true g2]
 cases b
 ·rfl
 ·obtain ⟨v, hv⟩ := Zll (q.1.getD a.toNat (ByteArray.empty, [], false, 0, 0, [])).2.2.2.2.2 (r.2.2.1.reverse ++ [((q.1.getD a.toNat (ByteArray.empty, [], false, 0, 0, [])).1, e)]) (by
   rw [List.length_append, List.length_reverse, List.length_singleton]
   omega)
  have hv' : holdsF (ZaJ, (q.1.getD a.toNat (ByteArray.empty, [], false, 0, 0, [])).2.2.2.2.2, r.2.2.1.reverse ++ List.set (List.replicate 1 (ByteArray.empty, ByteArray.empty, ByteArray.empty, 0, 0, [])) 0 ((q.1.getD a.toNat (ByteArray.empty, [], false, 0, 0, [])).1, e), ()) = some (v, ()) := hv
  simp only [Bool.not_true, cond_false, Bool.cond_decide]
  rw [if_pos (by
   show (r.2.2.1.reverse.length + 1) * 88 <= 140737488355328
   rw [List.length_reverse]
   omega)]
  simp only [hv', Br.run]
  exact hv.symm
structure XGood (x : List Evt) : Prop where
 len : x.length <= 8
 good : ∀ e ∈ x, Zb2 e
end Go.Proofs.YtkbdofnbagmlfaaGreat

namespace Go.Proofs.YtkbdofnbagmlfaaGreat
open Go.PI Go
theorem ofS_at (l : List ByteArray) (hl : l.length <= 1000) (t : ByteArray) : ofS (l, t, ()) = some (l.any (fun x => bl x == bl t), ()) := by
 unfold ofS ofS_B
 obtain ⟨z, hz, h⟩ : ∃ z, ofS_w0 (l, t, 0, ()) = some z /\ ((z = .inl () /\ l.any (fun x => bl x == bl t) = true) \/ (z = .inr () /\ l.any (fun x => bl x == bl t) = false)) := by
  refine Zaw (step := Zgm) (fun y => ∃ i : Int, y = (l, t, i, ()) /\ 0 <= i /\ i <= l.length /\ l.any (fun x => bl x == bl t) = (l.drop i.toNat).any (fun x => bl x == bl t)) (fun y => ((l.length : Int) - y.2.2.1).toNat) _ ?_ _ ⟨0, rfl, Int.le_refl 0, by omega, rfl⟩
  rintro y ⟨i, rfl, h0, h1, h2⟩
  unfold Zgm
  by_cases hi : i < (l.length : Int)
  ·have hw : IntKind.wrap .i64 (i + 1) = i + 1 := Go.PI.wrap_small (by omega) (by omega)
   rw [ZbO l i ByteArray.empty h0 hi, List.any_cons] at h2
   refine BT.lt (decide_eq_true hi) (BT.yes (in2 h0 hi) (BT.cond (fun hc => BT.ends (.inl ⟨rfl, ?_⟩)) (fun hc => BT.goes ⟨⟨i + 1, by rw [hw], by omega, by omega, ?_⟩, ?_⟩)))
   ·rw [h2, show (bl (l.getD i.toNat ByteArray.empty) == bl t) = true from hc, Bool.true_or]
   ·rw [h2, show (bl (l.getD i.toNat ByteArray.empty) == bl t) = false from hc, Bool.false_or]
   ·dsimp only
    rw [hw]
    omega
  ·refine BT.ge (decide_eq_false hi) (BT.ends (.inr ⟨rfl, ?_⟩))
   rw [h2, List.drop_eq_nil_of_le (by omega)]
   rfl
 simp only [Br.run, hz]
 rcases h with ⟨rfl, h⟩ | ⟨rfl, h⟩ <;> (rw [h]; rfl)
theorem Zt9 (l : List ByteArray) (hl : l.length <= 1000) (t : ByteArray) : hasStr (l, t, ()) = some (l.any (fun x => bl x == bl t), ()) := by
 unfold hasStr ZjT idxStr Zjt
 obtain ⟨z, hz, h⟩ : ∃ z, idxStr_w0 (l, t, (l.length : Int), 0, ()) = some z /\ ((∃ i : Int, z = .inl (i, ()) /\ 0 <= i /\ l.any (fun x => bl x == bl t) = true) \/ (z = .inr () /\ l.any (fun x => bl x == bl t) = false)) := by
  refine Zaw (step := Zdt) (fun y => ∃ i : Int, y = (l, t, (l.length : Int), i, ()) /\ 0 <= i /\ i <= l.length /\ l.any (fun x => bl x == bl t) = (l.drop i.toNat).any (fun x => bl x == bl t)) (fun y => ((l.length : Int) - y.2.2.2.1).toNat) _ ?_ _ ⟨0, rfl, Int.le_refl 0, by omega, rfl⟩
  rintro y ⟨i, rfl, h0, h1, h2⟩
  unfold Zdt
  by_cases hi : i < (l.length : Int)
  ·have hw : IntKind.wrap .i64 (i + 1) = i + 1 := Go.PI.wrap_small (by omega) (by omega)
   rw [ZbO l i ByteArray.empty h0 hi, List.any_cons] at h2
   refine BT.lt (decide_eq_true hi) (BT.yes (in2 h0 hi) (BT.cond (fun hc => BT.ends (.inl ⟨i, rfl, h0, ?_⟩)) (fun hc => BT.goes ⟨⟨i + 1, by rw [hw], by omega, by omega, ?_⟩, ?_⟩)))
   ·have hc : (bl t == bl (l.getD i.toNat ByteArray.empty)) = true := hc
    rw [h2, show (bl (l.getD i.toNat ByteArray.empty) == bl t) = true by rw [beq_iff_eq] at hc ⊢; exact hc.symm, Bool.true_or]
   ·have hc : (bl t == bl (l.getD i.toNat ByteArray.empty)) = false := hc
    rw [h2, show (bl (l.getD i.toNat ByteArray.empty) == bl t) = false by rw [beq_eq_false_iff_ne] at hc ⊢; exact hc.symm, Bool.false_or]
   ·dsimp only
    rw [hw]
    omega
  ·refine BT.ge (decide_eq_false hi) (BT.ends (.inr ⟨rfl, ?_⟩))
   rw [h2, List.drop_eq_nil_of_le (by omega)]
   rfl
 simp only [Br.run, hz]
 rcases h with ⟨i, rfl, h0, h⟩ | ⟨rfl, h⟩
 ·rw [h]
  show some (decide (i >= 0), ()) = _
  rw [decide_eq_true (show i >= 0 from h0)]
 ·rw [h]
  rfl
theorem QMk.get {q : Qry} (h : QMk q) (i : Int) (h0 : 0 <= i) (h1 : i < q.1.length) : EOk3 (q.1.length : Int) i (q.1.getD i.toNat Zac) := by
 have hlt : i.toNat < q.1.length := by omega
 have := h.es i.toNat (q.1.getD i.toNat Zac) (by rw [Zaf _ _ _ hlt]; exact List.getElem?_eq_getElem hlt)
 have e : ((i.toNat : Nat) : Int) = i := by omega
 rw [e] at this
 exact this
theorem QMk.good {q : Qry} (h : QMk q) : QGood q := ⟨fun k e he => (h.es k e he).1, h.lo, h.hi⟩
theorem QMk.qok {q : Qry} (h : QMk q) : QOk q := h.good.es.qok
theorem fitD_ref {q : Qry} (hq : QMk q) (a : Int) (h0 : 0 <= a) (h1 : a < q.1.length) (e : Evt) (he : Zbw e) (env : List Bnd) (hl : env.length <= 50) (hm : Zdc env) : fitD q a e env = fits20 (q.1.getD a.toNat Zac, e, env, ()) := by
 have hE := hq.get a h0 h1
 unfold fitD fits20 Zhb
 rw [Zt9 _ hE.1.1]
 obtain ⟨b, b1, b2⟩ := hE.2.1 (env ++ [((q.1.getD a.toNat Zac).1, e)]) (by rw [List.length_append, List.length_singleton]; omega) (fun u hu => by
  rcases List.mem_append.1 hu with h | h
  ·exact hm u h
  ·obtain rfl := List.mem_singleton.1 h
   exact he)
 have hofs := ofS_at (q.1.getD a.toNat Zac).2.1 hE.1.1 e.1
 cases hany : (q.1.getD a.toNat Zac).2.1.any (fun x => bl x == bl e.1) with
 | false =>
  rw [hany] at hofs
  simp only [Br.run, hofs, cond_false]
 | true =>
  rw [hany] at hofs
  have g1 : decide ((@List.length (ByteArray × ByteArray × ByteArray × Int × Int × List (Int × Int × ByteArray × Bool)) (List.replicate 0 (ByteArray.empty, ByteArray.empty, ByteArray.empty, 0, 0, [])) + List.length env) * 88 <= 140737488355328) = true := decide_eq_true (by show (0 + env.length) * 88 <= _; omega)
  have b2' : holdsR ((q.1.getD a.toNat Zac).2.2.2.2.2, List.replicate 0 (ByteArray.empty, ByteArray.empty, ByteArray.empty, 0, 0, []) ++ env ++ List.set (List.replicate 1 (ByteArray.empty, ByteArray.empty, ByteArray.empty, 0, 0, [])) 0 ((q.1.getD a.toNat Zac).1, e), ()) = some (b, ()) := b2
  show holdsF _ = _
  rw [b1]
  suffices h : BT (fun y => y = (b, ())) _ by
   obtain ⟨y, hy, rfl⟩ := h
   exact hy.symm
  refine BT.opt ⟨_, hofs, BT.lt rfl (BT.yes g1 (BT.yes (decide_eq_true ?_) (BT.opt ⟨_, b2', BT.ret rfl⟩)))⟩
  show (env.length + 1) * 88 <= _
  omega
end Go.Proofs.YtkbdofnbagmlfaaGreat

namespace Go.Proofs.YtkbdofnbagmlfaaGreat
open Go.PI Go
theorem ZgY (q : Qry) (hq : q.1.length <= 100) (a : Int) (h0 : -1 <= a) (h1 : a < q.1.length) : ∃ k : Int, nextT (q, a, ()) = some (k, ()) /\ ((k = -1 /\ Zbi q a) \/ (Nxt q a k /\ 0 <= k)) := by
 have hw1 : IntKind.wrap .i64 (a + 1) = a + 1 := Go.PI.wrap_small (by omega) (by omega)
 obtain ⟨z, hz, h⟩ : ∃ z, nextT_w0 (a, a + 1, q, ()) = some z /\ ((∃ k : Int, z = .inl (k, ()) /\ Nxt q a k) \/ (z = .inr () /\ Zbi q a)) := by
  refine Zaw (step := ZgZ) (fun y => ∃ i : Int, y = (a, i, q, ()) /\ a + 1 <= i /\ i <= q.1.length /\ ∀ u : Int, a < u -> u < i -> (q.1.getD u.toNat Zac).2.2.1 = true) (fun y => ((q.1.length : Int) - y.2.1).toNat) _ ?_ _ ⟨a + 1, rfl, Int.le_refl _, by omega, fun u h h' => by omega⟩
  rintro y ⟨i, rfl, g0, g1, g2⟩
  unfold ZgZ
  by_cases hi : i < (q.1.length : Int)
  ·have hw : IntKind.wrap .i64 (i + 1) = i + 1 := Go.PI.wrap_small (by omega) (by omega)
   refine BT.lt (decide_eq_true hi) (BT.lt (decide_eq_true h1) (BT.yes (in2 (by omega) hi) (BT.cond (fun hc => BT.ends (.inl ⟨i, rfl, by omega, hi, by simpa using hc, g2⟩)) (fun hc => BT.goes ⟨⟨i + 1, by rw [hw], by omega, by omega, fun u u0 u1 => ?_⟩, ?_⟩))))
   ·by_cases hu : u = i
    ·subst hu; simpa using hc
    ·exact g2 u u0 (by omega)
   ·dsimp only
    rw [hw]
    omega
  ·exact BT.ge (decide_eq_false hi) (BT.ends (.inr ⟨rfl, fun u u0 u1 => g2 u u0 (by omega)⟩))
 unfold nextT Zry
 dsimp only
 rw [hw1, if_neg (by omega)]
 simp only [Br.run, hz]
 rcases h with ⟨k, rfl, h⟩ | ⟨rfl, h⟩
 ·exact ⟨k, rfl, .inr ⟨h, by have := h.1; omega⟩⟩
 ·exact ⟨-1, rfl, .inl ⟨rfl, h⟩⟩
theorem betwT_at (q : Qry) (hq : q.1.length <= 100) (a p : Int) (h0 : 0 <= a) (h1 : a < q.1.length) (hp : Nxt q a p) : ∃ L : List Int, betwT (q, a, ()) = some (L, ()) /\ (∀ u, u ∈ L ↔ a < u /\ u < p) /\ L.length <= 1000 := by
 have hw1 : IntKind.wrap .i64 (a + 1) = a + 1 := Go.PI.wrap_small (by omega) (by omega)
 have hp1 := hp.1
 have hp2 := hp.2.1
 obtain ⟨z, hz, h, hl⟩ : ∃ z, betwT_w0 (a, a + 1, q, [], ()) = some z /\ (∀ u, u ∈ z.1 ↔ a < u /\ u < p) /\ z.1.length <= 1000 := by
  refine Zaw (step := Zho) (fun y => ∃ (i : Int) (L : List Int), y = (a, i, q, L, ()) /\ a + 1 <= i /\ i <= p /\ (L.length : Int) <= i /\ ∀ u, u ∈ L ↔ a < u /\ u < i) (fun y => ((q.1.length : Int) - y.2.1).toNat) _ ?_ _ ⟨a + 1, [], rfl, Int.le_refl _, by omega, by simp; omega, fun u => by simp; omega⟩
  rintro y ⟨i, L, rfl, g0, g1, g3, g2⟩
  unfold Zho
  have hi : i < (q.1.length : Int) := by omega
  have hw : IntKind.wrap .i64 (i + 1) = i + 1 := Go.PI.wrap_small (by omega) (by omega)
  refine BT.lt (decide_eq_true hi) (BT.lt (decide_eq_true h1) (BT.yes (in2 (by omega) hi) (BT.cond (fun hc => ?_) (fun hc => ?_))))
  ·have hne : i ≠ p := fun e => by
    subst e
    have := hp.2.2.1
    rw [show (q.1.getD i.toNat Zac).2.2.1 = true from hc] at this
    cases this
   refine BT.yes (decide_eq_true ?_) (BT.goes ⟨⟨i + 1, L ++ [i], by rw [hw]; rfl, by omega, by omega, by rw [List.length_append, List.length_singleton]; omega, fun u => ?_⟩, ?_⟩)
   ·show (L.length + 1) * 8 <= _
    omega
   ·rw [List.mem_append, g2, List.mem_singleton]
    omega
   ·dsimp only
    rw [hw]
    omega
  ·refine BT.ends ⟨fun u => ?_, by dsimp only; omega⟩
   have he : i = p := by
    rcases Int.lt_or_le i p with h | h
    ·have := hp.2.2.2 i (by omega) h
     rw [show (q.1.getD i.toNat Zac).2.2.1 = false from hc] at this
     cases this
    ·omega
   subst he
   exact g2 u
 unfold betwT Zst
 dsimp only
 rw [hw1, if_neg (by omega)]
 simp only [Br.run, hz]
 exact ⟨_, rfl, h, hl⟩
theorem SegO.next {q : Qry} {l : List Evt} (hq : QMk q) {a h fr : Int} (a0 : 0 <= a) (a1 : a < q.1.length) {r : List Prs} (hr : ∀ p s r', r = (p, s) :: r' -> p ≠ a) : SegO q l a h fr r ↔ Zbl q a <= h /\ h <= Zbt q a /\ ((Zbi q a /\ r = []) \/ ∃ k, Nxt q a k /\ SegO q l k 0 fr r) := by
 have hmin : ∀ k, Nxt q a k -> 1 <= Zbl q k := fun k hk => (hq.get k (by have := hk.1; omega) hk.2.1).1.2.1
 cases r with
 | nil =>
  constructor
  ·rintro ⟨h1, h2, h3⟩
   exact ⟨h1, h2, .inl ⟨h3, rfl⟩⟩
  ·rintro ⟨h1, h2, ⟨h3, -⟩ | ⟨k, hk, h4, -⟩⟩
   ·exact ⟨h1, h2, h3⟩
   ·have := hmin k hk; omega
 | cons y r =>
  obtain ⟨p, s⟩ := y
  have hpa := hr p s r rfl
  constructor
  ·rintro ⟨h0, ⟨rfl, -⟩ | ⟨-, h1, h2, h3, h4⟩⟩
   ·exact absurd rfl hpa
   ·exact ⟨h1, h2, .inr ⟨p, h3, h0, .inl ⟨rfl, h4⟩⟩⟩
  ·rintro ⟨h1, h2, ⟨-, h3⟩ | ⟨k, hk, h4, ⟨rfl, h5⟩ | ⟨-, h5, -⟩⟩⟩
   ·cases h3
   ·exact ⟨h4, .inr ⟨hpa, h1, h2, hk, h5⟩⟩
   ·have := hmin k hk; omega
end Go.Proofs.YtkbdofnbagmlfaaGreat

namespace Go.Proofs.YtkbdofnbagmlfaaGreat
open Go.PI Go
abbrev Stt := Int × Int
theorem QMk.few {q : Qry} (h : QMk q) : QFew q := by
 refine ⟨by have := h.hi; omega, fun e he => ?_⟩
 obtain ⟨k, hk⟩ := List.getElem?_of_mem he
 have := (h.es k e hk).1
 exact ⟨this.1, this.2.2.2.2.2.1⟩
theorem QMk.e {q : Qry} (h : QMk q) (i : Int) (h0 : 0 <= i) (h1 : i < q.1.length) : EOk i (q.1.getD i.toNat Zac) := (h.get i h0 h1).1
theorem QMk.max3 {q : Qry} (h : QMk q) (i : Int) (h0 : 0 <= i) (h1 : i < q.1.length) : 1 <= Zbl q i /\ Zbl q i <= Zbt q i /\ Zbt q i <= 3 := by
 have := h.e i h0 h1
 exact ⟨this.2.1, this.2.2.1, this.2.2.2.1⟩
theorem QMk.first {q : Qry} (h : QMk q) : (q.1.getD 0 Zac).2.2.1 = false := by
 have h0 := (h.e 0 (by omega) (by have := h.lo; omega)).2.2.2.2.1
 cases hc : (q.1.getD 0 Zac).2.2.1 with
 | false => rfl
 | true => exact absurd (h0 hc) (by omega)
def SAt (q : Qry) (s : Stt) : Prop := 0 <= s.1 /\ s.1 < q.1.length /\ (q.1.getD s.1.toNat Zac).2.2.1 = false /\ 1 <= s.2 /\ s.2 <= Zbt q s.1
def SOk (q : Qry) (L : List Stt) : Prop := L.length <= 100 /\ L.getD 0 (0, 0) = (-1, 0) /\ 1 <= L.length /\ ∀ s, s ∈ L ↔ s = (-1, 0) \/ SAt q s
theorem Zq5 {q : Qry} (h : QMk q) (a : List Elm) (b c i : Int) (h0 : 0 <= i) (h1 : i < q.1.length) (acc : List Stt) (hl : acc.length <= 1000) :
  ∃ acc', newN_w1 (i, 1, a, b, c, q, acc, ()) = some (i, a, b, c, q, acc ++ acc', ()) /\ acc'.length <= 3 /\ ∀ s, s ∈ acc' ↔ s.1 = i /\ 1 <= s.2 /\ s.2 <= Zbt q i := by
 have hE := h.max3 i h0 h1
 suffices hh : ∃ z, newN_w1 (i, 1, a, b, c, q, acc, ()) = some z /\ ∃ acc', z = (i, a, b, c, q, acc ++ acc', ()) /\ acc'.length <= 3 /\ ∀ s, s ∈ acc' ↔ s.1 = i /\ 1 <= s.2 /\ s.2 <= Zbt q i by
  obtain ⟨z, hz, acc', rfl, h⟩ := hh
  exact ⟨acc', hz, h⟩
 refine Zao (step := fun x => (Zie x).run) (Q := fun _ z => ∃ acc', z = (i, a, b, c, q, acc ++ acc', ()) /\ acc'.length <= 3 /\ ∀ s, s ∈ acc' ↔ s.1 = i /\ 1 <= s.2 /\ s.2 <= Zbt q i)
  (fun y => ∃ n acc', y = (i, n, a, b, c, q, acc ++ acc', ()) /\ 1 <= n /\ n <= Zbt q i + 1 /\ (acc'.length : Int) = n - 1 /\ ∀ s : Stt, s ∈ acc' ↔ s.1 = i /\ 1 <= s.2 /\ s.2 < n)
  (fun y => (4 - y.2.1).toNat) ?_ _ ⟨1, [], by rw [List.append_nil], Int.le_refl 1, by omega, rfl, fun s => ⟨fun h => by simp at h, fun ⟨_, h1, h2⟩ => by omega⟩⟩
 rintro y ⟨n, l, rfl, g0, g1, g2, g3⟩
 dsimp only
 unfold Zie
 have hm : ¬ (4 < (q.1.getD i.toNat Zac).2.2.2.2.1) := by have : Zbt q i = (q.1.getD i.toNat Zac).2.2.2.2.1 := rfl; omega
 have hw : IntKind.wrap .i64 (n + 1) = n + 1 := Go.PI.wrap_small (by omega) (by omega)
 by_cases hc : n <= Zbt q i
 ·have hc' : n <= (q.1.getD i.toNat Zac).2.2.2.2.1 := hc
  have hb' : ((acc ++ l).length + List.length (List.set (List.replicate 1 ((0 : Int), (0 : Int))) 0 (i, n))) * 16 <= 140737488355328 := by
   show ((acc ++ l).length + 1) * 16 <= _
   rw [List.length_append]
   omega
  simp only [Br.run, decide_eq_true h0, decide_eq_true h1, Bool.and_self, cond_true, hm, if_false, decide_eq_true hc', decide_eq_true hb', hw]
  refine .inl ⟨_, rfl, ⟨n + 1, l ++ [(i, n)], ?_, by omega, by omega, by rw [List.length_append, List.length_singleton]; omega, fun s => ?_⟩, (show (4 - (n + 1)).toNat < (4 - n).toNat by omega), fun z hz => hz⟩
  ·show (i, n + 1, a, b, c, q, acc ++ l ++ [(i, n)], ()) = _
   rw [List.append_assoc]
  ·rw [List.mem_append, g3, List.mem_singleton]
   constructor
   ·rintro (⟨k1, k2, k3⟩ | rfl)
    ·exact ⟨k1, k2, by omega⟩
    ·exact ⟨rfl, g0, by dsimp only; omega⟩
   ·rintro ⟨k1, k2, k3⟩
    by_cases e : s.2 = n
    ·exact .inr (by obtain ⟨s1, s2⟩ := s; dsimp only at k1 e; rw [k1, e])
    ·exact .inl ⟨k1, k2, by omega⟩
 ·have hc' : ¬ n <= (q.1.getD i.toNat Zac).2.2.2.2.1 := hc
  simp only [Br.run, decide_eq_true h0, decide_eq_true h1, Bool.and_self, cond_true, cond_false, hm, if_false, decide_eq_false hc']
  exact .inr ⟨_, rfl, l, rfl, by omega, fun s => by rw [g3]; constructor <;> rintro ⟨k1, k2, k3⟩ <;> exact ⟨k1, k2, by omega⟩⟩
theorem newN_at2 {q : Qry} (h : QMk q) : ∃ L : List Stt, newN (q, ()) = some (some (q, L), ()) /\ SOk q L := by
 have hq4 := h.hi
 have hq1 := h.lo
 obtain ⟨j, e1, e2⟩ := ZgY q (by omega) (-1) (by omega) (by omega)
 have hj : Nxt q (-1) j /\ 0 <= j := by
  rcases e2 with ⟨_, k⟩ | k
  ·have := k 0 (by omega) (by omega)
   rw [show Int.toNat 0 = 0 from rfl, h.first] at this
   cases this
  ·exact k
 obtain ⟨L, e3, e4⟩ : ∃ L, newN_w0 (j, q.1, q.2.1, q.2.2, q, [(-1, 0)], ()) = some (q.1, q.2.1, q.2.2, L, ()) /\ SOk q L := by
  suffices hh : ∃ z, newN_w0 (j, q.1, q.2.1, q.2.2, q, [(-1, 0)], ()) = some z /\ ∃ L, z = (q.1, q.2.1, q.2.2, L, ()) /\ SOk q L by
   obtain ⟨z, hz, L, rfl, h⟩ := hh
   exact ⟨L, hz, h⟩
  refine Zao (step := fun x => (Ziw x).run) (Q := fun _ z => ∃ L, z = (q.1, q.2.1, q.2.2, L, ()) /\ SOk q L)
   (fun y => ∃ i acc, y = (i, q.1, q.2.1, q.2.2, q, (-1, 0) :: acc, ()) /\ (acc.length : Int) <= 3 * (if i < 0 then 4 else i) /\ ((i = -1 /\ ∀ s, s ∈ acc ↔ SAt q s) \/ (0 <= i /\ i < q.1.length /\ (q.1.getD i.toNat Zac).2.2.1 = false /\ ∀ s : Stt, s ∈ acc ↔ SAt q s /\ s.1 < i)))
   (fun y => if y.1 < 0 then 0 else ((q.1.length : Int) - y.1).toNat) ?_ _ ⟨j, [], rfl, by have := hj.2; split <;> simp <;> omega, .inr ⟨hj.2, hj.1.2.1, hj.1.2.2.1, fun s => ⟨fun h => by simp at h, fun ⟨⟨k0, k1, k2, _⟩, k3⟩ => ?_⟩⟩⟩
  ·rintro y ⟨i, acc, rfl, g0, g1⟩
   dsimp only
   unfold Ziw
   rcases g1 with ⟨rfl, g1⟩ | ⟨g1, g2, g3, g4⟩
   ·have hn : ¬ (-1 : Int) >= 0 := by omega
    simp only [Br.run, decide_eq_false hn, cond_false]
    rw [if_pos (by omega)] at g0
    exact .inr ⟨_, rfl, _, rfl, by simp only [List.length_cons]; omega, rfl, by simp, fun s => by rw [List.mem_cons, g1]⟩
   ·have hi : i >= 0 := g1
    rw [if_neg (by omega)] at g0
    obtain ⟨acc', f1, f2, f3⟩ := Zq5 h q.1 q.2.1 q.2.2 i g1 g2 ((-1, 0) :: acc) (by simp only [List.length_cons]; omega)
    obtain ⟨k, f4, f5⟩ := ZgY q (by omega) i (by omega) g2
    simp only [Br.run, decide_eq_true hi, cond_true, f1, f4]
    have mem : ∀ s : Stt, s ∈ acc ++ acc' ↔ SAt q s /\ s.1 <= i := fun s => by
     rw [List.mem_append, g4, f3]
     constructor
     ·rintro (⟨k1, k2⟩ | ⟨k1, k2, k3⟩)
      ·exact ⟨k1, by omega⟩
      ·exact ⟨⟨by omega, by omega, by rw [k1]; exact g3, k2, by rw [k1]; exact k3⟩, by omega⟩
     ·rintro ⟨k1, k2⟩
      by_cases e : s.1 = i
      ·exact .inr ⟨e, k1.2.2.2.1, by rw [<- e]; exact k1.2.2.2.2⟩
      ·exact .inl ⟨k1, by omega⟩
    refine .inl ⟨_, rfl, ⟨k, acc ++ acc', rfl, ?_, ?_⟩, ?_, fun z hz => hz⟩
    ·rw [List.length_append]
     rcases f5 with ⟨rfl, _⟩ | ⟨⟨m1, _⟩, m2⟩
     ·rw [if_pos (by omega)]; omega
     ·rw [if_neg (by omega)]; omega
    ·rcases f5 with ⟨rfl, m⟩ | ⟨⟨m1, m2, m3, m4⟩, m5⟩
     ·refine .inl ⟨rfl, fun s => ?_⟩
      rw [mem]
      refine ⟨fun k => k.1, fun k => ⟨k, Int.not_lt.1 fun hlt => ?_⟩⟩
      have := m s.1 hlt k.2.1
      rw [k.2.2.1] at this
      cases this
     ·refine .inr ⟨m5, m2, m3, fun s => ?_⟩
      rw [mem]
      refine ⟨fun k => ⟨k.1, by omega⟩, fun k => ⟨k.1, Int.not_lt.1 fun hlt => ?_⟩⟩
      have := m4 s.1 hlt k.2
      rw [k.1.2.2.1] at this
      cases this
    ·rcases f5 with ⟨rfl, m⟩ | ⟨⟨m1, m2, m3, m4⟩, m5⟩
     ·rw [if_pos (by omega), if_neg (by omega)]; omega
     ·rw [if_neg (by omega), if_neg (by omega)]; omega
  ·have := hj.1.2.2.2 s.1 (by omega) k3
   rw [k2] at this
   cases this
 unfold newN newN_B
 simp only [Br.run, Zol h.few, e1, e3]
 exact ⟨L, rfl, e4⟩
end Go.Proofs.YtkbdofnbagmlfaaGreat
