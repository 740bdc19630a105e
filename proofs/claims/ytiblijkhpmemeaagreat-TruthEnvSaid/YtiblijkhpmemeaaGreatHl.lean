/- Whether an element can stand for an event: the same on both sides. List's contract, of a chain of pairs. A context: law 23's, and lists of chains of pairs. Contracts of functions. Printed by auto.py. -/
import Derived.Test.YtiblijkhpmemeaaGreatHk
import Derived.Test.YtiblijkhpmemeaaGreatHf
import Derived.Test.YtiblijkhpmemeaaGreatGe
import Derived.Test.YtiblijkhpmemeaaGreatHh
import Derived.Test.YtiblijkhpmemeaaGreatHa
namespace Go.Proofs.YtiblijkhpmemeaaGreat
open Go.PI Go
theorem ofS_at (l : List ByteArray) (hl : l.length ≤ 1000) (t : ByteArray) : ofS (l, t, ()) = some (l.any (fun x => bl x == bl t), ()) := by
 unfold ofS ofS_B
 obtain ⟨z, hz, h⟩ : ∃ z, ofS_w0 (l, t, 0, ()) = some z ∧ ((z = .inl () ∧ l.any (fun x => bl x == bl t) = true) ∨ (z = .inr () ∧ l.any (fun x => bl x == bl t) = false)) := by
  refine iterO_bt (step := ofS_l0) (fun y => ∃ i : Int, y = (l, t, i, ()) ∧ 0 ≤ i ∧ i ≤ l.length ∧ l.any (fun x => bl x == bl t) = (l.drop i.toNat).any (fun x => bl x == bl t)) (fun y => ((l.length : Int) - y.2.2.1).toNat) _ ?_ _ ⟨0, rfl, Int.le_refl 0, by omega, rfl⟩
  rintro y ⟨i, rfl, h0, h1, h2⟩
  unfold ofS_l0
  by_cases hi : i < (l.length : Int)
  ·have hw : IntKind.wrap .i64 (i + 1) = i + 1 := Go.PI.wrap_small (by omega) (by omega)
   rw [drop_get l i ByteArray.empty h0 hi, List.any_cons] at h2
   refine BT.lt (decide_eq_true hi) (BT.yes (in2 h0 hi) (BT.cond (fun hc => BT.ends (.inl ⟨rfl, ?_⟩)) (fun hc => BT.goes ⟨⟨i + 1, by rw [hw], by omega, by omega, ?_⟩, ?_⟩)))
   ·rw [h2, show (bl (l.getD i.toNat ByteArray.empty) == bl t) = true from hc, Bool.true_or]
   ·rw [h2, show (bl (l.getD i.toNat ByteArray.empty) == bl t) = false from hc, Bool.false_or]
   ·dsimp only
    rw [hw]
    omega
  ·refine BT.ge (decide_eq_false hi) (BT.ends (.inr ⟨rfl, ?_⟩))
   rw [h2, List.drop_eq_nil_of_le (by omega)]
   rfl
 simp only [Br.run, hz]
 rcases h with ⟨rfl, h⟩ | ⟨rfl, h⟩ <;> (rw [h]; rfl)
theorem hasStr_at (l : List ByteArray) (hl : l.length ≤ 1000) (t : ByteArray) : hasStr (l, t, ()) = some (l.any (fun x => bl x == bl t), ()) := by
 unfold hasStr hasStr_B idxStr idxStr_B
 obtain ⟨z, hz, h⟩ : ∃ z, idxStr_w0 (l, t, (l.length : Int), 0, ()) = some z ∧ ((∃ i : Int, z = .inl (i, ()) ∧ 0 ≤ i ∧ l.any (fun x => bl x == bl t) = true) ∨ (z = .inr () ∧ l.any (fun x => bl x == bl t) = false)) := by
  refine iterO_bt (step := idxStr_l0) (fun y => ∃ i : Int, y = (l, t, (l.length : Int), i, ()) ∧ 0 ≤ i ∧ i ≤ l.length ∧ l.any (fun x => bl x == bl t) = (l.drop i.toNat).any (fun x => bl x == bl t)) (fun y => ((l.length : Int) - y.2.2.2.1).toNat) _ ?_ _ ⟨0, rfl, Int.le_refl 0, by omega, rfl⟩
  rintro y ⟨i, rfl, h0, h1, h2⟩
  unfold idxStr_l0
  by_cases hi : i < (l.length : Int)
  ·have hw : IntKind.wrap .i64 (i + 1) = i + 1 := Go.PI.wrap_small (by omega) (by omega)
   rw [drop_get l i ByteArray.empty h0 hi, List.any_cons] at h2
   refine BT.lt (decide_eq_true hi) (BT.yes (in2 h0 hi) (BT.cond (fun hc => BT.ends (.inl ⟨i, rfl, h0, ?_⟩)) (fun hc => BT.goes ⟨⟨i + 1, by rw [hw], by omega, by omega, ?_⟩, ?_⟩)))
   ·have hc : (bl t == bl (l.getD i.toNat ByteArray.empty)) = true := hc
    rw [h2, show (bl (l.getD i.toNat ByteArray.empty) == bl t) = true by rw [beq_iff_eq] at hc ⊢; exact hc.symm, Bool.true_or]
   ·have hc : (bl t == bl (l.getD i.toNat ByteArray.empty)) = false := hc
    rw [h2, show (bl (l.getD i.toNat ByteArray.empty) == bl t) = false by rw [beq_eq_false_iff_ne] at hc ⊢; exact hc.symm, Bool.false_or]
   ·dsimp only
    rw [hw]
    omega
  ·refine BT.ge (decide_eq_false hi) (BT.ends (.inr ⟨rfl, ?_⟩))
   rw [h2, List.drop_eq_nil_of_le (by omega)]
   rfl
 simp only [Br.run, hz]
 rcases h with ⟨i, rfl, h0, h⟩ | ⟨rfl, h⟩
 ·rw [h]
  show some (decide (i ≥ 0), ()) = _
  rw [decide_eq_true (show i ≥ 0 from h0)]
 ·rw [h]
  rfl
theorem QMk.get {q : Qry} (h : QMk q) (i : Int) (h0 : 0 ≤ i) (h1 : i < q.1.length) : EOk3 (q.1.length : Int) i (q.1.getD i.toNat elmZ) := by
 have hlt : i.toNat < q.1.length := by omega
 have := h.es i.toNat (q.1.getD i.toNat elmZ) (by rw [getD_in _ _ _ hlt]; exact List.getElem?_eq_getElem hlt)
 have e : ((i.toNat : Nat) : Int) = i := by omega
 rw [e] at this
 exact this
theorem QMk.good {q : Qry} (h : QMk q) : QGood q := ⟨fun k e he => (h.es k e he).1, h.lo, h.hi⟩
theorem QMk.qok {q : Qry} (h : QMk q) : QOk q := h.good.es.qok
theorem fitD_ref {q : Qry} (hq : QMk q) (a : Int) (h0 : 0 ≤ a) (h1 : a < q.1.length) (e : Evt) (he : EvMk e) (env : List Bnd) (hl : env.length ≤ 50) (hm : EnvMk env) : fitD q a e env = fits20 (q.1.getD a.toNat elmZ, e, env, ()) := by
 have hE := hq.get a h0 h1
 unfold fitD fits20 fits20_B
 rw [hasStr_at _ hE.1.1]
 obtain ⟨b, b1, b2⟩ := hE.2.1 (env ++ [((q.1.getD a.toNat elmZ).1, e)]) (by rw [List.length_append, List.length_singleton]; omega) (fun u hu => by
  rcases List.mem_append.1 hu with h | h
  ·exact hm u h
  ·obtain rfl := List.mem_singleton.1 h
   exact he)
 have hofs := ofS_at (q.1.getD a.toNat elmZ).2.1 hE.1.1 e.1
 cases hany : (q.1.getD a.toNat elmZ).2.1.any (fun x => bl x == bl e.1) with
 | false =>
  rw [hany] at hofs
  simp only [Br.run, hofs, cond_false]
 | true =>
  rw [hany] at hofs
  have g1 : decide ((@List.length (ByteArray × ByteArray × ByteArray × Int × Int × List (Int × Int × ByteArray × Bool)) (List.replicate 0 (ByteArray.empty, ByteArray.empty, ByteArray.empty, 0, 0, [])) + List.length env) * 88 ≤ 140737488355328) = true := decide_eq_true (by show (0 + env.length) * 88 ≤ _; omega)
  have b2' : holdsR ((q.1.getD a.toNat elmZ).2.2.2.2.2, List.replicate 0 (ByteArray.empty, ByteArray.empty, ByteArray.empty, 0, 0, []) ++ env ++ List.set (List.replicate 1 (ByteArray.empty, ByteArray.empty, ByteArray.empty, 0, 0, [])) 0 ((q.1.getD a.toNat elmZ).1, e), ()) = some (b, ()) := b2
  show holdsF _ = _
  rw [b1]
  suffices h : BT (fun y => y = (b, ())) _ by
   obtain ⟨y, hy, rfl⟩ := h
   exact hy.symm
  refine BT.opt ⟨_, hofs, BT.lt rfl (BT.yes g1 (BT.yes (decide_eq_true ?_) (BT.opt ⟨_, b2', BT.ret rfl⟩)))⟩
  show (env.length + 1) * 88 ≤ _
  omega
theorem env_mk {q : Qry} {l : List Evt} (hx : XMk l) (pre : List Prs) : EnvMk (pre.filterMap (pick q l)) := by
 intro b hb
 obtain ⟨x, -, hx'⟩ := List.mem_filterMap.1 hb
 unfold pick at hx'
 split at hx'
 ·rename_i e he
  split at hx'
  ·obtain rfl : _ = b := by simpa using hx'
   exact hx.ev _ (evOf_some he).1
  ·cases hx'
 ·cases hx'
theorem fitsT_ref {q : Qry} (hq : QMk q) {l : List Evt} (hx : XMk l) (pre : List Prs) (hpre : pre.length ≤ 50) (p : Int) (p0 : 0 ≤ p) (p1 : p < q.1.length) (e : Evt) (he : EvMk e) (hp : ∀ x ∈ pre, x.1 < p ∨ pick q l x = none) :
  fitsT (sch3, q, l, pre, p, e, ()) = fits20 (q.1.getD p.toNat elmZ, e, pre.filterMap (pick q l), ()) := by
 have hl := hx.len
 rw [fitsT_d hq.qok l (by omega) pre hpre p p0 p1 e]
 have e1 : pre.filterMap (pickT q l p) = pre.filterMap (pick q l) := filterMap_same fun x hx' => by
  unfold pickT
  rcases hp x hx' with h | h
  ·rw [if_pos h]
  ·rw [h]; split <;> rfl
 rw [e1]
 refine fitD_ref hq p p0 p1 e he _ (Nat.le_trans (List.length_filterMap_le ..) hpre) (env_mk hx pre)
end Go.Proofs.YtiblijkhpmemeaaGreat

namespace Go.Proofs.YtiblijkhpmemeaaGreat
open Go.PI Go
end Go.Proofs.YtiblijkhpmemeaaGreat

namespace Go.Proofs.YtiblijkhpmemeaaGreat
open Go.PI Go
end Go.Proofs.YtiblijkhpmemeaaGreat

namespace Go.Proofs.YtiblijkhpmemeaaGreat
open Go.PI Go
end Go.Proofs.YtiblijkhpmemeaaGreat
