/- What truth's order and find tell: elements and events in order. What truth's Match and Why tell: a match is one of all that are found element by element. Truth's Match and Why: what comes is a match just where it is one of all that are found element by element. -/
import Derived.Test.YtiblijkhpmemeaaGreatHi
import Derived.Test.YtiblijkhpmemeaaGreatT1
namespace Go.Proofs.YtiblijkhpmemeaaGreat
open Go.PI Go
theorem find_idx {l : List Evt} (hx : XMk l) (s : Int) : ∃ e, findT (l, s, ()) = some ((e, idx l s), ()) ∧ -1 ≤ idx l s ∧ idx l s < l.length ∧ (0 ≤ idx l s → e = l.getD (idx l s).toNat evZ) := by
 have hl := hx.len
 obtain ⟨e, i, h1, h2⟩ := findT_at l (by omega) s
 rcases h2 with ⟨rfl, h3⟩ | ⟨i0, i1, he, h3⟩
 ·have hn : idx l s = -1 := idx_none fun ⟨i, hi⟩ => by rw [hi.ev hx.ne] at h3; cases h3
  rw [hn]
  exact ⟨e, h1, by omega, by omega, fun h => by omega⟩
 ·have hA : At l s i := ⟨i0, i1, by have := (evOf_some h3).2; rw [he] at this; exact this⟩
  have hi := hA.idx hx.ne
  rw [hi]
  exact ⟨e, h1, by omega, i1, fun _ => he⟩
theorem nextT_at (q : Qry) (hq : q.1.length ≤ 100) (a : Int) (h0 : -1 ≤ a) (h1 : a < q.1.length) : ∃ k : Int, nextT (q, a, ()) = some (k, ()) ∧ ((k = -1 ∧ NoNxt q a) ∨ (Nxt q a k ∧ 0 ≤ k)) := by
 have hw1 : IntKind.wrap .i64 (a + 1) = a + 1 := Go.PI.wrap_small (by omega) (by omega)
 obtain ⟨z, hz, h⟩ : ∃ z, nextT_w0 (a, a + 1, q, ()) = some z ∧ ((∃ k : Int, z = .inl (k, ()) ∧ Nxt q a k) ∨ (z = .inr () ∧ NoNxt q a)) := by
  refine iterO_bt (step := nextT_l0) (fun y => ∃ i : Int, y = (a, i, q, ()) ∧ a + 1 ≤ i ∧ i ≤ q.1.length ∧ ∀ u : Int, a < u → u < i → (q.1.getD u.toNat elmZ).2.2.1 = true) (fun y => ((q.1.length : Int) - y.2.1).toNat) _ ?_ _ ⟨a + 1, rfl, Int.le_refl _, by omega, fun u h h' => by omega⟩
  rintro y ⟨i, rfl, g0, g1, g2⟩
  unfold nextT_l0
  by_cases hi : i < (q.1.length : Int)
  ·have hw : IntKind.wrap .i64 (i + 1) = i + 1 := Go.PI.wrap_small (by omega) (by omega)
   refine BT.lt (decide_eq_true hi) (BT.lt (decide_eq_true h1) (BT.yes (in2 (by omega) hi) (BT.cond (fun hc => BT.ends (.inl ⟨i, rfl, by omega, hi, by simpa using hc, g2⟩)) (fun hc => BT.goes ⟨⟨i + 1, by rw [hw], by omega, by omega, fun u u0 u1 => ?_⟩, ?_⟩))))
   ·by_cases hu : u = i
    ·subst hu; simpa using hc
    ·exact g2 u u0 (by omega)
   ·dsimp only
    rw [hw]
    omega
  ·exact BT.ge (decide_eq_false hi) (BT.ends (.inr ⟨rfl, fun u u0 u1 => g2 u u0 (by omega)⟩))
 unfold nextT nextT_B
 dsimp only
 rw [hw1, if_neg (by omega)]
 simp only [Br.run, hz]
 rcases h with ⟨k, rfl, h⟩ | ⟨rfl, h⟩
 ·exact ⟨k, rfl, .inr ⟨h, by have := h.1; omega⟩⟩
 ·exact ⟨-1, rfl, .inl ⟨rfl, h⟩⟩
theorem betwT_at (q : Qry) (hq : q.1.length ≤ 100) (a p : Int) (h0 : 0 ≤ a) (h1 : a < q.1.length) (hp : Nxt q a p) : ∃ L : List Int, betwT (q, a, ()) = some (L, ()) ∧ (∀ u, u ∈ L ↔ a < u ∧ u < p) ∧ L.length ≤ 1000 := by
 have hw1 : IntKind.wrap .i64 (a + 1) = a + 1 := Go.PI.wrap_small (by omega) (by omega)
 have hp1 := hp.1
 have hp2 := hp.2.1
 obtain ⟨z, hz, h, hl⟩ : ∃ z, betwT_w0 (a, a + 1, q, [], ()) = some z ∧ (∀ u, u ∈ z.1 ↔ a < u ∧ u < p) ∧ z.1.length ≤ 1000 := by
  refine iterO_bt (step := betwT_l0) (fun y => ∃ (i : Int) (L : List Int), y = (a, i, q, L, ()) ∧ a + 1 ≤ i ∧ i ≤ p ∧ (L.length : Int) ≤ i ∧ ∀ u, u ∈ L ↔ a < u ∧ u < i) (fun y => ((q.1.length : Int) - y.2.1).toNat) _ ?_ _ ⟨a + 1, [], rfl, Int.le_refl _, by omega, by simp; omega, fun u => by simp; omega⟩
  rintro y ⟨i, L, rfl, g0, g1, g3, g2⟩
  unfold betwT_l0
  have hi : i < (q.1.length : Int) := by omega
  have hw : IntKind.wrap .i64 (i + 1) = i + 1 := Go.PI.wrap_small (by omega) (by omega)
  refine BT.lt (decide_eq_true hi) (BT.lt (decide_eq_true h1) (BT.yes (in2 (by omega) hi) (BT.cond (fun hc => ?_) (fun hc => ?_))))
  ·have hne : i ≠ p := fun e => by
    subst e
    have := hp.2.2.1
    rw [show (q.1.getD i.toNat elmZ).2.2.1 = true from hc] at this
    cases this
   refine BT.yes (decide_eq_true ?_) (BT.goes ⟨⟨i + 1, L ++ [i], by rw [hw]; rfl, by omega, by omega, by rw [List.length_append, List.length_singleton]; omega, fun u => ?_⟩, ?_⟩)
   ·show (L.length + 1) * 8 ≤ _
    omega
   ·rw [List.mem_append, g2, List.mem_singleton]
    omega
   ·dsimp only
    rw [hw]
    omega
  ·refine BT.ends ⟨fun u => ?_, by dsimp only; omega⟩
   have he : i = p := by
    rcases Int.lt_or_le i p with h | h
    ·have := hp.2.2.2 i (by omega) h
     rw [show (q.1.getD i.toNat elmZ).2.2.1 = false from hc] at this
     cases this
    ·omega
   subst he
   exact g2 u
 unfold betwT betwT_B
 dsimp only
 rw [hw1, if_neg (by omega)]
 simp only [Br.run, hz]
 exact ⟨_, rfl, h, hl⟩
theorem SegO.next {q : Qry} {l : List Evt} (hq : QMk q) {a h fr : Int} (a0 : 0 ≤ a) (a1 : a < q.1.length) {r : List Prs} (hr : ∀ p s r', r = (p, s) :: r' → p ≠ a) : SegO q l a h fr r ↔ minI q a ≤ h ∧ h ≤ maxI q a ∧ ((NoNxt q a ∧ r = []) ∨ ∃ k, Nxt q a k ∧ SegO q l k 0 fr r) := by
 have hmin : ∀ k, Nxt q a k → 1 ≤ minI q k := fun k hk => (hq.get k (by have := hk.1; omega) hk.2.1).1.2.1
 cases r with
 | nil =>
  constructor
  ·rintro ⟨h1, h2, h3⟩
   exact ⟨h1, h2, .inl ⟨h3, rfl⟩⟩
  ·rintro ⟨h1, h2, ⟨h3, -⟩ | ⟨k, hk, h4, -⟩⟩
   ·exact ⟨h1, h2, h3⟩
   ·have := hmin k hk; omega
 | cons y r =>
  obtain ⟨p, s⟩ := y
  have hpa := hr p s r rfl
  constructor
  ·rintro ⟨h0, ⟨rfl, -⟩ | ⟨-, h1, h2, h3, h4⟩⟩
   ·exact absurd rfl hpa
   ·exact ⟨h1, h2, .inr ⟨p, h3, h0, .inl ⟨rfl, h4⟩⟩⟩
  ·rintro ⟨h1, h2, ⟨-, h3⟩ | ⟨k, hk, h4, ⟨rfl, h5⟩ | ⟨-, h5, -⟩⟩⟩
   ·cases h3
   ·exact ⟨h4, .inr ⟨hpa, h1, h2, hk, h5⟩⟩
   ·have := hmin k hk; omega
theorem drop_cons {α : Type} (m : List α) (i : Int) (d : α) (h0 : 0 ≤ i) (h1 : i < m.length) : m.drop i.toNat = m.getD i.toNat d :: m.drop (i + 1).toNat := by
 have hlt : i.toNat < m.length := by omega
 rw [getD_in _ _ _ hlt, show (i + 1).toNat = i.toNat + 1 by omega, List.drop_eq_getElem_cons hlt]
theorem orderT_w1_at {q : Qry} {l : List Evt} (hx : XMk l) (m : List Prs) (hm : m.length ≤ 1000) (a at' last n : Int) (t0 : 0 ≤ at') (t1 : at' ≤ m.length) (n0 : 0 ≤ n) (n1 : n ≤ at') :
  ∃ z, orderT_w1 (l, m, a, at', last, n, q, ()) = some z ∧ ((z = .inl () ∧ ¬ SegO q l a n (last + 1) (m.drop at'.toNat)) ∨ ∃ t2 last2 n2 : Int, z = .inr (l, m, a, t2, last2, n2, q, ()) ∧ 0 ≤ t2 ∧ t2 ≤ m.length ∧ 0 ≤ n2 ∧ (∀ p s r', m.drop t2.toNat = (p, s) :: r' → p ≠ a) ∧ (SegO q l a n (last + 1) (m.drop at'.toNat) ↔ SegO q l a n2 (last2 + 1) (m.drop t2.toNat))) := by
 refine iterO_bt (step := orderT_l1) (fun y => ∃ t2 last2 n2 : Int, y = (l, m, a, t2, last2, n2, q, ()) ∧ 0 ≤ t2 ∧ t2 ≤ m.length ∧ 0 ≤ n2 ∧ n2 ≤ t2 ∧ (SegO q l a n (last + 1) (m.drop at'.toNat) ↔ SegO q l a n2 (last2 + 1) (m.drop t2.toNat))) (fun y => ((m.length : Int) - y.2.2.2.1).toNat) _ ?_ _ ⟨at', last, n, rfl, t0, t1, n0, n1, Iff.rfl⟩
 rintro y ⟨t2, last2, n2, rfl, g0, g1, g2, g3, g4⟩
 unfold orderT_l1
 by_cases ht : t2 < (m.length : Int)
 ·have hd := drop_cons m t2 (0, 0) g0 ht
  refine BT.lt (decide_eq_true ht) (BT.yes (in2 g0 ht) (BT.cond (fun hc => BT.yes (in2 g0 ht) ?_) (fun hc => BT.ends (.inr ⟨t2, last2, n2, rfl, g0, g1, g2, fun p s r' he => ?_, g4⟩))))
  ·have hc : (m.getD t2.toNat (0, 0)).1 = a := by simpa using hc
   obtain ⟨e, h1, h2, h3, h4⟩ := find_idx hx (m.getD t2.toNat (0, 0)).2
   have hw : IntKind.wrap .i64 (t2 + 1) = t2 + 1 := Go.PI.wrap_small (by omega) (by omega)
   have hw' : IntKind.wrap .i64 (n2 + 1) = n2 + 1 := Go.PI.wrap_small (by omega) (by omega)
   have hS : SegO q l a n2 (last2 + 1) (m.drop t2.toNat) ↔ last2 + 1 ≤ idx l (m.getD t2.toNat (0, 0)).2 ∧ SegO q l a (n2 + 1) (idx l (m.getD t2.toNat (0, 0)).2 + 1) (m.drop (t2 + 1).toNat) := by
    rw [hd]
    constructor
    ·rintro ⟨k1, ⟨-, k2⟩ | ⟨k2, -⟩⟩
     ·exact ⟨k1, k2⟩
     ·exact absurd hc k2
    ·rintro ⟨k1, k2⟩
     exact ⟨k1, .inl ⟨hc, k2⟩⟩
   refine BT.opt ⟨_, h1, BT.cond (fun hle => BT.ends (.inl ⟨rfl, fun hh => ?_⟩)) (fun hle => BT.goes ⟨⟨t2 + 1, idx l (m.getD t2.toNat (0, 0)).2, n2 + 1, by rw [hw, hw'], by omega, by omega, by omega, by omega, ?_⟩, ?_⟩)⟩
   ·have hle : idx l (m.getD t2.toNat (0, 0)).2 ≤ last2 := of_decide_eq_true hle
    have := (hS.1 (g4.1 hh)).1
    omega
   ·have hle : ¬ idx l (m.getD t2.toNat (0, 0)).2 ≤ last2 := of_decide_eq_false hle
    rw [g4, hS]
    exact ⟨fun h => h.2, fun h => ⟨by omega, h⟩⟩
   ·dsimp only
    rw [hw]
    omega
  ·have hc : ¬ (m.getD t2.toNat (0, 0)).1 = a := by simpa using hc
   rw [hd] at he
   obtain ⟨e1, -⟩ := List.cons.inj he
   rw [e1] at hc
   exact hc
 ·refine BT.ge (decide_eq_false ht) (BT.ends (.inr ⟨t2, last2, n2, rfl, g0, g1, g2, fun p s r' he => ?_, g4⟩))
  rw [List.drop_eq_nil_of_le (by omega)] at he
  cases he
def OrdG (q : Qry) (l : List Evt) (m : List Prs) (a at' last : Int) : Prop := (a < 0 ∧ m.drop at'.toNat = []) ∨ (0 ≤ a ∧ SegO q l a 0 (last + 1) (m.drop at'.toNat))
theorem orderT_at {q : Qry} (hq : QMk q) {l : List Evt} (hx : XMk l) (m : List Prs) (hm : m.length ≤ 1000) : ∃ b, orderT (q, l, m, ()) = some (b, ()) ∧ (b = true ↔ SegO q l 0 0 0 m) := by
 have hlo := hq.lo
 have hhi := hq.hi
 obtain ⟨k, hk, hkk⟩ := nextT_at q (by omega) (-1) (Int.le_refl _) (by omega)
 have hneg : (q.1.getD (0 : Int).toNat elmZ).2.2.1 = false := by
  cases h : (q.1.getD (0 : Int).toNat elmZ).2.2.1 with
  | false => rfl
  | true => exact absurd ((hq.get 0 (Int.le_refl _) (by omega)).1.2.2.2.2.1 h) (by omega)
 have hk0 : k = 0 := by
  rcases hkk with ⟨-, h⟩ | ⟨h, h'⟩
  ·have := h 0 (by omega) (by omega)
   rw [hneg] at this
   cases this
  ·rcases Int.lt_or_le 0 k with h2 | h2
   ·have := h.2.2.2 0 (by omega) h2
    rw [hneg] at this
    cases this
   ·omega
 subst hk0
 obtain ⟨z, hz, h⟩ : ∃ z, orderT_w0 (l, m, 0, 0, -1, q, ()) = some z ∧ ((z = .inl () ∧ ¬ SegO q l 0 0 0 m) ∨ ∃ t : Int, z = .inr (m, t, ()) ∧ (SegO q l 0 0 0 m ↔ t = m.length)) := by
  refine iterO_bt (step := orderT_l0) (fun y => ∃ a t last : Int, y = (l, m, a, t, last, q, ()) ∧ -1 ≤ a ∧ a < q.1.length ∧ 0 ≤ t ∧ t ≤ m.length ∧ (SegO q l 0 0 0 m ↔ OrdG q l m a t last)) (fun y => if y.2.2.1 < 0 then 0 else ((q.1.length : Int) - y.2.2.1).toNat) _ ?_ _ ⟨0, 0, -1, rfl, by omega, by omega, by omega, by omega, ?_⟩
  ·rintro y ⟨a, t, last, rfl, g0, g1, g2, g3, g4⟩
   unfold orderT_l0
   by_cases ha : a ≥ 0
   ·obtain ⟨z, hz, hc⟩ := orderT_w1_at (q := q) hx m hm a t last 0 g2 g3 (Int.le_refl _) g2
    have hG : SegO q l 0 0 0 m ↔ SegO q l a 0 (last + 1) (m.drop t.toNat) := by
     rw [g4]
     unfold OrdG
     exact ⟨fun h => h.elim (fun h => by omega) fun h => h.2, fun h => .inr ⟨ha, h⟩⟩
    refine BT.lt (decide_eq_true ha) (BT.opt ⟨_, hz, ?_⟩)
    rcases hc with ⟨rfl, hn⟩ | ⟨t2, last2, n2, rfl, k0, k1, k2, k3, k4⟩
    ·exact BT.suml (BT.ends (.inl ⟨rfl, fun h => hn (hG.1 h)⟩))
    ·have hS := (SegO.next (l := l) hq ha g1 k3 (h := n2) (fr := last2 + 1))
     refine BT.sumr (BT.yes (in2 ha g1) (BT.cond (fun hlt => BT.ends (.inl ⟨rfl, fun h => ?_⟩)) (fun hlt => BT.yes (in2 ha g1) (BT.cond (fun hgt => BT.ends (.inl ⟨rfl, fun h => ?_⟩)) (fun hgt => ?_)))))
     ·have hlt : n2 < minI q a := of_decide_eq_true hlt
      have := (hS.1 (k4.1 (hG.1 h))).1
      omega
     ·have hgt : n2 > maxI q a := of_decide_eq_true hgt
      have := (hS.1 (k4.1 (hG.1 h))).2.1
      omega
     ·have hlt : ¬ n2 < minI q a := of_decide_eq_false hlt
      have hgt : ¬ n2 > maxI q a := of_decide_eq_false hgt
      obtain ⟨k, hk, hkk⟩ := nextT_at q (by omega) a g0 g1
      refine BT.opt ⟨_, hk, BT.goes ⟨⟨k, t2, last2, rfl, ?_, ?_, k0, k1, ?_⟩, ?_⟩⟩
      ·rcases hkk with ⟨rfl, -⟩ | ⟨-, h⟩ <;> omega
      ·rcases hkk with ⟨rfl, -⟩ | ⟨h, -⟩
       ·omega
       ·exact h.2.1
      ·rw [hG, k4, hS]
       unfold OrdG
       rcases hkk with ⟨rfl, hno⟩ | ⟨hnx, hk0⟩
       ·constructor
        ·rintro ⟨-, -, ⟨-, h⟩ | ⟨k, h, -⟩⟩
         ·exact .inl ⟨by omega, h⟩
         ·exact (h.no hno).elim
        ·rintro (⟨-, h⟩ | ⟨h, -⟩)
         ·exact ⟨by omega, by omega, .inl ⟨hno, h⟩⟩
         ·omega
       ·constructor
        ·rintro ⟨-, -, ⟨h, -⟩ | ⟨k', h, h'⟩⟩
         ·exact (hnx.no h).elim
         ·rw [hnx.uniq h]
          exact .inr ⟨by have := h.1; omega, h'⟩
        ·rintro (⟨h, -⟩ | ⟨-, h⟩)
         ·omega
         ·exact ⟨by omega, by omega, .inr ⟨k, hnx, h⟩⟩
      ·dsimp only
       rcases hkk with ⟨rfl, -⟩ | ⟨h, h'⟩
       ·rw [if_pos (by omega), if_neg (by omega)]
        omega
       ·have := h.1
        have := h.2.1
        rw [if_neg (by omega), if_neg (by omega)]
        omega
   ·refine BT.ge (decide_eq_false ha) (BT.ends (.inr ⟨t, rfl, ?_⟩))
    rw [g4]
    unfold OrdG
    constructor
    ·rintro (⟨-, h⟩ | ⟨h, -⟩)
     ·have := congrArg List.length h
      simp at this
      omega
     ·omega
    ·intro h
     exact .inl ⟨by omega, List.drop_eq_nil_of_le (by omega)⟩
  ·unfold OrdG
   exact ⟨fun h => .inr ⟨Int.le_refl _, h⟩, fun h => h.elim (fun h => by omega) fun h => h.2⟩
 unfold orderT orderT_B
 simp only [Br.run, hk, hz]
 rcases h with ⟨rfl, h⟩ | ⟨t, rfl, h⟩
 ·exact ⟨false, rfl, ⟨fun e => (by cases e), fun hh => absurd hh h⟩⟩
 ·refine ⟨_, rfl, ?_⟩
  rw [h]
  simp
end Go.Proofs.YtiblijkhpmemeaaGreat

namespace Go.Proofs.YtiblijkhpmemeaaGreat
open Go.PI Go
theorem allPos_iff {q : Qry} {l : List Evt} : ∀ (r pre : List Prs), AllPos q l pre r ↔ ∀ k : Nat, k < r.length → Pos q l (pre ++ r.take k) (r.getD k (0, 0)).1 (r.getD k (0, 0)).2
 | [], pre => ⟨fun _ k hk => by simp at hk, fun _ => trivial⟩
 | (p, s) :: r, pre => by
  show Pos q l pre p s ∧ AllPos q l (pre ++ [(p, s)]) r ↔ _
  rw [allPos_iff r (pre ++ [(p, s)])]
  constructor
  ·rintro ⟨h1, h2⟩ k hk
   cases k with
   | zero => rw [List.take_zero, List.append_nil]; exact h1
   | succ k =>
    have := h2 k (by simpa using hk)
    rw [List.append_assoc] at this
    exact this
  ·intro h
   refine ⟨?_, fun k hk => ?_⟩
   ·have := h 0 (by simp)
    rw [List.take_zero, List.append_nil] at this
    exact this
   ·have := h (k + 1) (by simpa using hk)
    rw [List.append_assoc]
    exact this
theorem SegO.split {q : Qry} {l : List Evt} {p s : Int} {r : List Prs} : ∀ (u : List Prs) {a h fr : Int}, SegO q l a h fr (u ++ (p, s) :: r) → 0 ≤ h → a ≤ p ∧ (a = p → h + 1 ≤ maxI q p) ∧ ∀ x ∈ u, x.1 ≤ p ∧ (x.1 = p → 2 ≤ maxI q p)
 | [], a, h, fr, hs, h0 => by
  obtain ⟨-, ⟨rfl, hs⟩ | ⟨hne, -, -, hn, -⟩⟩ := hs
  ·exact ⟨Int.le_refl _, fun _ => hs.le, fun x hx => by simp at hx⟩
  ·have := hn.1
   exact ⟨by omega, fun e => by omega, fun x hx => by simp at hx⟩
 | (y, t) :: u, a, h, fr, hs, h0 => by
  obtain ⟨-, ⟨rfl, hs⟩ | ⟨hne, -, -, hn, hs⟩⟩ := hs
  ·obtain ⟨h1, h2, h3⟩ := SegO.split u hs (by omega)
   refine ⟨h1, fun e => by have := h2 e; omega, fun x hx => ?_⟩
   rcases List.mem_cons.1 hx with rfl | hx
   ·exact ⟨h1, fun e => by have := h2 e; omega⟩
   ·exact h3 x hx
  ·have hn1 := hn.1
   obtain ⟨h1, h2, h3⟩ := SegO.split u hs (by omega)
   refine ⟨by omega, fun e => by omega, fun x hx => ?_⟩
   rcases List.mem_cons.1 hx with rfl | hx
   ·exact ⟨h1, fun e => by have := h2 e; omega⟩
   ·exact h3 x hx
theorem getD_opt {α : Type} {m : List α} {n : Nat} {d : α} (h : n < m.length) : m[n]?.toList = [m.getD n d] := by rw [List.getElem?_eq_getElem h, getD_in _ _ _ h]; rfl
theorem take_getD_drop {α : Type} (m : List α) (k : Nat) (d : α) (hk : k < m.length) : m = m.take k ++ m.getD k d :: m.drop (k + 1) := by
 rw [getD_in _ _ _ hk, ← List.drop_eq_getElem_cons hk, List.take_append_drop]
section
variable {q : Qry} {l : List Evt} (hq : QMk q) (hx : XMk l)
include hq hx
omit hq in
theorem env_in (pre : List Prs) : EnvIn (pre.filterMap (pick q l)) := fun b hb => ((env_mk hx pre) b hb).good.2
theorem fits20_b (p : Int) (p0 : 0 ≤ p) (p1 : p < q.1.length) (e : Evt) (he : EvMk e) (pre : List Prs) (hpre : pre.length ≤ 50) : ∃ b, fits20 (q.1.getD p.toNat elmZ, e, pre.filterMap (pick q l), ()) = some (b, ()) := by
 have hE := hq.get p p0 p1
 exact fits20_tot _ hE.1.1 hE.1.2.2.2.2.2.1 hE.1.2.2.2.2.2.2 e he.good _ (Nat.le_trans (List.length_filterMap_le ..) (by omega)) (env_in hx pre)
theorem fitsT_I (pre : List Prs) (hpre : pre.length ≤ 50) (p : Int) (p0 : 0 ≤ p) (p1 : p < q.1.length) (j : Int) (j0 : 0 ≤ j) (j1 : j < l.length) (hp : ∀ x ∈ pre, x.1 < p ∨ pick q l x = none) :
  ∃ b, fitsT (sch3, q, l, pre, p, l.getD j.toNat evZ, ()) = some (b, ()) ∧ (b = true ↔ FitsI q l p j (pre.filterMap (pick q l))) := by
 have hlt : j.toNat < l.length := by omega
 have he : EvMk (l.getD j.toNat evZ) := hx.ev _ (by rw [getD_in _ _ _ hlt]; exact List.getElem_mem hlt)
 obtain ⟨b, hb⟩ := fits20_b hq hx p p0 p1 _ he pre hpre
 refine ⟨b, (fitsT_ref hq hx pre hpre p p0 p1 _ he hp).trans hb, ?_⟩
 unfold FitsI
 rw [hb]
 exact ⟨fun h => by rw [h], fun h => by injection h with h; injection h⟩
omit hx in
theorem ord_at {m : List Prs} (hs : SegO q l 0 0 0 m) (k : Nat) (hk : k < m.length) : 0 ≤ (m.getD k (0, 0)).1 ∧ (m.getD k (0, 0)).1 < q.1.length ∧ 0 ≤ idx l (m.getD k (0, 0)).2 ∧ idx l (m.getD k (0, 0)).2 < l.length ∧
  (∀ x ∈ m.take k, x.1 ≤ (m.getD k (0, 0)).1 ∧ (x.1 < (m.getD k (0, 0)).1 ∨ pick q l x = none)) := by
 have hlo := hq.lo
 have hmem : m.getD k (0, 0) ∈ m := by rw [getD_in _ _ _ hk]; exact List.getElem_mem hk
 obtain ⟨h1, h2, h3⟩ := hs.ge _ hmem
 have hA := (idx_some h1).2.1
 have hs' := hs
 rw [take_getD_drop m k (0, 0) hk] at hs'
 obtain ⟨-, -, h4⟩ := SegO.split (p := (m.getD k (0, 0)).1) (s := (m.getD k (0, 0)).2) (m.take k) hs' (Int.le_refl _)
 refine ⟨h2, h3 (Int.le_refl _) (by omega), h1, hA, fun x hx' => ⟨(h4 x hx').1, ?_⟩⟩
 rcases Int.lt_or_le x.1 (m.getD k (0, 0)).1 with h | h
 ·exact .inl h
 ·have he : x.1 = (m.getD k (0, 0)).1 := by have := (h4 x hx').1; omega
  have h5 := (h4 x hx').2 he
  refine .inr ?_
  unfold pick
  split
  ·rw [if_neg]
   rintro ⟨-, -, h6⟩
   rw [he] at h6
   have : maxI q (m.getD k (0, 0)).1 = 1 := h6
   omega
  ·rfl
omit hq hx in
theorem seg_next : ∀ (u : List Prs) {a h fr : Int} {a' s' p s : Int} {r : List Prs}, SegO q l a h fr (u ++ (a', s') :: (p, s) :: r) → a' ≠ p → Nxt q a' p
 | [], a, h, fr, a', s', p, s, r, hs, hne => by
  obtain ⟨-, ⟨rfl, -, hs⟩ | ⟨-, -, -, -, -, hs⟩⟩ := hs <;>
  ·rcases hs with ⟨rfl, -⟩ | ⟨-, -, -, h, -⟩
   ·exact absurd rfl hne
   ·exact h
 | (y, t) :: u, a, h, fr, a', s', p, s, r, hs, hne => by
  obtain ⟨-, ⟨rfl, hs⟩ | ⟨-, -, -, -, hs⟩⟩ := hs
  ·exact seg_next u hs hne
  ·exact seg_next u hs hne
def FreeP (q : Qry) (l : List Evt) (m : List Prs) (k : Nat) : Prop := ∀ a s0, (m.take k).getLast? = some (a, s0) → a ≠ (m.getD k (0, 0)).1 → ∀ j, idx l s0 < j → j < idx l (m.getD k (0, 0)).2 → ∀ u, a < u → u < (m.getD k (0, 0)).1 → ¬ FitsI q l u j ((m.take k).filterMap (pick q l))
theorem freeT_w1_at (m : List Prs) (hm : m.length ≤ 40) (k : Nat) (hk : k ≤ m.length) (fr to u : Int) (f0 : -1 ≤ fr) (f1 : fr < l.length) (t1 : to < l.length) (u0 : 0 ≤ u) (u1 : u < q.1.length) (hp : ∀ x ∈ m.take k, x.1 < u) (L : List Int) (x1 x2 : Int) :
  ∃ z, freeT_w1 (sch3, l, m, (k : Int), fr, to, u, fr + 1, L, x1, x2, q, ()) = some z ∧ ((z = .inl () ∧ ∃ j, fr < j ∧ j < to ∧ FitsI q l u j ((m.take k).filterMap (pick q l))) ∨ (z = .inr (sch3, l, m, (k : Int), fr, to, L, x1, x2, q, ()) ∧ ∀ j, fr < j → j < to → ¬ FitsI q l u j ((m.take k).filterMap (pick q l)))) := by
 have hl := hx.len
 refine iterO_bt (step := freeT_l1) (fun y => ∃ i : Int, y = (sch3, l, m, (k : Int), fr, to, u, i, L, x1, x2, q, ()) ∧ fr < i ∧ ∀ j, fr < j → j < i → ¬ FitsI q l u j ((m.take k).filterMap (pick q l))) (fun y => (to - y.2.2.2.2.2.2.2.1).toNat) _ ?_ _ ⟨fr + 1, rfl, by omega, fun j h h' => by omega⟩
 rintro y ⟨i, rfl, g0, g1⟩
 unfold freeT_l1
 by_cases hi : i < to
 ·have hw : IntKind.wrap .i64 (i + 1) = i + 1 := Go.PI.wrap_small (by omega) (by omega)
  obtain ⟨b, hb, hb2⟩ := fitsT_I hq hx (m.take k) (by rw [List.length_take]; omega) u u0 u1 i (by omega) (by omega) (fun x h => .inl (hp x h))
  have hkk : (decide ((0 : Int) ≤ 0) && decide (0 ≤ (k : Int)) && decide ((k : Int) ≤ (m.length : Int))) = true := by simp; omega
  have hb' : fitsT (sch3, q, l, List.drop (Int.toNat 0) (List.take (Int.toNat (k : Int)) m), u, l.getD i.toNat evZ, ()) = some (b, ()) := hb
  refine BT.lt (decide_eq_true hi) (BT.yes hkk (BT.yes (in2 (by omega) (by omega)) (BT.opt ⟨_, hb', BT.cond (fun hc => BT.ends (.inl ⟨rfl, i, g0, hi, hb2.1 hc⟩)) (fun hc => BT.goes ⟨⟨i + 1, by rw [hw], by omega, fun j j0 j1 => ?_⟩, ?_⟩)⟩)))
  ·by_cases hj : j = i
   ·subst hj
    exact fun h => by
     have := hb2.2 h
     rw [show b = false from hc] at this
     cases this
   ·exact g1 j j0 (by omega)
  ·dsimp only
   rw [hw]
   omega
 ·exact BT.ge (decide_eq_false hi) (BT.ends (.inr ⟨rfl, fun j j0 j1 => g1 j j0 (by omega)⟩))
theorem freeT_at {m : List Prs} (hm : m.length ≤ 40) (hs : SegO q l 0 0 0 m) (k : Nat) (hk0 : 0 < k) (hk : k < m.length) : ∃ b, freeT (sch3, q, l, m, (k : Int), ()) = some (b, ()) ∧ (b = true ↔ FreeP q l m k) := by
 have hhi := hq.hi
 have hlx := hx.len
 obtain ⟨n, rfl⟩ : ∃ n, k = n + 1 := ⟨k - 1, by omega⟩
 have hn : n < m.length := by omega
 have hw : IntKind.wrap .i64 (((n + 1 : Nat) : Int) - 1) = (n : Int) := by rw [Go.PI.wrap_small (by omega) (by omega)]; omega
 have hlast : (m.take (n + 1)).getLast? = some (m.getD n (0, 0)) := by
  rw [List.getLast?_eq_getElem?, List.length_take, getD_in _ _ _ hn, List.getElem?_take, if_pos (by omega), Nat.min_eq_left (by omega)]
  exact List.getElem?_eq_getElem hn
 obtain ⟨a0, a1, ai0, ai1, -⟩ := ord_at hq hs n hn
 obtain ⟨p0, p1, pi0, pi1, hpre⟩ := ord_at hq hs (n + 1) hk
 unfold freeT freeT_B
 dsimp only
 rw [hw]
 have e1 : (((n + 1 : Nat) : Int)).toNat = n + 1 := by omega
 have e2 : ((n : Int)).toNat = n := by omega
 by_cases heq : (m.getD (n + 1) (0, 0)).1 = (m.getD n (0, 0)).1
 ·refine ⟨true, ?_, fun _ a s0 h hne => ?_, fun _ => rfl⟩
  ·have c1 : (decide (0 ≤ ((n + 1 : Nat) : Int)) && decide (((n + 1 : Nat) : Int) < (m.length : Int))) = true := in2 (by omega) (by omega)
   have c2 : (decide (0 ≤ (n : Int)) && decide ((n : Int) < (m.length : Int))) = true := in2 (by omega) (by omega)
   have c3 : ((m.getD (n + 1) (0, 0)).1 == (m.getD n (0, 0)).1) = true := beq_iff_eq.2 heq
   simp only [Br.run, c1, c2, e1, e2, c3, cond_true]
  ·rw [hlast] at h
   obtain h := Option.some.inj h
   rw [h] at heq
   exact absurd heq.symm hne
 ·have hsp : SegO q l 0 0 0 (m.take n ++ ((m.getD n (0, 0)).1, (m.getD n (0, 0)).2) :: ((m.getD (n + 1) (0, 0)).1, (m.getD (n + 1) (0, 0)).2) :: m.drop (n + 2)) := by
   have h1 := take_getD_drop m n (0, 0) hn
   have h2 : m.drop (n + 1) = m.getD (n + 1) (0, 0) :: m.drop (n + 2) := by rw [getD_in _ _ _ hk]; exact List.drop_eq_getElem_cons hk
   rw [h2] at h1
   rw [h1] at hs
   exact hs
  have hN := seg_next (m.take n) hsp (fun e => heq e.symm)
  obtain ⟨L, hL, hL2, hL3⟩ := betwT_at q (by omega) _ _ a0 a1 hN
  obtain ⟨ea, fa, -, -, -⟩ := find_idx hx (m.getD n (0, 0)).2
  obtain ⟨ep, fp, -, -, -⟩ := find_idx hx (m.getD (n + 1) (0, 0)).2
  obtain ⟨z, hz, h⟩ : ∃ z, freeT_w0 (sch3, l, m, ((n + 1 : Nat) : Int), idx l (m.getD n (0, 0)).2, idx l (m.getD (n + 1) (0, 0)).2, L, (L.length : Int), 0, q, ()) = some z ∧ ((z = .inl () ∧ ¬ FreeP q l m (n + 1)) ∨ (z = .inr () ∧ FreeP q l m (n + 1))) := by
   refine iterO_bt (step := freeT_l0) (fun y => ∃ i : Int, y = (sch3, l, m, ((n + 1 : Nat) : Int), idx l (m.getD n (0, 0)).2, idx l (m.getD (n + 1) (0, 0)).2, L, (L.length : Int), i, q, ()) ∧ 0 ≤ i ∧ i ≤ L.length ∧ ∀ t : Nat, (t : Int) < i → ∀ j, idx l (m.getD n (0, 0)).2 < j → j < idx l (m.getD (n + 1) (0, 0)).2 → ¬ FitsI q l (L.getD t 0) j ((m.take (n + 1)).filterMap (pick q l))) (fun y => ((L.length : Int) - y.2.2.2.2.2.2.2.2.1).toNat) _ ?_ _ ⟨0, rfl, Int.le_refl _, by omega, fun t h => by omega⟩
   rintro y ⟨i, rfl, g0, g1, g2⟩
   unfold freeT_l0
   by_cases hi : i < (L.length : Int)
   ·have hw' : IntKind.wrap .i64 (i + 1) = i + 1 := Go.PI.wrap_small (by omega) (by omega)
    have hw2 : IntKind.wrap .i64 (idx l (m.getD n (0, 0)).2 + 1) = idx l (m.getD n (0, 0)).2 + 1 := Go.PI.wrap_small (by omega) (by omega)
    have hlt : i.toNat < L.length := by omega
    have hu := (hL2 (L.getD i.toNat 0)).1 (by rw [getD_in _ _ _ hlt]; exact List.getElem_mem hlt)
    obtain ⟨z, hz, hc⟩ := freeT_w1_at hq hx m hm (n + 1) (by omega) (idx l (m.getD n (0, 0)).2) (idx l (m.getD (n + 1) (0, 0)).2) (L.getD i.toNat 0) (by omega) ai1 pi1 (by omega) (by omega) (fun x hx' => by
     rw [List.take_add_one, getD_opt (d := ((0, 0) : Prs)) hn] at hx'
     rcases List.mem_append.1 hx' with h | h
     ·have := (ord_at hq hs n hn).2.2.2.2 x h
      omega
     ·obtain rfl := List.mem_singleton.1 h
      omega) L (L.length : Int) i
    refine BT.lt (decide_eq_true hi) (BT.yes (in2 g0 hi) (BT.opt ⟨z, by rw [hw2]; exact hz, ?_⟩))
    rcases hc with ⟨rfl, j, j0, j1, hj⟩ | ⟨rfl, hno⟩
    ·exact BT.suml (BT.ends (.inl ⟨rfl, fun hF => hF _ _ hlast (fun e => heq e.symm) j j0 j1 _ hu.1 hu.2 hj⟩))
    ·refine BT.sumr (BT.goes ⟨⟨i + 1, by rw [hw'], by omega, by omega, fun t ht j j0 j1 => ?_⟩, ?_⟩)
     ·by_cases hti : (t : Int) = i
      ·have : t = i.toNat := by omega
       subst this
       exact hno j j0 j1
      ·exact g2 t (by omega) j j0 j1
     ·dsimp only
      rw [hw']
      omega
   ·refine BT.ge (decide_eq_false hi) (BT.ends (.inr ⟨rfl, fun a s0 h hne j j0 j1 u u0 u1 => ?_⟩))
    rw [hlast] at h
    have h := Option.some.inj h
    rw [h] at hL2 g2
    obtain ⟨t, ht, he⟩ := List.getElem_of_mem ((hL2 u).2 ⟨u0, u1⟩)
    have := g2 t (by omega) j j0 j1
    rw [getD_in _ _ _ ht, he] at this
    exact this
  have c1 : (decide (0 ≤ ((n + 1 : Nat) : Int)) && decide (((n + 1 : Nat) : Int) < (m.length : Int))) = true := in2 (by omega) (by omega)
  have c2 : (decide (0 ≤ (n : Int)) && decide ((n : Int) < (m.length : Int))) = true := in2 (by omega) (by omega)
  have c3 : ((m.getD (n + 1) (0, 0)).1 == (m.getD n (0, 0)).1) = false := beq_eq_false_iff_ne.2 heq
  simp only [Br.run, c1, c2, e1, e2, c3, cond_true, cond_false, fa, fp, hL, hz]
  rcases h with ⟨rfl, h⟩ | ⟨rfl, h⟩
  ·exact ⟨false, rfl, ⟨fun e => (by cases e), fun hh => absurd hh h⟩⟩
  ·exact ⟨true, rfl, ⟨fun _ => h, fun _ => rfl⟩⟩
end
end Go.Proofs.YtiblijkhpmemeaaGreat

namespace Go.Proofs.YtiblijkhpmemeaaGreat
open Go.PI Go
section
variable {q : Qry} {l : List Evt} (hq : QMk q) (hx : XMk l)
include hq hx
omit hq hx in
theorem pos_iff {m : List Prs} (k : Nat) (hk : k < m.length) (b : Bool) (hb : b = true ↔ FitsI q l (m.getD k (0, 0)).1 (idx l (m.getD k (0, 0)).2) ((m.take k).filterMap (pick q l))) : Pos q l (m.take k) (m.getD k (0, 0)).1 (m.getD k (0, 0)).2 ↔ b = true ∧ FreeP q l m k := by
 unfold Pos FreeP
 rw [hb]
theorem fit_at {m : List Prs} (hm : m.length ≤ 40) (hs : SegO q l 0 0 0 m) (k : Nat) (hk : k < m.length) : ∃ (e : Evt) (b : Bool), findT (l, (m.getD k (0, 0)).2, ()) = some ((e, idx l (m.getD k (0, 0)).2), ()) ∧
  fitsT (sch3, q, l, m.take k, (m.getD k (0, 0)).1, e, ()) = some (b, ()) ∧ (b = true ↔ FitsI q l (m.getD k (0, 0)).1 (idx l (m.getD k (0, 0)).2) ((m.take k).filterMap (pick q l))) := by
 obtain ⟨p0, p1, i0, i1, hpre⟩ := ord_at hq hs k hk
 obtain ⟨e, h1, -, -, h2⟩ := find_idx hx (m.getD k (0, 0)).2
 obtain rfl := h2 i0
 obtain ⟨b, hb, hb2⟩ := fitsT_I hq hx (m.take k) (by rw [List.length_take]; omega) _ p0 p1 _ i0 i1 (fun x h => (hpre x h).2)
 exact ⟨_, b, h1, hb, hb2⟩
omit hq hx in
theorem free0 (m : List Prs) : FreeP q l m 0 := fun a s0 h => by simp at h
theorem matchT_w0_at {m : List Prs} (hm : m.length ≤ 40) (hs : SegO q l 0 0 0 m) :
  ∃ z, matchT_w0 (sch3, l, m, m, (m.length : Int), 0, q, ()) = some z ∧ ((z = .inl () ∧ ¬ AllPos q l [] m) ∨ (z = .inr (l, m, q, ()) ∧ AllPos q l [] m)) := by
 have hA := allPos_iff (q := q) (l := l) m []
 refine iterO_bt (step := matchT_l0) (fun y => ∃ i : Int, y = (sch3, l, m, m, (m.length : Int), i, q, ()) ∧ 0 ≤ i ∧ i ≤ m.length ∧ ∀ k : Nat, (k : Int) < i → Pos q l (m.take k) (m.getD k (0, 0)).1 (m.getD k (0, 0)).2) (fun y => ((m.length : Int) - y.2.2.2.2.2.1).toNat) _ ?_ _ ⟨0, rfl, Int.le_refl _, by omega, fun t h => by omega⟩
 rintro y ⟨i, rfl, g0, g1, g2⟩
 unfold matchT_l0
 by_cases hi : i < (m.length : Int)
 ·obtain ⟨k, rfl⟩ : ∃ k : Nat, i = (k : Int) := ⟨i.toNat, by omega⟩
  have hk : k < m.length := by omega
  have hw : IntKind.wrap .i64 ((k : Int) + 1) = (k : Int) + 1 := Go.PI.wrap_small (by omega) (by omega)
  obtain ⟨e, b, h1, h2, h3⟩ := fit_at hq hx hm hs k hk
  have hP := pos_iff k hk b h3
  have hkk : (decide ((0 : Int) ≤ 0) && decide (0 ≤ (k : Int)) && decide ((k : Int) ≤ (m.length : Int))) = true := by simp; omega
  have nxt : FreeP q l m k → b = true → ∀ k' : Nat, (k' : Int) < (k : Int) + 1 → Pos q l (m.take k') (m.getD k' (0, 0)).1 (m.getD k' (0, 0)).2 := fun hF hb k' hk' => by
   by_cases e : k' = k
   ·subst e; exact hP.2 ⟨hb, hF⟩
   ·exact g2 k' (by omega)
  have bad : ¬ Pos q l (m.take k) (m.getD k (0, 0)).1 (m.getD k (0, 0)).2 → ¬ AllPos q l [] m := fun hn hh => hn (hA.1 hh k hk)
  refine BT.lt (decide_eq_true hi) (BT.yes (in2 g0 hi) (BT.opt ⟨_, h1, BT.yes hkk (BT.opt ⟨_, h2, BT.cond (fun hc => BT.ends (.inl ⟨rfl, bad fun hh => ?_⟩)) (fun hc => BT.cond (fun hk0 => ?_) (fun hk0 => BT.goes ⟨⟨(k : Int) + 1, by rw [hw], by omega, by omega, nxt ?_ (by simpa using hc)⟩, ?_⟩))⟩)⟩))
  ·have := (hP.1 hh).1
   rw [this] at hc
   cases hc
  ·have hk0 : (k : Int) > 0 := of_decide_eq_true hk0
   obtain ⟨c, hc1, hc2⟩ := freeT_at hq hx hm hs k (by omega) hk
   refine BT.opt ⟨_, hc1, BT.cond (fun hcf => BT.ends (.inl ⟨rfl, bad fun hh => ?_⟩)) (fun hcf => BT.goes ⟨⟨(k : Int) + 1, by rw [hw], by omega, by omega, nxt (hc2.1 (by simpa using hcf)) (by simpa using hc)⟩, ?_⟩)⟩
   ·have := hc2.2 (hP.1 hh).2
    rw [this] at hcf
    cases hcf
   ·dsimp only
    rw [hw]
    omega
  ·have hk0 : ¬ (k : Int) > 0 := of_decide_eq_false hk0
   have : k = 0 := by omega
   subst this
   exact free0 m
  ·dsimp only
   rw [hw]
   omega
 ·refine BT.ge (decide_eq_false hi) (BT.ends (.inr ⟨rfl, hA.2 fun k hk => g2 k (by omega)⟩))
omit hq in
theorem time_le {i j : Int} (i0 : 0 ≤ i) (hij : i ≤ j) (hj : j < l.length) : timI l i ≤ timI l j ∧ 0 ≤ timI l i ∧ timI l j ≤ 15 := by
 have hi : i.toNat < l.length := by omega
 have hj' : j.toNat < l.length := by omega
 have h1 := hx.tm (l.getD i.toNat evZ) (by rw [getD_in _ _ _ hi]; exact List.getElem_mem hi)
 have h2 := hx.tm (l.getD j.toNat evZ) (by rw [getD_in _ _ _ hj']; exact List.getElem_mem hj')
 refine ⟨?_, h1.1, h2.2⟩
 rcases Int.lt_or_le i j with h | h
 ·have := List.pairwise_iff_getElem.1 hx.so i.toNat j.toNat hi hj' (by omega)
  show (l.getD i.toNat evZ).2.2.1 ≤ (l.getD j.toNat evZ).2.2.1
  rw [getD_in _ _ _ hi, getD_in _ _ _ hj']
  unfold leE at this
  omega
 ·have : i = j := by omega
  subst this
  exact Int.le_refl _
omit hq hx in
theorem timeT_at (t : Int) (h0 : 0 ≤ t) (h1 : t ≤ 15) : timeT (t, ()) = some (true, ()) := by
 unfold timeT timeT_B
 simp only [Br.run, decide_eq_true (show t ≥ 0 from h0), cond_true]
 rw [decide_eq_true (by omega)]
omit hq hx in
theorem withinT_at (a b w : Int) (h0 : 0 ≤ a) (h1 : a ≤ b) (h2 : b ≤ 15) : ∃ W, withinT (a, b, w, ()) = some (W, ()) ∧ (W = true ↔ b - a ≤ w) := by
 have hwr : IntKind.wrap .i64 (b - a) = b - a := Go.PI.wrap_small (by omega) (by omega)
 unfold withinT withinT_B
 simp only [Br.run, timeT_at a h0 (by omega), timeT_at b (by omega) h2, decide_eq_true h1, cond_true, hwr]
 exact ⟨_, rfl, by simp⟩
theorem matchT_at {m : List Prs} (hm : m.length ≤ 40) : ∃ b, matchT (sch3, q, l, m, ()) = some (b, ()) ∧ (b = true ↔ FA q l m) := by
 have hF := fa_iff hq.good (by have := hq.w0; omega) hx.ne m
 unfold matchT matchT_B
 cases m with
 | nil =>
  refine ⟨false, rfl, fun e => (by cases e), fun h => ?_⟩
  obtain ⟨p, s, r, h, -⟩ := hF.1 h
  cases h
 | cons y r =>
  have hm0 : ((((y :: r : List Prs).length : Nat) : Int) == 0) = false := beq_eq_false_iff_ne.2 (by simp; omega)
  obtain ⟨b, hb, hb2⟩ := orderT_at hq hx (y :: r) (by omega)
  suffices h : BT (fun z => ∃ c, z = (c, ()) ∧ (c = true ↔ FA q l (y :: r))) (matchT_B (sch3, q, l, y :: r, ())) by
   obtain ⟨z, hz, c, rfl, hc⟩ := h
   exact ⟨c, hz, hc⟩
  unfold matchT_B
  refine BT.ge hm0 (BT.opt ⟨_, hb, BT.cond (fun hc => BT.ret ⟨false, rfl, fun e => (by cases e), fun h => ?_⟩) (fun hc => ?_)⟩)
  ·obtain ⟨p, s, r', h, h1, -⟩ := hF.1 h
   have := hb2.2 h1
   rw [show b = true from this] at hc
   cases hc
  ·have hs := hb2.1 (by simpa using hc)
   obtain ⟨z, hz, h⟩ := matchT_w0_at hq hx hm hs
   refine BT.opt ⟨_, hz, ?_⟩
   rcases h with ⟨rfl, hno⟩ | ⟨rfl, hA⟩
   ·refine BT.suml (BT.ret ⟨false, rfl, fun e => (by cases e), fun h => ?_⟩)
    obtain ⟨p, s, r', h, -, h2, -⟩ := hF.1 h
    exact absurd h2 hno
   ·have hl0 : (0 : Int) < (((y :: r : List Prs).length : Nat) : Int) := by simp only [List.length_cons]; omega
    have hwl : IntKind.wrap .i64 ((((y :: r : List Prs).length : Nat) : Int) - 1) = (r.length : Int) := by
     rw [show (((y :: r : List Prs).length : Nat) : Int) - 1 = (r.length : Int) by simp]
     exact Go.PI.wrap_small (by omega) (by simp at hm; omega)
    obtain ⟨p0, p1, i0, i1, -⟩ := ord_at hq hs 0 (by simp)
    obtain ⟨z0, z1, j0, j1, -⟩ := ord_at hq hs r.length (by simp)
    obtain ⟨e, f1, -, -, f2⟩ := find_idx hx ((y :: r : List Prs).getD 0 (0, 0)).2
    obtain ⟨e', f1', -, -, f2'⟩ := find_idx hx ((y :: r : List Prs).getD r.length (0, 0)).2
    obtain rfl := f2 i0
    obtain rfl := f2' j0
    have hge : ∀ x ∈ (y :: r : List Prs), idx l x.2 ≤ idx l ((y :: r : List Prs).getD r.length (0, 0)).2 := fun x hx' => hs.last (z := (y :: r : List Prs).getD r.length (0, 0)) (by
     rw [List.getLast?_eq_getElem?, getD_in _ _ _ (by simp : r.length < (y :: r : List Prs).length)]
     exact List.getElem?_eq_getElem (by simp)) x hx'
    have h0n : idx l ((y :: r : List Prs).getD 0 (0, 0)).2 ≤ idx l ((y :: r : List Prs).getD r.length (0, 0)).2 := hge _ (List.mem_cons_self ..)
    have ht := time_le hx i0 h0n j1
    have hy : (y :: r : List Prs).getD 0 (0, 0) = y := rfl
    obtain ⟨W, hwin, hW⟩ := withinT_at (timI l (idx l ((y :: r : List Prs).getD 0 (0, 0)).2)) (timI l (idx l ((y :: r : List Prs).getD r.length (0, 0)).2)) q.2.1 ht.2.1 ht.1 ht.2.2
    have f1'' : findT (l, ((y :: r : List Prs).getD (Int.toNat (IntKind.wrap .i64 ((((y :: r : List Prs).length : Nat) : Int) - 1))) (0, 0)).2, ()) = some ((l.getD (idx l ((y :: r : List Prs).getD r.length (0, 0)).2).toNat evZ, idx l ((y :: r : List Prs).getD r.length (0, 0)).2), ()) := by rw [hwl]; exact f1'
    refine BT.sumr (BT.yes (in2 (Int.le_refl _) hl0) (BT.opt ⟨_, f1, BT.yes ?_ (BT.opt ⟨_, f1'', BT.opt ⟨_, hwin, BT.ret ⟨W, rfl, ?_⟩⟩⟩)⟩))
    ·rw [hwl]
     exact in2 (by omega) (by simp only [List.length_cons]; omega)
    ·rw [hW, hF]
     constructor
     ·intro h
      rw [hy] at h
      refine ⟨y.1, y.2, r, rfl, hs, hA, fun x hx' => ?_⟩
      have hx0 := (hs.ge x hx').1
      have := time_le hx hx0 (hge x hx') j1
      omega
     ·rintro ⟨p, s, r', he, -, -, h⟩
      obtain ⟨rfl, rfl⟩ := List.cons.inj he
      have hlt : r.length < ((p, s) :: r : List Prs).length := by simp
      exact h _ (by rw [getD_in _ _ _ hlt]; exact List.getElem_mem hlt)
end
end Go.Proofs.YtiblijkhpmemeaaGreat
