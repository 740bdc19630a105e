/- What truth's order and find tell: elements and events in order. What truth's Match and Why tell: a match is one of all that are found element by element. Truth's Match and Why: what comes is a match just where it is one of all that are found element by element. -/
import Derived.Test.YtiblijkhpmemeaaGreatHl
import Derived.Test.YtiblijkhpmemeaaGreatT1
namespace Go.Proofs.YtiblijkhpmemeaaGreat
open Go.PI Go
theorem find_idx {l : List Evt} (hx : XMk l) (s : Int) : ∃ e, findT (l, s, ()) = some ((e, idx l s), ()) ∧ -1 ≤ idx l s ∧ idx l s < l.length ∧ (0 ≤ idx l s → e = l.getD (idx l s).toNat evZ) := by
 have hl := hx.len
 obtain ⟨e, i, h1, h2⟩ := findT_at l (by omega) s
 rcases h2 with ⟨rfl, h3⟩ | ⟨i0, i1, he, h3⟩
 ·have hn : idx l s = -1 := idx_none fun ⟨i, hi⟩ => by rw [hi.ev hx.ne] at h3; cases h3
  rw [hn]
  exact ⟨e, h1, by omega, by omega, fun h => by omega⟩
 ·have hA : At l s i := ⟨i0, i1, by have := (evOf_some h3).2; rw [he] at this; exact this⟩
  have hi := hA.idx hx.ne
  rw [hi]
  exact ⟨e, h1, by omega, i1, fun _ => he⟩
theorem SegO.next {q : Qry} {l : List Evt} (hq : QMk q) {a h fr : Int} (a0 : 0 ≤ a) (a1 : a < q.1.length) {r : List Prs} (hr : ∀ p s r', r = (p, s) :: r' → p ≠ a) : SegO q l a h fr r ↔ minI q a ≤ h ∧ h ≤ maxI q a ∧ ((NoNxt q a ∧ r = []) ∨ ∃ k, Nxt q a k ∧ SegO q l k 0 fr r) := by
 have hmin : ∀ k, Nxt q a k → 1 ≤ minI q k := fun k hk => (hq.get k (by have := hk.1; omega) hk.2.1).1.2.1
 cases r with
 | nil =>
  constructor
  ·rintro ⟨h1, h2, h3⟩
   exact ⟨h1, h2, .inl ⟨h3, rfl⟩⟩
  ·rintro ⟨h1, h2, ⟨h3, -⟩ | ⟨k, hk, h4, -⟩⟩
   ·exact ⟨h1, h2, h3⟩
   ·have := hmin k hk; omega
 | cons y r =>
  obtain ⟨p, s⟩ := y
  have hpa := hr p s r rfl
  constructor
  ·rintro ⟨h0, ⟨rfl, -⟩ | ⟨-, h1, h2, h3, h4⟩⟩
   ·exact absurd rfl hpa
   ·exact ⟨h1, h2, .inr ⟨p, h3, h0, .inl ⟨rfl, h4⟩⟩⟩
  ·rintro ⟨h1, h2, ⟨-, h3⟩ | ⟨k, hk, h4, ⟨rfl, h5⟩ | ⟨-, h5, -⟩⟩⟩
   ·cases h3
   ·exact ⟨h4, .inr ⟨hpa, h1, h2, hk, h5⟩⟩
   ·have := hmin k hk; omega
end Go.Proofs.YtiblijkhpmemeaaGreat

namespace Go.Proofs.YtiblijkhpmemeaaGreat
open Go.PI Go
theorem allPos_iff {q : Qry} {l : List Evt} : ∀ (r pre : List Prs), AllPos q l pre r ↔ ∀ k : Nat, k < r.length → Pos q l (pre ++ r.take k) (r.getD k (0, 0)).1 (r.getD k (0, 0)).2
 | [], pre => ⟨fun _ k hk => by simp at hk, fun _ => trivial⟩
 | (p, s) :: r, pre => by
  show Pos q l pre p s ∧ AllPos q l (pre ++ [(p, s)]) r ↔ _
  rw [allPos_iff r (pre ++ [(p, s)])]
  constructor
  ·rintro ⟨h1, h2⟩ k hk
   cases k with
   | zero => rw [List.take_zero, List.append_nil]; exact h1
   | succ k =>
    have := h2 k (by simpa using hk)
    rw [List.append_assoc] at this
    exact this
  ·intro h
   refine ⟨?_, fun k hk => ?_⟩
   ·have := h 0 (by simp)
    rw [List.take_zero, List.append_nil] at this
    exact this
   ·have := h (k + 1) (by simpa using hk)
    rw [List.append_assoc]
    exact this
theorem SegO.split {q : Qry} {l : List Evt} {p s : Int} {r : List Prs} : ∀ (u : List Prs) {a h fr : Int}, SegO q l a h fr (u ++ (p, s) :: r) → 0 ≤ h → a ≤ p ∧ (a = p → h + 1 ≤ maxI q p) ∧ ∀ x ∈ u, x.1 ≤ p ∧ (x.1 = p → 2 ≤ maxI q p)
 | [], a, h, fr, hs, h0 => by
  obtain ⟨-, ⟨rfl, hs⟩ | ⟨hne, -, -, hn, -⟩⟩ := hs
  ·exact ⟨Int.le_refl _, fun _ => hs.le, fun x hx => by simp at hx⟩
  ·have := hn.1
   exact ⟨by omega, fun e => by omega, fun x hx => by simp at hx⟩
 | (y, t) :: u, a, h, fr, hs, h0 => by
  obtain ⟨-, ⟨rfl, hs⟩ | ⟨hne, -, -, hn, hs⟩⟩ := hs
  ·obtain ⟨h1, h2, h3⟩ := SegO.split u hs (by omega)
   refine ⟨h1, fun e => by have := h2 e; omega, fun x hx => ?_⟩
   rcases List.mem_cons.1 hx with rfl | hx
   ·exact ⟨h1, fun e => by have := h2 e; omega⟩
   ·exact h3 x hx
  ·have hn1 := hn.1
   obtain ⟨h1, h2, h3⟩ := SegO.split u hs (by omega)
   refine ⟨by omega, fun e => by omega, fun x hx => ?_⟩
   rcases List.mem_cons.1 hx with rfl | hx
   ·exact ⟨h1, fun e => by have := h2 e; omega⟩
   ·exact h3 x hx
theorem getD_opt {α : Type} {m : List α} {n : Nat} {d : α} (h : n < m.length) : m[n]?.toList = [m.getD n d] := by rw [List.getElem?_eq_getElem h, getD_in _ _ _ h]; rfl
theorem take_getD_drop {α : Type} (m : List α) (k : Nat) (d : α) (hk : k < m.length) : m = m.take k ++ m.getD k d :: m.drop (k + 1) := by
 rw [getD_in _ _ _ hk, ← List.drop_eq_getElem_cons hk, List.take_append_drop]
section
variable {q : Qry} {l : List Evt} (hq : QMk q) (hx : XMk l)
include hq hx
omit hq in
theorem env_in (pre : List Prs) : EnvIn (pre.filterMap (pick q l)) := fun b hb => ((env_mk hx pre) b hb).good.2
theorem fits20_b (p : Int) (p0 : 0 ≤ p) (p1 : p < q.1.length) (e : Evt) (he : EvMk e) (pre : List Prs) (hpre : pre.length ≤ 50) : ∃ b, fits20 (q.1.getD p.toNat elmZ, e, pre.filterMap (pick q l), ()) = some (b, ()) := by
 have hE := hq.get p p0 p1
 exact fits20_tot _ hE.1.1 hE.1.2.2.2.2.2.1 hE.1.2.2.2.2.2.2 e he.good _ (Nat.le_trans (List.length_filterMap_le ..) (by omega)) (env_in hx pre)
theorem fitsT_I (pre : List Prs) (hpre : pre.length ≤ 50) (p : Int) (p0 : 0 ≤ p) (p1 : p < q.1.length) (j : Int) (j0 : 0 ≤ j) (j1 : j < l.length) (hp : ∀ x ∈ pre, x.1 < p ∨ pick q l x = none) :
  ∃ b, fitsT (sch3, q, l, pre, p, l.getD j.toNat evZ, ()) = some (b, ()) ∧ (b = true ↔ FitsI q l p j (pre.filterMap (pick q l))) := by
 have hlt : j.toNat < l.length := by omega
 have he : EvMk (l.getD j.toNat evZ) := hx.ev _ (by rw [getD_in _ _ _ hlt]; exact List.getElem_mem hlt)
 obtain ⟨b, hb⟩ := fits20_b hq hx p p0 p1 _ he pre hpre
 refine ⟨b, (fitsT_ref hq hx pre hpre p p0 p1 _ he hp).trans hb, ?_⟩
 unfold FitsI
 rw [hb]
 exact ⟨fun h => by rw [h], fun h => by injection h with h; injection h⟩
omit hx in
theorem ord_at {m : List Prs} (hs : SegO q l 0 0 0 m) (k : Nat) (hk : k < m.length) : 0 ≤ (m.getD k (0, 0)).1 ∧ (m.getD k (0, 0)).1 < q.1.length ∧ 0 ≤ idx l (m.getD k (0, 0)).2 ∧ idx l (m.getD k (0, 0)).2 < l.length ∧
  (∀ x ∈ m.take k, x.1 ≤ (m.getD k (0, 0)).1 ∧ (x.1 < (m.getD k (0, 0)).1 ∨ pick q l x = none)) := by
 have hlo := hq.lo
 have hmem : m.getD k (0, 0) ∈ m := by rw [getD_in _ _ _ hk]; exact List.getElem_mem hk
 obtain ⟨h1, h2, h3⟩ := hs.ge _ hmem
 have hA := (idx_some h1).2.1
 have hs' := hs
 rw [take_getD_drop m k (0, 0) hk] at hs'
 obtain ⟨-, -, h4⟩ := SegO.split (p := (m.getD k (0, 0)).1) (s := (m.getD k (0, 0)).2) (m.take k) hs' (Int.le_refl _)
 refine ⟨h2, h3 (Int.le_refl _) (by omega), h1, hA, fun x hx' => ⟨(h4 x hx').1, ?_⟩⟩
 rcases Int.lt_or_le x.1 (m.getD k (0, 0)).1 with h | h
 ·exact .inl h
 ·have he : x.1 = (m.getD k (0, 0)).1 := by have := (h4 x hx').1; omega
  have h5 := (h4 x hx').2 he
  refine .inr ?_
  unfold pick
  split
  ·rw [if_neg]
   rintro ⟨-, -, h6⟩
   rw [he] at h6
   have : maxI q (m.getD k (0, 0)).1 = 1 := h6
   omega
  ·rfl
end
end Go.Proofs.YtiblijkhpmemeaaGreat

namespace Go.Proofs.YtiblijkhpmemeaaGreat
open Go.PI Go
section
variable {q : Qry} {l : List Evt} (hq : QMk q) (hx : XMk l)
include hq hx
theorem fit_at {m : List Prs} (hm : m.length ≤ 40) (hs : SegO q l 0 0 0 m) (k : Nat) (hk : k < m.length) : ∃ (e : Evt) (b : Bool), findT (l, (m.getD k (0, 0)).2, ()) = some ((e, idx l (m.getD k (0, 0)).2), ()) ∧
  fitsT (sch3, q, l, m.take k, (m.getD k (0, 0)).1, e, ()) = some (b, ()) ∧ (b = true ↔ FitsI q l (m.getD k (0, 0)).1 (idx l (m.getD k (0, 0)).2) ((m.take k).filterMap (pick q l))) := by
 obtain ⟨p0, p1, i0, i1, hpre⟩ := ord_at hq hs k hk
 obtain ⟨e, h1, -, -, h2⟩ := find_idx hx (m.getD k (0, 0)).2
 obtain rfl := h2 i0
 obtain ⟨b, hb, hb2⟩ := fitsT_I hq hx (m.take k) (by rw [List.length_take]; omega) _ p0 p1 _ i0 i1 (fun x h => (hpre x h).2)
 exact ⟨_, b, h1, hb, hb2⟩
end
end Go.Proofs.YtiblijkhpmemeaaGreat
