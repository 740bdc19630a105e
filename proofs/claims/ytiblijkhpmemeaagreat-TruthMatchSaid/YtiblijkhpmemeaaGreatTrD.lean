/- Truth's Match and Why: what comes is a match just where it is one of all that are found element by element. -/
import Derived.Test.YtiblijkhpmemeaaGreatHm
namespace Go.Proofs.YtiblijkhpmemeaaGreat
open Go.PI Go
section
variable {q : Qry} {l : List Evt} (hq : QMk q) (hx : XMk l)
include hq hx
omit hq hx in
theorem pos_iff {m : List Prs} (k : Nat) (hk : k < m.length) (b : Bool) (hb : b = true ↔ FitsI q l (m.getD k (0, 0)).1 (idx l (m.getD k (0, 0)).2) ((m.take k).filterMap (pick q l))) : Pos q l (m.take k) (m.getD k (0, 0)).1 (m.getD k (0, 0)).2 ↔ b = true ∧ FreeP q l m k := by
 unfold Pos FreeP
 rw [hb]
theorem fit_at {m : List Prs} (hm : m.length ≤ 40) (hs : SegO q l 0 0 0 m) (k : Nat) (hk : k < m.length) : ∃ (e : Evt) (b : Bool), findT (l, (m.getD k (0, 0)).2, ()) = some ((e, idx l (m.getD k (0, 0)).2), ()) ∧
  fitsT (sch3, q, l, m.take k, (m.getD k (0, 0)).1, e, ()) = some (b, ()) ∧ (b = true ↔ FitsI q l (m.getD k (0, 0)).1 (idx l (m.getD k (0, 0)).2) ((m.take k).filterMap (pick q l))) := by
 obtain ⟨p0, p1, i0, i1, hpre⟩ := ord_at hq hs k hk
 obtain ⟨e, h1, -, -, h2⟩ := find_idx hx (m.getD k (0, 0)).2
 obtain rfl := h2 i0
 obtain ⟨b, hb, hb2⟩ := fitsT_I hq hx (m.take k) (by rw [List.length_take]; omega) _ p0 p1 _ i0 i1 (fun x h => (hpre x h).2)
 exact ⟨_, b, h1, hb, hb2⟩
omit hq hx in
theorem free0 (m : List Prs) : FreeP q l m 0 := fun a s0 h => by simp at h
theorem matchT_w0_at {m : List Prs} (hm : m.length ≤ 40) (hs : SegO q l 0 0 0 m) :
  ∃ z, matchT_w0 (sch3, l, m, m, (m.length : Int), 0, q, ()) = some z ∧ ((z = .inl () ∧ ¬ AllPos q l [] m) ∨ (z = .inr (l, m, q, ()) ∧ AllPos q l [] m)) := by
 have hA := allPos_iff (q := q) (l := l) m []
 refine iterO_bt (step := matchT_l0) (fun y => ∃ i : Int, y = (sch3, l, m, m, (m.length : Int), i, q, ()) ∧ 0 ≤ i ∧ i ≤ m.length ∧ ∀ k : Nat, (k : Int) < i → Pos q l (m.take k) (m.getD k (0, 0)).1 (m.getD k (0, 0)).2) (fun y => ((m.length : Int) - y.2.2.2.2.2.1).toNat) _ ?_ _ ⟨0, rfl, Int.le_refl _, by omega, fun t h => by omega⟩
 rintro y ⟨i, rfl, g0, g1, g2⟩
 unfold matchT_l0
 by_cases hi : i < (m.length : Int)
 ·obtain ⟨k, rfl⟩ : ∃ k : Nat, i = (k : Int) := ⟨i.toNat, by omega⟩
  have hk : k < m.length := by omega
  have hw : IntKind.wrap .i64 ((k : Int) + 1) = (k : Int) + 1 := Go.PI.wrap_small (by omega) (by omega)
  obtain ⟨e, b, h1, h2, h3⟩ := fit_at hq hx hm hs k hk
  have hP := pos_iff k hk b h3
  have hkk : (decide ((0 : Int) ≤ 0) && decide (0 ≤ (k : Int)) && decide ((k : Int) ≤ (m.length : Int))) = true := by simp; omega
  have nxt : FreeP q l m k → b = true → ∀ k' : Nat, (k' : Int) < (k : Int) + 1 → Pos q l (m.take k') (m.getD k' (0, 0)).1 (m.getD k' (0, 0)).2 := fun hF hb k' hk' => by
   by_cases e : k' = k
   ·subst e; exact hP.2 ⟨hb, hF⟩
   ·exact g2 k' (by omega)
  have bad : ¬ Pos q l (m.take k) (m.getD k (0, 0)).1 (m.getD k (0, 0)).2 → ¬ AllPos q l [] m := fun hn hh => hn (hA.1 hh k hk)
  refine BT.lt (decide_eq_true hi) (BT.yes (in2 g0 hi) (BT.opt ⟨_, h1, BT.yes hkk (BT.opt ⟨_, h2, BT.cond (fun hc => BT.ends (.inl ⟨rfl, bad fun hh => ?_⟩)) (fun hc => BT.cond (fun hk0 => ?_) (fun hk0 => BT.goes ⟨⟨(k : Int) + 1, by rw [hw], by omega, by omega, nxt ?_ (by simpa using hc)⟩, ?_⟩))⟩)⟩))
  ·have := (hP.1 hh).1
   rw [this] at hc
   cases hc
  ·have hk0 : (k : Int) > 0 := of_decide_eq_true hk0
   obtain ⟨c, hc1, hc2⟩ := freeT_at hq hx hm hs k (by omega) hk
   refine BT.opt ⟨_, hc1, BT.cond (fun hcf => BT.ends (.inl ⟨rfl, bad fun hh => ?_⟩)) (fun hcf => BT.goes ⟨⟨(k : Int) + 1, by rw [hw], by omega, by omega, nxt (hc2.1 (by simpa using hcf)) (by simpa using hc)⟩, ?_⟩)⟩
   ·have := hc2.2 (hP.1 hh).2
    rw [this] at hcf
    cases hcf
   ·dsimp only
    rw [hw]
    omega
  ·have hk0 : ¬ (k : Int) > 0 := of_decide_eq_false hk0
   have : k = 0 := by omega
   subst this
   exact free0 m
  ·dsimp only
   rw [hw]
   omega
 ·refine BT.ge (decide_eq_false hi) (BT.ends (.inr ⟨rfl, hA.2 fun k hk => g2 k (by omega)⟩))
omit hq in
theorem time_le {i j : Int} (i0 : 0 ≤ i) (hij : i ≤ j) (hj : j < l.length) : timI l i ≤ timI l j ∧ 0 ≤ timI l i ∧ timI l j ≤ 15 := by
 have hi : i.toNat < l.length := by omega
 have hj' : j.toNat < l.length := by omega
 have h1 := hx.tm (l.getD i.toNat evZ) (by rw [getD_in _ _ _ hi]; exact List.getElem_mem hi)
 have h2 := hx.tm (l.getD j.toNat evZ) (by rw [getD_in _ _ _ hj']; exact List.getElem_mem hj')
 refine ⟨?_, h1.1, h2.2⟩
 rcases Int.lt_or_le i j with h | h
 ·have := List.pairwise_iff_getElem.1 hx.so i.toNat j.toNat hi hj' (by omega)
  show (l.getD i.toNat evZ).2.2.1 ≤ (l.getD j.toNat evZ).2.2.1
  rw [getD_in _ _ _ hi, getD_in _ _ _ hj']
  unfold leE at this
  omega
 ·have : i = j := by omega
  subst this
  exact Int.le_refl _
omit hq hx in
theorem timeT_at (t : Int) (h0 : 0 ≤ t) (h1 : t ≤ 15) : timeT (t, ()) = some (true, ()) := by
 unfold timeT timeT_B
 simp only [Br.run, decide_eq_true (show t ≥ 0 from h0), cond_true]
 rw [decide_eq_true (by omega)]
omit hq hx in
theorem withinT_at (a b w : Int) (h0 : 0 ≤ a) (h1 : a ≤ b) (h2 : b ≤ 15) : ∃ W, withinT (a, b, w, ()) = some (W, ()) ∧ (W = true ↔ b - a ≤ w) := by
 have hwr : IntKind.wrap .i64 (b - a) = b - a := Go.PI.wrap_small (by omega) (by omega)
 unfold withinT withinT_B
 simp only [Br.run, timeT_at a h0 (by omega), timeT_at b (by omega) h2, decide_eq_true h1, cond_true, hwr]
 exact ⟨_, rfl, by simp⟩
theorem matchT_at {m : List Prs} (hm : m.length ≤ 40) : ∃ b, matchT (sch3, q, l, m, ()) = some (b, ()) ∧ (b = true ↔ FA q l m) := by
 have hF := fa_iff hq.good (by have := hq.w0; omega) hx.ne m
 unfold matchT matchT_B
 cases m with
 | nil =>
  refine ⟨false, rfl, fun e => (by cases e), fun h => ?_⟩
  obtain ⟨p, s, r, h, -⟩ := hF.1 h
  cases h
 | cons y r =>
  have hm0 : ((((y :: r : List Prs).length : Nat) : Int) == 0) = false := beq_eq_false_iff_ne.2 (by simp; omega)
  obtain ⟨b, hb, hb2⟩ := orderT_at hq hx (y :: r) (by omega)
  suffices h : BT (fun z => ∃ c, z = (c, ()) ∧ (c = true ↔ FA q l (y :: r))) (matchT_B (sch3, q, l, y :: r, ())) by
   obtain ⟨z, hz, c, rfl, hc⟩ := h
   exact ⟨c, hz, hc⟩
  unfold matchT_B
  refine BT.ge hm0 (BT.opt ⟨_, hb, BT.cond (fun hc => BT.ret ⟨false, rfl, fun e => (by cases e), fun h => ?_⟩) (fun hc => ?_)⟩)
  ·obtain ⟨p, s, r', h, h1, -⟩ := hF.1 h
   have := hb2.2 h1
   rw [show b = true from this] at hc
   cases hc
  ·have hs := hb2.1 (by simpa using hc)
   obtain ⟨z, hz, h⟩ := matchT_w0_at hq hx hm hs
   refine BT.opt ⟨_, hz, ?_⟩
   rcases h with ⟨rfl, hno⟩ | ⟨rfl, hA⟩
   ·refine BT.suml (BT.ret ⟨false, rfl, fun e => (by cases e), fun h => ?_⟩)
    obtain ⟨p, s, r', h, -, h2, -⟩ := hF.1 h
    exact absurd h2 hno
   ·have hl0 : (0 : Int) < (((y :: r : List Prs).length : Nat) : Int) := by simp only [List.length_cons]; omega
    have hwl : IntKind.wrap .i64 ((((y :: r : List Prs).length : Nat) : Int) - 1) = (r.length : Int) := by
     rw [show (((y :: r : List Prs).length : Nat) : Int) - 1 = (r.length : Int) by simp]
     exact Go.PI.wrap_small (by omega) (by simp at hm; omega)
    obtain ⟨p0, p1, i0, i1, -⟩ := ord_at hq hs 0 (by simp)
    obtain ⟨z0, z1, j0, j1, -⟩ := ord_at hq hs r.length (by simp)
    obtain ⟨e, f1, -, -, f2⟩ := find_idx hx ((y :: r : List Prs).getD 0 (0, 0)).2
    obtain ⟨e', f1', -, -, f2'⟩ := find_idx hx ((y :: r : List Prs).getD r.length (0, 0)).2
    obtain rfl := f2 i0
    obtain rfl := f2' j0
    have hge : ∀ x ∈ (y :: r : List Prs), idx l x.2 ≤ idx l ((y :: r : List Prs).getD r.length (0, 0)).2 := fun x hx' => hs.last (z := (y :: r : List Prs).getD r.length (0, 0)) (by
     rw [List.getLast?_eq_getElem?, getD_in _ _ _ (by simp : r.length < (y :: r : List Prs).length)]
     exact List.getElem?_eq_getElem (by simp)) x hx'
    have h0n : idx l ((y :: r : List Prs).getD 0 (0, 0)).2 ≤ idx l ((y :: r : List Prs).getD r.length (0, 0)).2 := hge _ (List.mem_cons_self ..)
    have ht := time_le hx i0 h0n j1
    have hy : (y :: r : List Prs).getD 0 (0, 0) = y := rfl
    obtain ⟨W, hwin, hW⟩ := withinT_at (timI l (idx l ((y :: r : List Prs).getD 0 (0, 0)).2)) (timI l (idx l ((y :: r : List Prs).getD r.length (0, 0)).2)) q.2.1 ht.2.1 ht.1 ht.2.2
    have f1'' : findT (l, ((y :: r : List Prs).getD (Int.toNat (IntKind.wrap .i64 ((((y :: r : List Prs).length : Nat) : Int) - 1))) (0, 0)).2, ()) = some ((l.getD (idx l ((y :: r : List Prs).getD r.length (0, 0)).2).toNat evZ, idx l ((y :: r : List Prs).getD r.length (0, 0)).2), ()) := by rw [hwl]; exact f1'
    refine BT.sumr (BT.yes (in2 (Int.le_refl _) hl0) (BT.opt ⟨_, f1, BT.yes ?_ (BT.opt ⟨_, f1'', BT.opt ⟨_, hwin, BT.ret ⟨W, rfl, ?_⟩⟩⟩)⟩))
    ·rw [hwl]
     exact in2 (by omega) (by simp only [List.length_cons]; omega)
    ·rw [hW, hF]
     constructor
     ·intro h
      rw [hy] at h
      refine ⟨y.1, y.2, r, rfl, hs, hA, fun x hx' => ?_⟩
      have hx0 := (hs.ge x hx').1
      have := time_le hx hx0 (hge x hx') j1
      omega
     ·rintro ⟨p, s, r', he, -, -, h⟩
      obtain ⟨rfl, rfl⟩ := List.cons.inj he
      have hlt : r.length < ((p, s) :: r : List Prs).length := by simp
      exact h _ (by rw [getD_in _ _ _ hlt]; exact List.getElem_mem hlt)
theorem whyT_at {m : List Prs} (hm : m.length ≤ 40) : ∃ w : Int, whyT (sch3, q, l, m, ()) = some (w, ()) ∧ 0 ≤ w ∧ w ≤ 5 ∧ (w = 0 ↔ FA q l m) ∧ (w = 1 ↔ m = []) := by
 have hF := fa_iff hq.good (by have := hq.w0; omega) hx.ne m
 obtain ⟨c, hc1, hc2⟩ := matchT_at hq hx hm
 suffices h : BT (fun z => ∃ w : Int, z = (w, ()) ∧ 0 ≤ w ∧ w ≤ 5 ∧ (w = 0 ↔ FA q l m) ∧ (w = 1 ↔ m = [])) (whyT_B (sch3, q, l, m, ())) by
  obtain ⟨z, hz, w, rfl, hw⟩ := h
  exact ⟨w, hz, hw⟩
 unfold whyT_B
 by_cases hm0 : m = []
 ·subst hm0
  refine BT.lt rfl (BT.ret ⟨1, rfl, by omega, by omega, ⟨fun h => by omega, fun h => ?_⟩, fun _ => rfl, fun _ => rfl⟩)
  obtain ⟨p, s, r, h, -⟩ := hF.1 h
  cases h
 have hml : 0 < m.length := List.length_pos_iff.2 hm0
 have hm1 : ((((m : List Prs).length : Nat) : Int) == 0) = false := beq_eq_false_iff_ne.2 (by omega)
 have no : ∀ w : Int, 2 ≤ w → w ≤ 5 → ¬ FA q l m → ∃ w' : Int, ((w, ()) : Int × Unit) = (w', ()) ∧ 0 ≤ w' ∧ w' ≤ 5 ∧ (w' = 0 ↔ FA q l m) ∧ (w' = 1 ↔ m = []) := fun w h2 h5 hn => ⟨w, rfl, by omega, h5, ⟨fun h => by omega, fun h => absurd h hn⟩, ⟨fun h => by omega, fun h => absurd h hm0⟩⟩
 obtain ⟨b, hb, hb2⟩ := orderT_at hq hx m (by omega)
 refine BT.ge hm1 (BT.opt ⟨_, hb, BT.cond (fun hcb => BT.ret (no 2 (by omega) (by omega) fun h => ?_)) (fun hcb => ?_)⟩)
 ·obtain ⟨p, s, r', h, h1, -⟩ := hF.1 h
  have := hb2.2 h1
  rw [show b = true from this] at hcb
  cases hcb
 have hs := hb2.1 (by simpa using hcb)
 have hA := allPos_iff (q := q) (l := l) m []
 have bad : ∀ k : Nat, k < m.length → ¬ Pos q l (m.take k) (m.getD k (0, 0)).1 (m.getD k (0, 0)).2 → ¬ FA q l m := fun k hk hn hh => by
  obtain ⟨p, s, r', -, -, h, -⟩ := hF.1 hh
  exact hn (hA.1 h k hk)
 obtain ⟨z, hz, h⟩ : ∃ z, whyT_w0 (sch3, l, m, m, (m.length : Int), 0, q, ()) = some z ∧ ((z = .inl (3, ()) ∧ ¬ FA q l m) ∨ z = .inr (sch3, l, m, q, ())) := by
  refine iterO_bt (step := whyT_l0) (fun y => ∃ i : Int, y = (sch3, l, m, m, (m.length : Int), i, q, ()) ∧ 0 ≤ i ∧ i ≤ m.length) (fun y => ((m.length : Int) - y.2.2.2.2.2.1).toNat) _ ?_ _ ⟨0, rfl, Int.le_refl _, by omega⟩
  rintro y ⟨i, rfl, g0, g1⟩
  unfold whyT_l0
  by_cases hi : i < (m.length : Int)
  ·obtain ⟨k, rfl⟩ : ∃ k : Nat, i = (k : Int) := ⟨i.toNat, by omega⟩
   have hk : k < m.length := by omega
   have hw : IntKind.wrap .i64 ((k : Int) + 1) = (k : Int) + 1 := Go.PI.wrap_small (by omega) (by omega)
   obtain ⟨e, b, h1, h2, h3⟩ := fit_at hq hx hm hs k hk
   have hkk : (decide ((0 : Int) ≤ 0) && decide (0 ≤ (k : Int)) && decide ((k : Int) ≤ (m.length : Int))) = true := by simp; omega
   refine BT.lt (decide_eq_true hi) (BT.yes (in2 g0 hi) (BT.opt ⟨_, h1, BT.yes hkk (BT.opt ⟨_, h2, BT.cond (fun hc => BT.ends (.inl ⟨rfl, bad k hk fun hh => ?_⟩)) (fun hc => BT.goes ⟨⟨(k : Int) + 1, by rw [hw], by omega, by omega⟩, ?_⟩)⟩)⟩))
   ·have := ((pos_iff k hk b h3).1 hh).1
    rw [this] at hc
    cases hc
   ·dsimp only
    rw [hw]
    omega
  ·exact BT.ge (decide_eq_false hi) (BT.ends (.inr rfl))
 refine BT.opt ⟨_, hz, ?_⟩
 rcases h with ⟨rfl, hn⟩ | rfl
 ·exact BT.suml (BT.ret (no 3 (by omega) (by omega) hn))
 refine BT.sumr ?_
 obtain ⟨z, hz, h⟩ : ∃ z, whyT_w1 (sch3, l, m, 1, q, ()) = some z ∧ ((z = .inl (4, ()) ∧ ¬ FA q l m) ∨ z = .inr (sch3, l, m, q, ())) := by
  refine iterO_bt (step := whyT_l1) (fun y => ∃ i : Int, y = (sch3, l, m, i, q, ()) ∧ 1 ≤ i ∧ i ≤ m.length) (fun y => ((m.length : Int) - y.2.2.2.1).toNat) _ ?_ _ ⟨1, rfl, Int.le_refl _, by omega⟩
  rintro y ⟨i, rfl, g0, g1⟩
  unfold whyT_l1
  by_cases hi : i < (m.length : Int)
  ·obtain ⟨k, rfl⟩ : ∃ k : Nat, i = (k : Int) := ⟨i.toNat, by omega⟩
   have hk : k < m.length := by omega
   have hw : IntKind.wrap .i64 ((k : Int) + 1) = (k : Int) + 1 := Go.PI.wrap_small (by omega) (by omega)
   obtain ⟨e, b', h1, h2, h3⟩ := fit_at hq hx hm hs k hk
   obtain ⟨b, hb, hb2⟩ := freeT_at hq hx hm hs k (by omega) hk
   refine BT.lt (decide_eq_true hi) (BT.opt ⟨_, hb, BT.cond (fun hc => BT.ends (.inl ⟨rfl, bad k hk fun hh => ?_⟩)) (fun hc => BT.goes ⟨⟨(k : Int) + 1, by rw [hw], by omega, by omega⟩, ?_⟩)⟩)
   ·have := hb2.2 ((pos_iff k hk b' h3).1 hh).2
    rw [this] at hc
    cases hc
   ·dsimp only
    rw [hw]
    omega
  ·exact BT.ge (decide_eq_false hi) (BT.ends (.inr rfl))
 refine BT.opt ⟨_, hz, ?_⟩
 rcases h with ⟨rfl, hn⟩ | rfl
 ·exact BT.suml (BT.ret (no 4 (by omega) (by omega) hn))
 refine BT.sumr (BT.opt ⟨_, hc1, BT.cond (fun hcc => BT.ret (no 5 (by omega) (by omega) fun h => ?_)) (fun hcc => BT.ret ⟨0, rfl, by omega, by omega, ⟨fun _ => hc2.1 (by simpa using hcc), fun _ => rfl⟩, ⟨fun h => by omega, fun h => absurd h hm0⟩⟩)⟩)
 have := hc2.2 h
 rw [this] at hcc
 cases hcc
end
end Go.Proofs.YtiblijkhpmemeaaGreat
