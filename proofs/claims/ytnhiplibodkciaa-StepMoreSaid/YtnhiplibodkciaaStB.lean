/- States of a query: how many there are; moves. -/
import Derived.Test.YtnhiplibodkciaaStA
import Derived.Test.YtnhiplibodkciaaS2a
namespace Go.Proofs.Ytnhiplibodkciaa
open Go.PI Go

abbrev Stt := Int × Int
/-- A query that was made. -/
structure QMade (q : Qry) : Prop where
  es : EsOk q.1
  lo : 1 ≤ q.1.length
  hi : q.1.length ≤ 4
theorem QMade.few {q : Qry} (h : QMade q) : QFew q := by
  refine ⟨by have := h.hi; omega, fun e he => ?_⟩
  obtain ⟨k, hk⟩ := List.getElem?_of_mem he
  have := h.es k e hk
  exact ⟨this.1, this.2.2.2.2.2.1⟩
theorem QMade.qok {q : Qry} (h : QMade q) : QOk q := h.es.qok
theorem QMade.get {q : Qry} (h : QMade q) (i : Int) (h0 : 0 ≤ i) (h1 : i < q.1.length) : EOk i (q.1.getD i.toNat eZ') := by
  have hlt : i.toNat < q.1.length := by omega
  have := h.es i.toNat (q.1.getD i.toNat eZ') (by rw [getD_lt _ _ _ hlt]; exact List.getElem?_eq_getElem hlt)
  have e : ((i.toNat : Nat) : Int) = i := by omega
  rw [e] at this
  exact this
theorem QMade.first {q : Qry} (h : QMade q) : (q.1.getD 0 eZ').2.2.1 = false := by
  have := (h.get 0 (by omega) (by have := h.lo; omega)).2.2.2.2.1
  cases hc : (q.1.getD 0 eZ').2.2.1 with
  | false => rfl
  | true => exact absurd (this hc) (by omega)

def StOk (q : Qry) (s : Stt) : Prop := -1 ≤ s.1 ∧ s.1 < q.1.length ∧ 0 ≤ s.2 ∧ s.2 ≤ 3
theorem newN_w1_at {q : Qry} (h : QMade q) (a : List Elm) (b c i : Int) (h0 : 0 ≤ i) (h1 : i < q.1.length) (acc : List Stt) (hl : acc.length ≤ 1000) (ha : ∀ s ∈ acc, StOk q s) :
    ∃ acc', newN_w1 (i, 1, a, b, c, q, acc, ()) = some (i, a, b, c, q, acc', ()) ∧ acc.length + 1 ≤ acc'.length ∧ acc'.length ≤ acc.length + 3 ∧ ∀ s ∈ acc', StOk q s := by
  have hE := h.get i h0 h1
  suffices hh : ∃ z, newN_w1 (i, 1, a, b, c, q, acc, ()) = some z ∧ ∃ acc', z = (i, a, b, c, q, acc', ()) ∧ acc.length + 1 ≤ acc'.length ∧ acc'.length ≤ acc.length + 3 ∧ ∀ s ∈ acc', StOk q s by
    obtain ⟨z, hz, acc', rfl, h⟩ := hh
    exact ⟨acc', hz, h⟩
  refine iterO_rec (step := fun x => (newN_l1 x).run) (Q := fun _ z => ∃ acc', z = (i, a, b, c, q, acc', ()) ∧ acc.length + 1 ≤ acc'.length ∧ acc'.length ≤ acc.length + 3 ∧ ∀ s ∈ acc', StOk q s)
    (fun y => y.1 = i ∧ 1 ≤ y.2.1 ∧ y.2.1 ≤ (q.1.getD i.toNat eZ').2.2.2.2.1 + 1 ∧ y.2.2.1 = a ∧ y.2.2.2.1 = b ∧ y.2.2.2.2.1 = c ∧ y.2.2.2.2.2.1 = q ∧ (y.2.2.2.2.2.2.1.length : Int) = acc.length + (y.2.1 - 1) ∧ ∀ s ∈ y.2.2.2.2.2.2.1, StOk q s)
    (fun y => (4 - y.2.1).toNat) ?_ _ ⟨rfl, Int.le_refl 1, by have := hE.2.1; have := hE.2.2.1; dsimp only; omega, rfl, rfl, rfl, rfl, by dsimp only; omega, ha⟩
  rintro ⟨i', n, a', b', c', q', l, ⟨⟩⟩ hx
  dsimp only at hx ⊢
  obtain ⟨rfl, g0, g1, rfl, rfl, rfl, rfl, g2, g3⟩ := hx
  obtain ⟨_, e1, e2, e3, _, _⟩ := hE
  unfold newN_l1
  have hm : ¬ (4 < (q'.1.getD i'.toNat eZ').2.2.2.2.1) := by omega
  have hw : IntKind.wrap .i64 (n + 1) = n + 1 := Go.PI.wrap_small (by omega) (by omega)
  by_cases hc : n ≤ (q'.1.getD i'.toNat eZ').2.2.2.2.1
  · have hb : (l.length + 1) * 16 ≤ 140737488355328 := by omega
    have hb' : (l.length + List.length (List.set (List.replicate 1 ((0 : Int), (0 : Int))) 0 (i', n))) * 16 ≤ 140737488355328 := hb
    simp only [Br.run, decide_eq_true h0, decide_eq_true h1, Bool.and_self, cond_true, hm, if_false, decide_eq_true hc, decide_eq_true hb', hw]
    refine .inl ⟨_, rfl, ⟨rfl, (show 1 ≤ n + 1 by omega), (show n + 1 ≤ (q'.1.getD i'.toNat eZ').2.2.2.2.1 + 1 by omega), rfl, rfl, rfl, rfl, ?_, fun s hs => ?_⟩, (show (4 - (n + 1)).toNat < (4 - n).toNat by omega), fun z hz => hz⟩
    · show (((l ++ [(i', n)]).length : Nat) : Int) = (acc.length : Int) + (n + 1 - 1)
      rw [List.length_append, List.length_singleton]; omega
    · rcases List.mem_append.1 hs with k | k
      · exact g3 s k
      · obtain rfl := List.mem_singleton.1 k
        exact ⟨by dsimp only; omega, h1, by dsimp only; omega, by dsimp only; omega⟩
  · simp only [Br.run, decide_eq_true h0, decide_eq_true h1, Bool.and_self, cond_true, cond_false, hm, if_false, decide_eq_false hc]
    exact .inr ⟨_, rfl, _, rfl, by omega, by omega, g3⟩

theorem newN_w0_at {q : Qry} (h : QMade q) (a : List Elm) (b c i : Int) (h0 : 0 ≤ i) (h1 : i < q.1.length) :
    ∃ L, newN_w0 (i, a, b, c, q, [(-1, 0)], ()) = some (a, b, c, L, ()) ∧ 2 ≤ L.length ∧ L.length ≤ 100 ∧ ∀ s ∈ L, StOk q s := by
  have hq4 := h.hi
  suffices hh : ∃ z, newN_w0 (i, a, b, c, q, [(-1, 0)], ()) = some z ∧ ∃ L, z = (a, b, c, L, ()) ∧ 2 ≤ L.length ∧ L.length ≤ 100 ∧ ∀ s ∈ L, StOk q s by
    obtain ⟨z, hz, L, rfl, h⟩ := hh
    exact ⟨L, hz, h⟩
  refine iterO_rec (step := fun x => (newN_l0 x).run) (Q := fun _ z => ∃ L, z = (a, b, c, L, ()) ∧ 2 ≤ L.length ∧ L.length ≤ 100 ∧ ∀ s ∈ L, StOk q s)
    (fun y => -1 ≤ y.1 ∧ y.1 < q.1.length ∧ y.2.1 = a ∧ y.2.2.1 = b ∧ y.2.2.2.1 = c ∧ y.2.2.2.2.1 = q ∧ 1 ≤ y.2.2.2.2.2.1.length ∧ (0 ≤ y.1 ∨ 2 ≤ y.2.2.2.2.2.1.length) ∧ (0 ≤ y.1 → (y.2.2.2.2.2.1.length : Int) ≤ 1 + 3 * y.1) ∧ y.2.2.2.2.2.1.length ≤ 100 ∧ ∀ s ∈ y.2.2.2.2.2.1, StOk q s)
    (fun y => if y.1 < 0 then 0 else ((q.1.length : Int) - y.1).toNat) ?_ _ ⟨by dsimp only; omega, h1, rfl, rfl, rfl, rfl, by simp, .inl h0, fun _ => by simp; omega, by simp, ?_⟩
  · rintro ⟨i, a', b', c', q', l, ⟨⟩⟩ hx
    dsimp only at hx ⊢
    obtain ⟨g0, g1, rfl, rfl, rfl, rfl, g2, g3, g4, g5, g6⟩ := hx
    unfold newN_l0
    by_cases hi : i ≥ 0
    · have g4 := g4 hi
      obtain ⟨acc', e1, e2, e3, e4⟩ := newN_w1_at h a' b' c' i hi g1 l (by omega) g6
      obtain ⟨j, e5, e6⟩ := nextQ_at q' (by omega) i g1 g0
      simp only [Br.run, decide_eq_true hi, cond_true, e1, e5]
      refine .inl ⟨_, rfl, ?_, ?_, fun z hz => hz⟩
      · rcases e6 with ⟨k1, k2, k3, _⟩ | ⟨rfl, _⟩
        · refine ⟨by dsimp only; omega, k3, rfl, rfl, rfl, rfl, by dsimp only; omega, .inl k2, fun _ => ?_, by dsimp only; omega, e4⟩
          dsimp only
          omega
        · exact ⟨Int.le_refl (-1), by dsimp only; omega, rfl, rfl, rfl, rfl, by dsimp only; omega, .inr (by dsimp only; omega), fun k => absurd k (show ¬ (0 : Int) ≤ -1 by decide), by dsimp only; omega, e4⟩
      · dsimp only
        rcases e6 with ⟨k1, k2, k3, _⟩ | ⟨rfl, _⟩
        · rw [if_neg (by omega), if_neg (by omega)]
          omega
        · rw [if_pos (by decide), if_neg (by omega)]
          omega
    · simp only [Br.run, decide_eq_false hi, cond_false]
      exact .inr ⟨_, rfl, _, rfl, by omega, g5, g6⟩
  · intro s hs
    obtain rfl := List.mem_singleton.1 hs
    exact ⟨by decide, by dsimp only; omega, by decide, by decide⟩

theorem newN_at {q : Qry} (h : QMade q) : ∃ L : List Stt, newN (q, ()) = some (some (q, L), ()) ∧ 2 ≤ L.length ∧ L.length ≤ 100 ∧ ∀ s ∈ L, StOk q s := by
  have hq4 := h.hi
  have hq1 := h.lo
  obtain ⟨j, e1, e2⟩ := nextQ_at q (by omega) (-1) (by omega) (by omega)
  have hj : 0 ≤ j ∧ j < q.1.length := by
    rcases e2 with ⟨_, k1, k2, _⟩ | ⟨_, k⟩
    · exact ⟨k1, k2⟩
    · have := k 0 (by omega) (by omega)
      rw [show Int.toNat 0 = 0 from rfl, h.first] at this
      cases this
  obtain ⟨L, e3, e4⟩ := newN_w0_at h q.1 q.2.1 q.2.2 j hj.1 hj.2
  unfold newN newN_B
  simp only [Br.run, copyQ_at h.few, e1, e3]
  exact ⟨L, rfl, e4⟩

theorem lenN_at (q : Qry) (L : List Stt) : lenN (some (q, L), ()) = some ((L.length : Int), ()) := rfl
theorem atN_at (q : Qry) (L : List Stt) (k : Int) (h0 : 0 ≤ k) (h1 : k < L.length) : atN (some (q, L), k, ()) = some ((L.getD k.toNat (0, 0), true), ()) := by
  unfold atN atN_B
  have n0 : ¬ k < 0 := by omega
  have n1 : ¬ k ≥ (L.length : Int) := by omega
  simp only [Br.run, lenN_at, decide_eq_false n0, decide_eq_false n1, cond_false, Option.isSome_some, decide_eq_true h0, decide_eq_true h1, Bool.and_self, cond_true]
theorem atN_not (q : Qry) (L : List Stt) (k : Int) (h : k < 0 ∨ (L.length : Int) ≤ k) : atN (some (q, L), k, ()) = some (((0, 0), false), ()) := by
  unfold atN atN_B
  by_cases n0 : k < 0
  · simp only [Br.run, decide_eq_true n0, cond_true]
  · have n1 : k ≥ (L.length : Int) := by omega
    simp only [Br.run, lenN_at, decide_eq_false n0, decide_eq_true n1, cond_false, cond_true]

theorem idxState_at (L : List Stt) (hL : L.length ≤ 1000) (s : Stt) : ∃ j : Int, idxState (L, s, ()) = some (j, ()) ∧ -1 ≤ j ∧ j < L.length := by
  unfold idxState idxState_B
  obtain ⟨z, hz, hq⟩ : ∃ z, idxState_w0 (L, (L.length : Int), 0, s, ()) = some z ∧ ∀ j, z = .inl (j, ()) → 0 ≤ j ∧ j < L.length := by
    refine iterO_rec (step := fun x => (idxState_l0 x).run) (Q := fun _ z => ∀ j, z = .inl (j, ()) → 0 ≤ j ∧ j < L.length) (fun y => y.1 = L ∧ y.2.1 = (L.length : Int) ∧ 0 ≤ y.2.2.1 ∧ y.2.2.1 ≤ L.length) (fun y => ((L.length : Int) - y.2.2.1).toNat) ?_ _ ⟨rfl, rfl, Int.le_refl 0, by dsimp only; omega⟩
    rintro ⟨l, n, i, s', ⟨⟩⟩ hx
    dsimp only at hx ⊢
    obtain ⟨rfl, rfl, h0, h1⟩ := hx
    unfold idxState_l0
    by_cases hi : i < (l.length : Int)
    · have hw : IntKind.wrap .i64 (i + 1) = i + 1 := Go.PI.wrap_small (by omega) (by omega)
      simp only [Br.run, decide_eq_true hi, decide_eq_true h0, Bool.and_self, cond_true, hw, cond_eq_ite]
      by_cases hc : (decide (s'.fst = (l.getD i.toNat (0, 0)).fst) && decide (s'.snd = (l.getD i.toNat (0, 0)).snd)) = true <;> simp only [hc, ↓reduceIte, Bool.false_eq_true]
      · refine .inr ⟨_, rfl, fun j e => ?_⟩
        injection e with e
        injection e with e _
        subst e
        exact ⟨h0, hi⟩
      · exact .inl ⟨_, rfl, ⟨rfl, rfl, by dsimp only; omega, by dsimp only; omega⟩, by dsimp only; omega, fun z hz => hz⟩
    · simp only [Br.run, decide_eq_false hi, cond_false]
      exact .inr ⟨_, rfl, fun j e => by cases e⟩
  simp only [Br.run, hz]
  rcases z with ⟨j, ⟨⟩⟩ | ⟨⟩
  · have := hq j rfl
    exact ⟨j, rfl, by omega, this.2⟩
  · exact ⟨-1, rfl, by omega, by omega⟩
theorem findN_at (q : Qry) (L : List Stt) (hL : L.length ≤ 1000) (s : Stt) : ∃ j : Int, findN (some (q, L), s, ()) = some (j, ()) ∧ -1 ≤ j ∧ j < L.length := by
  obtain ⟨j, h, k⟩ := idxState_at L hL s
  unfold findN findN_B
  simp only [Br.run, Option.isNone_some, cond_false, Option.isSome_some, cond_true, h]
  exact ⟨j, rfl, k⟩

def MvOk (L : List Stt) (y : List Int × Unit) : Prop := y.1.length ≤ 2 ∧ ∀ j ∈ y.1, 0 ≤ j ∧ j < L.length
theorem mv0 {L : List Stt} : MvOk L ([], ()) := ⟨by decide, fun j h => by simp at h⟩
theorem mv1 {L : List Stt} {j : Int} (h0 : 0 ≤ j) (h1 : j < L.length) : MvOk L ([j], ()) := ⟨of_decide_eq_true rfl, fun i h => by obtain rfl := List.mem_singleton.1 h; exact ⟨h0, h1⟩⟩
theorem mv2 {L : List Stt} {j k : Int} (h0 : 0 ≤ j) (h1 : j < L.length) (h2 : 0 ≤ k) (h3 : k < L.length) : MvOk L ([j, k], ()) := ⟨of_decide_eq_true rfl, fun i h => by
  rcases List.mem_cons.1 h with rfl | h
  · exact ⟨h0, h1⟩
  · obtain rfl := List.mem_singleton.1 h; exact ⟨h2, h3⟩⟩
theorem movesN_at {q : Qry} (h : QMade q) {L : List Stt} (hL : L.length ≤ 100) (hs : ∀ s ∈ L, StOk q s) (k : Int) (h0 : 0 ≤ k) (h1 : k < L.length) : ∃ v : List Int, movesN (some (q, L), k, ()) = some (v, ()) ∧ v.length ≤ 2 ∧ ∀ j ∈ v, 0 ≤ j ∧ j < L.length := by
  suffices hh : BT (MvOk L) (movesN_B (some (q, L), k, ())) by
    obtain ⟨⟨v, ⟨⟩⟩, h1, h2⟩ := hh
    exact ⟨v, h1, h2⟩
  have hlt : k.toNat < L.length := by omega
  have hst := hs (L.getD k.toNat (0, 0)) (by rw [getD_lt _ _ _ hlt]; exact List.getElem_mem hlt)
  have hq4 := h.hi
  unfold movesN_B
  refine BT.opt ⟨_, atN_at q L k h0 h1, ?_⟩
  generalize L.getD k.toNat (0, 0) = st at hst ⊢
  obtain ⟨s1, s2⟩ := st
  obtain ⟨g1, g2, g3, g4⟩ := hst
  dsimp only at g1 g2 g3 g4 ⊢
  obtain ⟨j, e1, e2, e3⟩ := findN_at q L (by omega) (s1, IntKind.wrap .i64 (s2 + 1))
  obtain ⟨n, f1, -⟩ := nextQ_at q (by omega) s1 g2 g1
  obtain ⟨m, f2, f3, f4⟩ := findN_at q L (by omega) (n, 1)
  refine BT.cond (fun h => by cases h) (fun _ => ?_)
  refine BT.opt ⟨_, e1, ?_⟩
  dsimp only
  repeat' first
    | ((with_reducible refine BT.yes ?_ ?_); first | rfl | exact of_decide_eq_true rfl | (simp only [decide_eq_true_eq] at *; simp; omega))
    | ((with_reducible refine BT.opt ?_); first | refine ⟨_, f1, ?_⟩ | refine ⟨_, f2, ?_⟩)
    | (with_reducible refine BT.cond (fun _ => ?_) (fun _ => ?_))
    | exact BT.ret mv0
    | (refine BT.ret (mv1 ?_ ?_) <;> simp only [decide_eq_true_eq] at * <;> omega)
    | (refine BT.ret (mv2 ?_ ?_ ?_ ?_) <;> simp only [decide_eq_true_eq] at * <;> omega)
end Go.Proofs.Ytnhiplibodkciaa
