/- Queries that are made: how often their elements must be there, and may; the first one must. -/
import Derived.Test.YtnhiplibodkciaaGbQ
namespace Go.Proofs.Ytnhiplibodkciaa
open Go.PI Go

/-- Constants that are numbers of 64 bits. -/
def NdsIn (l : List Nd) : Prop := ∀ n ∈ l, -9223372036854775808 ≤ n.2.1.2.1 ∧ n.2.1.2.1 ≤ 9223372036854775807
/-- An element that may be, at a place. -/
def EOk (i : Int) (e : Elm) : Prop := e.2.1.length ≤ 1000 ∧ 1 ≤ e.2.2.2.1 ∧ e.2.2.2.1 ≤ e.2.2.2.2.1 ∧ e.2.2.2.2.1 ≤ 3 ∧ (e.2.2.1 = true → 0 < i) ∧ e.2.2.2.2.2.length ≤ 1000 ∧ NdsIn e.2.2.2.2.2

theorem eok_one (i : Int) (v : ByteArray) (ts : List ByteArray) (neg : Bool) (p : List Nd) (ht : ts.length ≤ 1000) (hp : p.length ≤ 1000 ∧ NdsIn p) (hn : neg = true → 0 < i) : EOk i (v, ts, neg, 1, 1, p) := ⟨ht, Int.le_refl _, Int.le_refl _, by dsimp only; omega, hn, hp⟩
theorem eok_some (i : Int) (v : ByteArray) (ts : List ByteArray) (neg : Bool) (p : List Nd) (a b : Int) (ht : ts.length ≤ 1000) (hp : p.length ≤ 1000 ∧ NdsIn p) (hn : neg = true → 0 < i) :
    EOk i (v, ts, neg, IntKind.wrap .i64 (IntKind.wrap .i64 (↑(BitVec.toNat (BitVec.ofInt (IntKind.bits .i64) a &&& BitVec.ofInt (IntKind.bits .i64) 1)) : Int) + 1),
      IntKind.wrap .i64 (IntKind.wrap .i64 (IntKind.wrap .i64 (↑(BitVec.toNat (BitVec.ofInt (IntKind.bits .i64) a &&& BitVec.ofInt (IntKind.bits .i64) 1)) : Int) + 1) + IntKind.wrap .i64 (↑(BitVec.toNat (BitVec.ofInt (IntKind.bits .i64) b &&& BitVec.ofInt (IntKind.bits .i64) 1)) : Int)), p) := by
  have h1 := mask_in a 1 (by decide) (by decide)
  have h2 := mask_in b 1 (by decide) (by decide)
  generalize IntKind.wrap IntKind.i64 (↑(BitVec.toNat (BitVec.ofInt (IntKind.bits IntKind.i64) a &&& BitVec.ofInt (IntKind.bits IntKind.i64) 1)) : Int) = x at h1 ⊢
  generalize IntKind.wrap IntKind.i64 (↑(BitVec.toNat (BitVec.ofInt (IntKind.bits IntKind.i64) b &&& BitVec.ofInt (IntKind.bits IntKind.i64) 1)) : Int) = y at h2 ⊢
  have e1 : IntKind.wrap .i64 (x + 1) = x + 1 := Go.PI.wrap_small (by omega) (by omega)
  rw [e1]
  have e2 : IntKind.wrap .i64 (x + 1 + y) = x + 1 + y := Go.PI.wrap_small (by omega) (by omega)
  rw [e2]
  refine ⟨ht, ?_, ?_, ?_, hn, hp⟩ <;> dsimp only <;> omega

theorem predQ_tot2 (x : Int) (v o : ByteArray) : ∃ l, predQ (x, v, o, ()) = some (l, ()) ∧ l.length ≤ 1000 ∧ NdsIn l := by
  unfold predQ predQ_B fieldQ fieldQ_B numQ numQ_B
  simp only [Br.run, cond_false, cond_eq_ite, Bool.false_eq_true, ↓reduceIte]
  have hm := mask_in (Int.fdiv x (2 ^ min (Int.toNat 4) (IntKind.bits IntKind.i64))) 3 (by decide) (by decide)
  generalize IntKind.wrap IntKind.i64 (↑(BitVec.toNat (BitVec.ofInt (IntKind.bits IntKind.i64) (Int.fdiv x (2 ^ min (Int.toNat 4) (IntKind.bits IntKind.i64))) &&& BitVec.ofInt (IntKind.bits IntKind.i64) 3)) : Int) = m at hm ⊢
  repeat' split
  all_goals refine ⟨_, rfl, of_decide_eq_true rfl, fun n hn => ?_⟩
  all_goals simp at hn
  all_goals (rcases hn with rfl | rfl | rfl | rfl | rfl | rfl | rfl | rfl <;> (dsimp only; omega))

set_option maxHeartbeats 4000000 in
set_option maxRecDepth 10000 in
theorem queryQ_step2 (p : List Int) (n i c1 c2 : Int) (acc : List Elm) (h0 : 0 ≤ i) (h1 : i < n) (hn : n ≤ 4) (ha : (acc.length : Int) = i) :
    BT (fun y => ∃ e : Elm, y = .inl (p, n, i + 1, c1, c2, acc ++ [e], ()) ∧ EOk i e) (queryQ_l0 (p, n, i, c1, c2, acc, ())) := by
  have hw : IntKind.wrap .i64 (i + 1) = i + 1 := Go.PI.wrap_small (by omega) (by omega)
  have hw37 : IntKind.wrap .i64 (i * 37) = i * 37 := Go.PI.wrap_small (by omega) (by omega)
  have hx := mask_in (List.getD p (Int.toNat (i + 1)) 0) 16777215 (by decide) (by decide)
  unfold queryQ_l0
  dsimp only
  rw [hw, hw37]
  generalize IntKind.wrap IntKind.i64 (↑(BitVec.toNat (BitVec.ofInt (IntKind.bits IntKind.i64) (List.getD p (Int.toNat (i + 1)) 0) &&& BitVec.ofInt (IntKind.bits IntKind.i64) 16777215)) : Int) = x at hx ⊢
  obtain ⟨tx, htx, ltx⟩ := typesQ_tot x hx.1
  obtain ⟨ty, hty, lty⟩ := typesQ_tot (i * 37) (by omega)
  have bnd : (acc.length + 1) * 88 ≤ 140737488355328 := by omega
  have hv4 : (decide (0 ≤ i) && decide (i < (4 : Int))) = true := by simp; omega
  rw [show (decide (i < n)) = true from decide_eq_true h1]
  refine BT.cond (fun _ => ?_) (fun h => by cases h)
  refine BT.cond (fun hlt => ?_) (fun _ => ?_)
  · refine BT.yes (by simp only [decide_eq_true_eq] at hlt; simp; omega) (BT.opt ⟨_, varsQ_at, ?_⟩)
    refine BT.yes hv4 (BT.opt ⟨_, htx, ?_⟩)
    repeat' first
      | exact BT.ret ⟨_, rfl, eok_one _ _ _ _ _ ltx (by assumption) (fun h => by cases h)⟩
      | exact BT.ret ⟨_, rfl, eok_one _ _ _ _ _ ltx (by assumption) (fun _ => of_decide_eq_true ‹decide (i > 0) = true›)⟩
      | exact BT.ret ⟨_, rfl, eok_some _ _ _ _ _ _ _ ltx (by assumption) (fun h => by cases h)⟩
      | exact BT.ret ⟨_, rfl, eok_some _ _ _ _ _ _ _ ltx (by assumption) (fun _ => of_decide_eq_true ‹decide (i > 0) = true›)⟩
      | with_reducible refine BT.fls ?_
      | (with_reducible refine BT.yes ?_ ?_; exact decide_eq_true bnd)
      | (with_reducible refine BT.yes ?_ ?_; (simp only [beq_eq_false_iff_ne] at *; simp; omega))
      | (with_reducible refine BT.opt ?_; refine (predQ_tot2 _ _ _).elim fun l hl => ⟨_, hl.1, ?_⟩; have hll := hl.2; dsimp only)
      | (with_reducible refine BT.cond (fun _ => ?_) (fun _ => ?_))
  · refine BT.opt ⟨_, varsQ_at, ?_⟩
    refine BT.yes hv4 (BT.opt ⟨_, hty, ?_⟩)
    repeat' first
      | exact BT.ret ⟨_, rfl, eok_one _ _ _ _ _ lty (by assumption) (fun h => by cases h)⟩
      | exact BT.ret ⟨_, rfl, eok_one _ _ _ _ _ lty (by assumption) (fun _ => of_decide_eq_true ‹decide (i > 0) = true›)⟩
      | exact BT.ret ⟨_, rfl, eok_some _ _ _ _ _ _ _ lty (by assumption) (fun h => by cases h)⟩
      | exact BT.ret ⟨_, rfl, eok_some _ _ _ _ _ _ _ lty (by assumption) (fun _ => of_decide_eq_true ‹decide (i > 0) = true›)⟩
      | with_reducible refine BT.fls ?_
      | (with_reducible refine BT.yes ?_ ?_; exact decide_eq_true bnd)
      | (with_reducible refine BT.yes ?_ ?_; (simp only [beq_eq_false_iff_ne] at *; simp; omega))
      | (with_reducible refine BT.opt ?_; refine (predQ_tot2 _ _ _).elim fun l hl => ⟨_, hl.1, ?_⟩; have hll := hl.2; dsimp only)
      | (with_reducible refine BT.cond (fun _ => ?_) (fun _ => ?_))

/-- A query's elements, each at its place. -/
def EsOk (l : List Elm) : Prop := ∀ (k : Nat) e, l[k]? = some e → EOk k e
theorem EsOk.snoc {l : List Elm} (h : EsOk l) {e : Elm} (he : EOk (l.length : Int) e) : EsOk (l ++ [e]) := by
  intro k u hu
  rcases Nat.lt_or_ge k l.length with hk | hk
  · rw [List.getElem?_append_left hk] at hu
    exact h k u hu
  · rw [List.getElem?_append_right hk] at hu
    have : k = l.length := by
      have := (List.getElem?_eq_some_iff.1 hu).1
      simp at this
      omega
    subst this
    rw [Nat.sub_self] at hu
    obtain rfl : e = u := by simpa using hu
    exact he
theorem EsOk.qok {q : Qry} (h : EsOk q.1) : QOk q := by
  intro e he
  obtain ⟨k, hk⟩ := List.getElem?_of_mem he
  exact (h k e hk).1

theorem queryQ_w0_at2 (p : List Int) (n c1 c2 : Int) (hn : n ≤ 4) (hn1 : 1 ≤ n) : ∃ l : List Elm, queryQ_w0 (p, n, 0, c1, c2, [], ()) = some (c1, c2, l, ()) ∧ (l.length : Int) = n ∧ EsOk l := by
  obtain ⟨z, hz, l, rfl, h1, h2⟩ : ∃ z, queryQ_w0 (p, n, 0, c1, c2, [], ()) = some z ∧ ∃ l : List Elm, z = (c1, c2, l, ()) ∧ (l.length : Int) = n ∧ EsOk l := by
    refine iterO_rec (step := fun x => (queryQ_l0 x).run) (Q := fun _ z => ∃ l : List Elm, z = (c1, c2, l, ()) ∧ (l.length : Int) = n ∧ EsOk l)
      (fun y => y.1 = p ∧ y.2.1 = n ∧ 0 ≤ y.2.2.1 ∧ y.2.2.1 ≤ n ∧ y.2.2.2.1 = c1 ∧ y.2.2.2.2.1 = c2 ∧ (y.2.2.2.2.2.1.length : Int) = y.2.2.1 ∧ EsOk y.2.2.2.2.2.1) (fun y => (n - y.2.2.1).toNat) ?_ _ ⟨rfl, rfl, by dsimp only; omega, by dsimp only; omega, rfl, rfl, by simp, fun k e h => by simp at h⟩
    rintro ⟨p', n', i, d1, d2, acc, ⟨⟩⟩ hx
    dsimp only at hx ⊢
    obtain ⟨rfl, rfl, h0, h1, rfl, rfl, h2, h3⟩ := hx
    by_cases hi : i < n'
    · obtain ⟨y, hy, e, rfl, he⟩ := queryQ_step2 p' n' i d1 d2 acc h0 hi hn h2
      refine .inl ⟨_, hy, ?_, ?_, fun z hz => hz⟩
      · refine ⟨rfl, rfl, by dsimp only; omega, by dsimp only; omega, rfl, rfl, ?_, h3.snoc (by rw [h2]; exact he)⟩
        show (((acc ++ [e]).length : Nat) : Int) = i + 1
        rw [List.length_append, List.length_singleton]; omega
      · dsimp only; omega
    · refine .inr ⟨(d1, d2, acc, ()), ?_, acc, rfl, by omega, h3⟩
      unfold queryQ_l0
      dsimp only
      rw [show decide (i < n') = false from decide_eq_false hi]
      rfl
  exact ⟨l, hz, h1, h2⟩

theorem queryQ_at2 (p : List Int) : ∃ q : Qry, queryQ (p, ()) = some (q, ()) ∧ EsOk q.1 ∧ 1 ≤ q.1.length ∧ q.1.length ≤ 4 := by
  unfold queryQ queryQ_B
  dsimp only
  have hx := mask_in (List.getD p (Int.toNat 0) 0) 16777215 (by decide) (by decide)
  generalize IntKind.wrap IntKind.i64 (↑(BitVec.toNat (BitVec.ofInt (IntKind.bits IntKind.i64) (List.getD p (Int.toNat 0) 0) &&& BitVec.ofInt (IntKind.bits IntKind.i64) 16777215)) : Int) = x at hx ⊢
  have h3 := mask_in x 3 (by decide) (by decide)
  generalize IntKind.wrap IntKind.i64 (↑(BitVec.toNat (BitVec.ofInt (IntKind.bits IntKind.i64) x &&& BitVec.ofInt (IntKind.bits IntKind.i64) 3)) : Int) = m at h3 ⊢
  have h6 := mask_in (Int.fdiv x (2 ^ min (Int.toNat 6) (IntKind.bits IntKind.i64))) 3 (by decide) (by decide)
  generalize IntKind.wrap IntKind.i64 (↑(BitVec.toNat (BitVec.ofInt (IntKind.bits IntKind.i64) (Int.fdiv x (2 ^ min (Int.toNat 6) (IntKind.bits IntKind.i64))) &&& BitVec.ofInt (IntKind.bits IntKind.i64) 3)) : Int) = c at h6 ⊢
  have hw : IntKind.wrap .i64 (m + 1) = m + 1 := Go.PI.wrap_small (by omega) (by omega)
  rw [hw]
  suffices h : BT (fun y : Qry × Unit => EsOk y.1.1 ∧ 1 ≤ y.1.1.length ∧ y.1.1.length ≤ 4) _ by
    obtain ⟨⟨q, ⟨⟩⟩, hq, h1, h2⟩ := h
    exact ⟨q, hq, h1, h2⟩
  refine BT.cond (fun hp => ?_) (fun _ => ?_)
  · refine BT.yes (by simp only [decide_eq_true_eq] at hp; simp; omega) ?_
    refine BT.fls (BT.fls (BT.yes ?_ (BT.opt ?_)))
    · show (decide (0 ≤ c) && decide (c < (4 : Int))) = true
      simp; omega
    · obtain ⟨l, hl, l1, l2⟩ := queryQ_w0_at2 p (m + 1) _ _ (by omega) (by omega)
      exact ⟨_, hl, BT.ret ⟨l2, by dsimp only; omega, by dsimp only; omega⟩⟩
  · refine BT.fls (BT.fls (BT.yes rfl (BT.opt ?_)))
    obtain ⟨l, hl, l1, l2⟩ := queryQ_w0_at2 p 1 1 100 (by omega) (by omega)
    exact ⟨_, hl, BT.ret ⟨l2, by dsimp only; omega, by dsimp only; omega⟩⟩
end Go.Proofs.Ytnhiplibodkciaa
