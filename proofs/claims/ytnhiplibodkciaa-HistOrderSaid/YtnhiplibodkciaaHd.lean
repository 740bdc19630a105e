/- HistOrder: the statement comes to true. HistOrder: whatever comes in. -/
import Derived.Test.YtnhiplibodkciaaHoF
import Derived.Test.YtnhiplibodkciaaW8
namespace Go.Proofs.Ytnhiplibodkciaa
open Go.PI Go

theorem awake47_at : awake47 () = some (true, ()) := awake47_le 100 _ _ (by kernel_rfl)

theorem rg {n : Nat} {i : Int} (h0 : 0 ≤ i) (h1 : i < n) : (decide (0 ≤ i) && decide (i < (n : Int))) = true := by simp; omega

theorem hist_w1_at (s : Int) (ok : Bool) (n i : Int) (l o : List SpT) (hl : l.length ≤ 1000) (i0 : 0 ≤ i) (i1 : i < l.length) : histOrder_w1 (s, ok, n, i, 0, l, o, ()) = some (.inr (s, ok, n, i, l, o, ())) := by
  suffices hh : ∃ z, histOrder_w1 (s, ok, n, i, 0, l, o, ()) = some z ∧ z = .inr (s, ok, n, i, l, o, ()) by
    obtain ⟨z, hz, rfl⟩ := hh
    exact hz
  refine iterO_b (step := histOrder_l1) (fun y => ∃ j : Int, y = (s, ok, n, i, j, l, o, ()) ∧ 0 ≤ j ∧ j ≤ l.length) (fun y => ((l.length : Int) - y.2.2.2.2.1).toNat) _ ?_ _ ⟨0, rfl, Int.le_refl 0, by omega⟩
  rintro y ⟨j, rfl, j0, j1⟩
  by_cases hj : j < (l.length : Int)
  · have hw : IntKind.wrap .i64 (j + 1) = j + 1 := Go.PI.wrap_small (by omega) (by omega)
    suffices h : BT (fun y => y = .inl (s, ok, n, i, j + 1, l, o, ())) (histOrder_l1 (s, ok, n, i, j, l, o, ())) by
      obtain ⟨y, hy, rfl⟩ := h
      exact ⟨_, hy, .inl ⟨_, rfl, ⟨j + 1, rfl, by omega, by omega⟩, by dsimp only; omega⟩⟩
    unfold histOrder_l1
    dsimp only
    rw [hw]
    refine BT.pos (decide_eq_true hj) (BT.pos (rg i0 i1) (BT.pos (rg j0 hj) (BT.opt ⟨_, aheadH_at _ _, BT.pos (rg i0 i1) ?_⟩)))
    by_cases hr : 0 ≤ rep (l.getD i.toNat spZ)
    · refine BT.pos (decide_eq_true (show rep (l.getD i.toNat spZ) ≥ 0 from hr)) (BT.pos (rg i0 i1) (BT.pos (rg j0 hj) (BT.neg ?_ (BT.ret rfl))))
      show (!(ahd (l.getD i.toNat spZ) (l.getD j.toNat spZ) == decide (rep (l.getD i.toNat spZ) < cal (l.getD j.toNat spZ)))) = false
      unfold ahd
      rw [decide_eq_true hr, Bool.true_and, beq_self_eq_true]
      rfl
    · refine BT.neg (decide_eq_false (show ¬ rep (l.getD i.toNat spZ) ≥ 0 from hr)) (BT.neg ?_ (BT.ret rfl))
      show (!(ahd (l.getD i.toNat spZ) (l.getD j.toNat spZ) == false)) = false
      unfold ahd
      rw [decide_eq_false hr, Bool.false_and]
      rfl
  · refine ⟨.inr (.inr (s, ok, n, i, l, o, ())), ?_, .inr ⟨_, rfl, rfl⟩⟩
    unfold histOrder_l1
    simp only [Br.run, decide_eq_false hj, cond_false]

theorem hist_w0_at (s : Int) (ok : Bool) (l o : List SpT) (hl : l.length ≤ 1000) : histOrder_w0 (s, ok, 0, 0, l, o, ()) = some (.inr (s, ok, (l.countP isT : Int), o, ())) := by
  suffices hh : ∃ z, histOrder_w0 (s, ok, 0, 0, l, o, ()) = some z ∧ z = .inr (s, ok, (l.countP isT : Int), o, ()) by
    obtain ⟨z, hz, rfl⟩ := hh
    exact hz
  refine iterO_b (step := histOrder_l0) (fun y => ∃ (n i : Int), y = (s, ok, n, i, l, o, ()) ∧ 0 ≤ i ∧ i ≤ l.length ∧ 0 ≤ n ∧ n ≤ i ∧ (l.countP isT : Int) = n + ((l.drop i.toNat).countP isT : Nat)) (fun y => ((l.length : Int) - y.2.2.2.1).toNat) _ ?_ _ ⟨0, 0, rfl, Int.le_refl 0, by omega, Int.le_refl 0, Int.le_refl 0, by simp⟩
  rintro y ⟨n, i, rfl, i0, i1, n0, n1, hc⟩
  by_cases hi : i < (l.length : Int)
  · have hw : IntKind.wrap .i64 (i + 1) = i + 1 := Go.PI.wrap_small (by omega) (by omega)
    have hwn : IntKind.wrap .i64 (n + 1) = n + 1 := Go.PI.wrap_small (by omega) (by omega)
    rw [drop_get l i spZ i0 hi, List.countP_cons] at hc
    suffices h : BT (fun y => y = .inl (s, ok, (if isT (l.getD i.toNat spZ) = true then n + 1 else n), i + 1, l, o, ())) (histOrder_l0 (s, ok, n, i, l, o, ())) by
      obtain ⟨y, hy, rfl⟩ := h
      refine ⟨_, hy, .inl ⟨_, rfl, ⟨_, i + 1, rfl, by omega, by omega, by split <;> omega, by split <;> omega, ?_⟩, by dsimp only; omega⟩⟩
      split
      · rename_i ht
        rw [if_pos ht] at hc
        omega
      · rename_i ht
        rw [if_neg ht] at hc
        omega
    unfold histOrder_l0
    dsimp only
    refine BT.pos (decide_eq_true hi) (BT.pos (rg i0 hi) ?_)
    by_cases ht : turn (l.getD i.toNat spZ) ≥ 0
    · refine BT.pos (decide_eq_true ht) (BT.opt ⟨_, by rw [hwn]; exact hist_w1_at s ok (n + 1) i l o hl i0 hi, BT.sumr (BT.ret ?_)⟩)
      rw [show isT (l.getD i.toNat spZ) = true from decide_eq_true ht, if_pos rfl]
      dsimp only
      rw [hw]
    · refine BT.neg (decide_eq_false ht) (BT.opt ⟨_, hist_w1_at s ok n i l o hl i0 hi, BT.sumr (BT.ret ?_)⟩)
      rw [show isT (l.getD i.toNat spZ) = false from decide_eq_false ht]
      dsimp only
      rw [hw]
      rfl
  · refine ⟨.inr (.inr (s, ok, n, o, ())), ?_, .inr ⟨_, rfl, ?_⟩⟩
    · unfold histOrder_l0
      simp only [Br.run, decide_eq_false hi, cond_false]
    · rw [hc, List.drop_eq_nil_of_le (by omega)]
      simp

theorem hist_w2_at (s n : Int) (o : List SpT) (hl : o.length ≤ 1000) (ho : ∀ x y : Nat, x < y → y < o.length → turn (o.getD x spZ) < turn (o.getD y spZ)) : histOrder_w2 (s, n, 1, o, ()) = some (.inr (s, n, o, ())) := by
  suffices hh : ∃ z, histOrder_w2 (s, n, 1, o, ()) = some z ∧ z = .inr (s, n, o, ()) by
    obtain ⟨z, hz, rfl⟩ := hh
    exact hz
  refine iterO_b (step := histOrder_l2) (fun y => ∃ i : Int, y = (s, n, i, o, ()) ∧ 1 ≤ i ∧ i ≤ o.length + 1) (fun y => ((o.length : Int) + 1 - y.2.2.1).toNat) _ ?_ _ ⟨1, rfl, Int.le_refl 1, by omega⟩
  rintro y ⟨i, rfl, i0, i1⟩
  unfold histOrder_l2
  by_cases hi : i < (o.length : Int)
  · have hw : IntKind.wrap .i64 (i + 1) = i + 1 := Go.PI.wrap_small (by omega) (by omega)
    have hw1 : IntKind.wrap .i64 (i - 1) = i - 1 := Go.PI.wrap_small (by omega) (by omega)
    have h1 := ho (i - 1).toNat i.toNat (by omega) (by omega)
    have hn : ¬ turn (o.getD (i - 1).toNat spZ) ≥ turn (o.getD i.toNat spZ) := by omega
    refine ⟨.inl (s, n, i + 1, o, ()), ?_, .inl ⟨_, rfl, ⟨i + 1, rfl, by omega, by omega⟩, by dsimp only; omega⟩⟩
    simp only [Br.run, decide_eq_true hi, hw1, decide_eq_true (show (0 : Int) ≤ i - 1 by omega), decide_eq_true (show i - 1 < (o.length : Int) by omega), decide_eq_true (show (0 : Int) ≤ i by omega), Bool.and_self, cond_true, decide_eq_false hn, cond_false, hw]
  · refine ⟨.inr (.inr (s, n, o, ())), ?_, .inr ⟨_, rfl, rfl⟩⟩
    simp only [Br.run, decide_eq_false hi, cond_false]

theorem hist_w4_at (n : Int) (want : Bool) (a : Int) (o : List SpT) (hl : o.length ≤ 1000) (a0 : 0 ≤ a) (a1 : a < o.length) : ∃ w, histOrder_w4 (n, want, a, 0, o, ()) = some (n, w, a, o, ()) ∧ (w = true ↔ want = true ∧ ∀ b : Nat, (b : Int) < a → ahd (o.getD a.toNat spZ) (o.getD b spZ) = false) := by
  suffices hh : ∃ z, histOrder_w4 (n, want, a, 0, o, ()) = some z ∧ ∃ w, z = (n, w, a, o, ()) ∧ (w = true ↔ want = true ∧ ∀ b : Nat, (b : Int) < a → ahd (o.getD a.toNat spZ) (o.getD b spZ) = false) by
    obtain ⟨z, hz, w, rfl, h⟩ := hh
    exact ⟨w, hz, h⟩
  refine iterO_b (step := histOrder_l4) (fun y => ∃ (w : Bool) (b : Int), y = (n, w, a, b, o, ()) ∧ 0 ≤ b ∧ b ≤ a ∧ (w = true ↔ want = true ∧ ∀ c : Nat, (c : Int) < b → ahd (o.getD a.toNat spZ) (o.getD c spZ) = false)) (fun y => (a - y.2.2.2.1).toNat) _ ?_ _ ⟨want, 0, rfl, Int.le_refl 0, a0, ⟨fun h => ⟨h, fun c hc => by omega⟩, fun h => h.1⟩⟩
  rintro y ⟨w, b, rfl, b0, b1, hiff⟩
  by_cases hb : b < a
  · have hw : IntKind.wrap .i64 (b + 1) = b + 1 := Go.PI.wrap_small (by omega) (by omega)
    have bl : b < (o.length : Int) := by omega
    suffices h : BT (fun y => y = .inl (n, w && !ahd (o.getD a.toNat spZ) (o.getD b.toNat spZ), a, b + 1, o, ())) (histOrder_l4 (n, w, a, b, o, ())) by
      obtain ⟨y, hy, rfl⟩ := h
      refine ⟨_, hy, .inl ⟨_, rfl, ⟨_, b + 1, rfl, by omega, by omega, ?_⟩, by dsimp only; omega⟩⟩
      rw [Bool.and_eq_true, hiff, Bool.not_eq_true']
      constructor
      · rintro ⟨⟨h1, h2⟩, h3⟩
        refine ⟨h1, fun c hc => ?_⟩
        by_cases e : (c : Int) < b
        · exact h2 c e
        · have : c = b.toNat := by omega
          rw [this]; exact h3
      · rintro ⟨h1, h2⟩
        exact ⟨⟨h1, fun c hc => h2 c (by omega)⟩, h2 b.toNat (by omega)⟩
    unfold histOrder_l4
    dsimp only
    rw [hw]
    refine BT.pos (decide_eq_true hb) ?_
    cases w
    · exact BT.neg rfl (BT.ret rfl)
    · refine BT.pos rfl (BT.pos (rg a0 a1) ?_)
      by_cases hr : 0 ≤ rep (o.getD a.toNat spZ)
      · refine BT.pos (decide_eq_true (show rep (o.getD a.toNat spZ) ≥ 0 from hr)) (BT.pos (rg a0 a1) (BT.pos (rg b0 bl) (BT.ret ?_)))
        have : ahd (o.getD a.toNat spZ) (o.getD b.toNat spZ) = decide (rep (o.getD a.toNat spZ) < cal (o.getD b.toNat spZ)) := by
          unfold ahd
          rw [decide_eq_true hr, Bool.true_and]
        rw [this, Bool.true_and]
      · refine BT.neg (decide_eq_false (show ¬ rep (o.getD a.toNat spZ) ≥ 0 from hr)) (BT.ret ?_)
        have : ahd (o.getD a.toNat spZ) (o.getD b.toNat spZ) = false := by
          unfold ahd
          rw [decide_eq_false hr, Bool.false_and]
        rw [this]
        rfl
  · refine ⟨.inr (n, w, a, o, ()), ?_, .inr ⟨_, rfl, w, rfl, by rw [hiff, show b = a by omega]⟩⟩
    unfold histOrder_l4
    simp only [Br.run, decide_eq_false hb, cond_false]

theorem hist_w3_at (o : List SpT) (hl : o.length ≤ 1000) : ∃ w, histOrder_w3 ((o.length : Int), true, 0, o, ()) = some (w, o, ()) ∧ (w = true ↔ Resp o) := by
  suffices hh : ∃ z, histOrder_w3 ((o.length : Int), true, 0, o, ()) = some z ∧ ∃ w, z = (w, o, ()) ∧ (w = true ↔ Resp o) by
    obtain ⟨z, hz, w, rfl, h⟩ := hh
    exact ⟨w, hz, h⟩
  refine iterO_b (step := histOrder_l3) (fun y => ∃ (w : Bool) (a : Int), y = ((o.length : Int), w, a, o, ()) ∧ 0 ≤ a ∧ a ≤ o.length ∧ (w = true ↔ ∀ x b : Nat, b < x → (x : Int) < a → ahd (o.getD x spZ) (o.getD b spZ) = false)) (fun y => ((o.length : Int) - y.2.2.1).toNat) _ ?_ _ ⟨true, 0, rfl, Int.le_refl 0, by omega, ⟨fun _ x b _ h => by omega, fun _ => rfl⟩⟩
  rintro y ⟨w, a, rfl, a0, a1, hiff⟩
  unfold histOrder_l3
  by_cases ha : a < (o.length : Int)
  · have hw : IntKind.wrap .i64 (a + 1) = a + 1 := Go.PI.wrap_small (by omega) (by omega)
    obtain ⟨w', e1, e2⟩ := hist_w4_at (o.length : Int) w a o hl a0 ha
    refine ⟨.inl ((o.length : Int), w', a + 1, o, ()), ?_, .inl ⟨_, rfl, ⟨w', a + 1, rfl, by omega, by omega, ?_⟩, by dsimp only; omega⟩⟩
    · simp only [Br.run, decide_eq_true ha, cond_true, e1, hw]
    · rw [e2, hiff]
      constructor
      · rintro ⟨h1, h2⟩ x b hb hx
        by_cases e : (x : Int) < a
        · exact h1 x b hb e
        · have : x = a.toNat := by omega
          rw [this]
          exact h2 b (by omega)
      · intro h
        exact ⟨fun x b hb hx => h x b hb (by omega), fun b hb => h a.toNat b (by omega) (by omega)⟩
  · refine ⟨.inr (w, o, ()), ?_, .inr ⟨_, rfl, w, rfl, ?_⟩⟩
    · simp only [Br.run, decide_eq_false ha, cond_false]
    · rw [hiff]
      exact ⟨fun h i j hj hi => h i j hj (by omega), fun h x b hb hx => h x b hb (by omega)⟩
end Go.Proofs.Ytnhiplibodkciaa

namespace Go.Proofs.Ytnhiplibodkciaa
open Go.PI Go

theorem order_facts {out o : List SpT} {A N : List Int} {i : Int} (h : SInv out A N i) (hp : o.Perm (out.filter isT)) (hs : ∀ x y : Nat, x < y → y < o.length → turn (o.getD x spZ) ≤ turn (o.getD y spZ)) :
    o.length = out.countP isT ∧ (∀ x y : Nat, x < y → y < o.length → turn (o.getD x spZ) < turn (o.getD y spZ)) ∧ Resp o := by
  have hlen : o.length = out.countP isT := by rw [hp.length_eq, List.countP_eq_length_filter]
  have p1 : out.Pairwise (fun a b => isT a = true → isT b = true → turn a ≠ turn b) := by
    refine List.pairwise_iff_getElem.2 fun x y hx hy hxy ha hb e => ?_
    have := h.tu x y _ _ (List.getElem?_eq_getElem hx) (List.getElem?_eq_getElem hy) (of_decide_eq_true ha) e
    omega
  have p2 : (out.filter isT).Pairwise (fun a b => turn a ≠ turn b) := by
    refine (p1.filter isT).imp_of_mem fun {a b} ha hb hr => hr (List.mem_filter.1 ha).2 (List.mem_filter.1 hb).2
  have p3 : o.Pairwise (fun a b => turn a ≠ turn b) := (hp.pairwise_iff (fun {a b} h => Ne.symm h)).2 p2
  have strict : ∀ x y : Nat, x < y → y < o.length → turn (o.getD x spZ) < turn (o.getD y spZ) := fun x y hxy hy => by
    have h1 := hs x y hxy hy
    have h2 := List.pairwise_iff_getElem.1 p3 x y (by omega) hy hxy
    rw [at_lt _ _ _ hy, at_lt _ x _ (by omega)] at h1 ⊢
    omega
  have mem : ∀ x : Nat, x < o.length → PS A N i (o.getD x spZ) ∧ 0 ≤ turn (o.getD x spZ) := fun x hx => by
    have hm : o.getD x spZ ∈ out.filter isT := hp.subset (by rw [at_lt _ _ _ hx]; exact List.getElem_mem hx)
    obtain ⟨h1, h2⟩ := List.mem_filter.1 hm
    obtain ⟨j, hj⟩ := List.getElem?_of_mem h1
    exact ⟨h.ps j _ hj, of_decide_eq_true h2⟩
  refine ⟨hlen, strict, fun a b hba ha => ?_⟩
  obtain ⟨q1, q2⟩ := mem a ha
  obtain ⟨q3, q4⟩ := mem b (by omega)
  have h1 := strict b a hba ha
  have h2 := q3.2.2.1 q4
  unfold ahd
  by_cases hr : 0 ≤ rep (o.getD a spZ)
  · have h3 := q1.2.2.2.1 q2 hr
    rw [decide_eq_true hr, Bool.true_and]
    exact decide_eq_false (by omega)
  · rw [decide_eq_false hr, Bool.false_and]

theorem histOrder_at (p : List Int) (s : Int) : histOrder (p, s, ()) = some (true, ()) := by
  obtain ⟨h, e1, h30, hg⟩ := madeH_at p
  obtain ⟨out, A, N, e2, hI, hA⟩ := spansH_made h30 hg
  obtain ⟨o, e3, hp, hs⟩ := orderH_at hI (by omega) hA
  obtain ⟨hf, hout⟩ := done_few hI hA (by omega)
  obtain ⟨hlen, hst, hr⟩ := order_facts hI hp hs
  have e4 := hist_w0_at s true out o (by omega)
  obtain ⟨b1, e5, hb1⟩ := respH_at o (by omega)
  obtain rfl : b1 = true := hb1.2 hr
  have e6 := hist_w2_at s (out.countP isT : Int) o (by omega) hst
  have hne : ((o.length : Int) != (out.countP isT : Int)) = false := by rw [hlen]; exact bne_self_eq_false _
  unfold histOrder histOrder_B
  dsimp only
  simp only [Br.run, e1, e2, e3, e4, Bool.not_true, cond_false, hne, e5, e6]
  by_cases h2 : (out.countP isT : Int) < 2
  · simp only [Br.run, decide_eq_true h2, cond_true, awake47_at]
  · have hn0 : ¬ ((out.countP isT : Int) = 0) := by omega
    have hM1 := mask_in s 255 (by decide) (by decide)
    have hM2 := mask_in (Int.fdiv s (2 ^ min (Int.toNat 8) (IntKind.bits .i64))) 255 (by decide) (by decide)
    simp only [decide_eq_false h2, cond_false, decide_eq_false hn0]
    generalize IntKind.wrap IntKind.i64 (↑(BitVec.toNat (BitVec.ofInt (IntKind.bits IntKind.i64) s &&& BitVec.ofInt (IntKind.bits IntKind.i64) 255)) : Int) = M1 at hM1 ⊢
    generalize IntKind.wrap IntKind.i64 (↑(BitVec.toNat (BitVec.ofInt (IntKind.bits IntKind.i64) (Int.fdiv s (2 ^ min (Int.toNat 8) (IntKind.bits .i64))) &&& BitVec.ofInt (IntKind.bits IntKind.i64) 255)) : Int) = M2 at hM2 ⊢
    have t1 : 0 ≤ Int.tmod M1 (out.countP isT : Int) := Int.tmod_nonneg _ hM1.1
    have t2 : Int.tmod M1 (out.countP isT : Int) < (o.length : Int) := by rw [hlen]; exact Int.tmod_lt_of_pos M1 (by omega)
    have t3 : 0 ≤ Int.tmod M2 (out.countP isT : Int) := Int.tmod_nonneg _ hM2.1
    have t4 : Int.tmod M2 (out.countP isT : Int) < (o.length : Int) := by rw [hlen]; exact Int.tmod_lt_of_pos M2 (by omega)
    generalize Int.tmod M1 (out.countP isT : Int) = a at t1 t2 ⊢
    generalize Int.tmod M2 (out.countP isT : Int) = b at t3 t4 ⊢
    have key : ∀ o' : List SpT, o'.length = o.length → BT (fun y => y = (true, ())) (.opt (histOrder_w3 ((out.countP isT : Int), true, 0, o', ())) fun z => .opt (awake47 ()) fun y => .cond y.1 (.opt (respH (z.2.1, ())) fun y2 => .ret (y2.1 == z.1, ())) (.ret (false, ()))) := fun o' ho' => by
      obtain ⟨w, f1, f2⟩ := hist_w3_at o' (by omega)
      obtain ⟨b', f3, f4⟩ := respH_at o' (by omega)
      have : b' = w := by
        cases b' <;> cases w <;> simp_all
      subst this
      rw [ho', hlen] at f1
      exact BT.opt ⟨_, f1, BT.opt ⟨_, awake47_at, BT.pos rfl (BT.opt ⟨_, f3, BT.ret (by simp)⟩)⟩⟩
    obtain ⟨y, hy, rfl⟩ := key ((o.set a.toNat (o.getD b.toNat spZ)).set b.toNat (o.getD a.toNat spZ)) (by rw [List.length_set, List.length_set])
    simp only [List.length_set, decide_eq_true t1, decide_eq_true t2, decide_eq_true t3, decide_eq_true t4, Bool.and_self, cond_true]
    exact hy
end Go.Proofs.Ytnhiplibodkciaa
