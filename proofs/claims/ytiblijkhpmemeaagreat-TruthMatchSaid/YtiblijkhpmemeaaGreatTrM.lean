/- Whatever pairs come: they are a match just where they are one of all; and a reason tells why not. -/
import Derived.Test.YtiblijkhpmemeaaGreatTrD
import Derived.Test.YtiblijkhpmemeaaGreatT4d
namespace Go.Proofs.YtiblijkhpmemeaaGreat
open Go.PI Go
theorem samePs_at (a b : List Prs) (ha : a.length ≤ 1000000) : ∃ c, samePs (a, b, ()) = some (c, ()) ∧ (c = true ↔ a = b) := by
 by_cases hl : a.length = b.length
 ·obtain ⟨z, hz, h⟩ : ∃ z, samePs_w0 (a, b, 0, ()) = some z ∧ ((z = .inl () ∧ a ≠ b) ∨ (z = .inr () ∧ a = b)) := by
   refine iterO_bt (step := samePs_l0) (fun y => ∃ i : Int, y = (a, b, i, ()) ∧ 0 ≤ i ∧ i ≤ a.length ∧ ∀ k : Nat, (k : Int) < i → a.getD k (0, 0) = b.getD k (0, 0)) (fun y => ((a.length : Int) - y.2.2.1).toNat) _ ?_ _ ⟨0, rfl, Int.le_refl _, by omega, fun k h => by omega⟩
   rintro y ⟨i, rfl, g0, g1, g2⟩
   unfold samePs_l0
   by_cases hi : i < (a.length : Int)
   ·have hw : IntKind.wrap .i64 (i + 1) = i + 1 := Go.PI.wrap_small (by omega) (by omega)
    refine BT.lt (decide_eq_true hi) (BT.yes (in2 g0 hi) (BT.yes (in2 g0 (by omega)) (BT.cond (fun hc => BT.ends (.inl ⟨rfl, fun e => ?_⟩)) (fun hc => BT.goes ⟨⟨i + 1, by rw [hw], by omega, by omega, fun k hk => ?_⟩, ?_⟩))))
    ·subst e
     simp at hc
    ·by_cases hki : (k : Int) = i
     ·obtain rfl : k = i.toNat := by omega
      simp at hc
      exact Prod.ext hc.1 hc.2
     ·exact g2 k (by omega)
    ·dsimp only
     rw [hw]
     omega
   ·exact BT.ge (decide_eq_false hi) (BT.ends (.inr ⟨rfl, ext_getD (0, 0) hl fun k hk => g2 k (by omega)⟩))
  have hne : (((a.length : Nat) : Int) != ((b.length : Nat) : Int)) = false := by rw [hl]; simp
  unfold samePs samePs_B
  simp only [Br.run, hne, cond_false, hz]
  rcases h with ⟨rfl, h⟩ | ⟨rfl, h⟩
  ·exact ⟨false, rfl, ⟨fun e => (by cases e), fun e => absurd e h⟩⟩
  ·exact ⟨true, rfl, ⟨fun _ => h, fun _ => rfl⟩⟩
 ·have hne : (((a.length : Nat) : Int) != ((b.length : Nat) : Int)) = true := by simp; omega
  refine ⟨false, ?_, ⟨fun e => (by cases e), fun e => absurd (congrArg List.length e) hl⟩⟩
  unfold samePs samePs_B
  simp only [Br.run, hne, cond_true]
theorem truthMatch_w0_at (n : List Int) (S : Option zA11) (x : List Evt) (ms : List (List Prs)) (q : Qry) : ∃ m : List Prs, truthMatch_w0 (n, S, x, ms, 0, q, [], ()) = some (n, S, x, ms, q, m, ()) ∧ m.length ≤ 5 := by
 obtain ⟨z, hz, m, rfl, hm⟩ : ∃ z, truthMatch_w0 (n, S, x, ms, 0, q, [], ()) = some z ∧ ∃ m : List Prs, z = (n, S, x, ms, q, m, ()) ∧ m.length ≤ 5 := by
  refine iterO_bt (step := truthMatch_l0) (fun y => ∃ (i : Int) (m : List Prs), y = (n, S, x, ms, i, q, m, ()) ∧ 0 ≤ i ∧ i ≤ 5 ∧ (m.length : Int) = i) (fun y => ((5 : Int) - y.2.2.2.2.1).toNat) _ ?_ _ ⟨0, [], rfl, Int.le_refl _, by omega, rfl⟩
  rintro y ⟨i, m, rfl, g0, g1, g2⟩
  unfold truthMatch_l0
  try unfold zAn
  try unfold zSh
  have hw : IntKind.wrap .i64 (i + 1) = i + 1 := Go.PI.wrap_small (by omega) (by omega)
  by_cases hi : i < (n.length : Int)
  ·by_cases h5 : i < 5
   ·refine BT.lt (decide_eq_true hi) (BT.lt (decide_eq_true h5) (BT.yes (in2 g0 hi) (BT.yes (in2 g0 hi) (BT.fls (BT.yes (decide_eq_true ?_) (BT.goes ⟨⟨i + 1, m ++ [_], by rw [hw]; rfl, by omega, by omega, by rw [List.length_append, List.length_singleton]; omega⟩, ?_⟩))))))
    ·show (m.length + 1) * 16 ≤ _
     omega
    ·dsimp only
     rw [hw]
     omega
   ·exact BT.lt (decide_eq_true hi) (BT.ge (decide_eq_false h5) (BT.ends ⟨m, rfl, by omega⟩))
  ·exact BT.ge (decide_eq_false hi) (BT.ends ⟨m, rfl, by omega⟩)
 exact ⟨m, hz, hm⟩
theorem truthMatch_w1_at (S : Option zA11) (x : List Evt) (ms : List (List Prs)) (q : Qry) (m0 : List Prs) (h0 : m0.length ≤ 40) : ∃ m : List Prs, truthMatch_w1 (S, x, ms, 0, q, m0, ()) = some (S, x, ms, q, m, ()) ∧ m.length ≤ 40 := by
 obtain ⟨z, hz, m, rfl, hm⟩ : ∃ z, truthMatch_w1 (S, x, ms, 0, q, m0, ()) = some z ∧ ∃ m : List Prs, z = (S, x, ms, q, m, ()) ∧ m.length ≤ 40 := by
  refine iterO_bt (step := truthMatch_l1) (fun y => ∃ (i : Int) (m : List Prs), y = (S, x, ms, i, q, m, ()) ∧ 0 ≤ i ∧ m.length ≤ 40) (fun y => ((40 : Int) - y.2.2.2.1).toNat) _ ?_ _ ⟨0, m0, rfl, Int.le_refl _, h0⟩
  rintro y ⟨i, m, rfl, g0, g1⟩
  unfold truthMatch_l1
  by_cases hi : i < (m.length : Int)
  ·have hw : IntKind.wrap .i64 (i + 1) = i + 1 := Go.PI.wrap_small (by omega) (by omega)
   refine BT.lt (decide_eq_true hi) (BT.yes (in2 g0 hi) (BT.cond (fun hc => BT.yes (in2 g0 hi) (BT.goes ⟨⟨i + 1, _, by rw [hw], by omega, by rw [List.length_set]; exact g1⟩, ?_⟩)) (fun hc => BT.goes ⟨⟨i + 1, m, by rw [hw], by omega, g1⟩, ?_⟩)))
   ·dsimp only
    rw [hw]
    omega
   ·dsimp only
    rw [hw]
    omega
  ·exact BT.ge (decide_eq_false hi) (BT.ends ⟨m, rfl, g1⟩)
 exact ⟨m, hz, hm⟩
theorem truthMatch_w2_at (S : Option zA11) (x : List Evt) (ms : List (List Prs)) (q : Qry) (m : List Prs) (hms : ∀ a ∈ ms, a.length ≤ 1000000) (hl : ms.length ≤ 100000) : ∃ c, truthMatch_w2 (S, x, ms, false, 0, q, m, ()) = some (S, x, c, q, m, ()) ∧ (c = true ↔ m ∈ ms) := by
 obtain ⟨z, hz, c, rfl, hm⟩ : ∃ z, truthMatch_w2 (S, x, ms, false, 0, q, m, ()) = some z ∧ ∃ c, z = (S, x, c, q, m, ()) ∧ (c = true ↔ m ∈ ms) := by
  refine iterO_bt (step := truthMatch_l2) (fun y => ∃ (i : Int) (c : Bool), y = (S, x, ms, c, i, q, m, ()) ∧ 0 ≤ i ∧ i ≤ ms.length ∧ (c = true ↔ m ∈ ms.take i.toNat)) (fun y => ((ms.length : Int) - y.2.2.2.2.1).toNat) _ ?_ _ ⟨0, false, rfl, Int.le_refl _, by omega, by simp⟩
  rintro y ⟨i, c, rfl, g0, g1, g2⟩
  unfold truthMatch_l2
  by_cases hi : i < (ms.length : Int)
  ·have hw : IntKind.wrap .i64 (i + 1) = i + 1 := Go.PI.wrap_small (by omega) (by omega)
   have hlt : i.toNat < ms.length := by omega
   have ht : ms.take (i + 1).toNat = ms.take i.toNat ++ [ms.getD i.toNat []] := by
    rw [show (i + 1).toNat = i.toNat + 1 by omega, List.take_add_one, getD_opt (d := ([] : List Prs)) hlt]
   refine BT.lt (decide_eq_true hi) (BT.cond (fun hc => BT.goes ⟨⟨i + 1, true, by rw [hw], by omega, by omega, ⟨fun _ => ?_, fun _ => rfl⟩⟩, ?_⟩) (fun hc => BT.yes (in2 g0 hi) ?_))
   ·rw [ht]
    exact List.mem_append_left _ (g2.1 hc)
   ·dsimp only
    rw [hw]
    omega
   ·obtain ⟨b, hb, hb2⟩ := samePs_at (ms.getD i.toNat []) m (hms _ (by rw [getD_in _ _ _ hlt]; exact List.getElem_mem hlt))
    refine BT.opt ⟨_, hb, BT.goes ⟨⟨i + 1, b, by rw [hw], by omega, by omega, ?_⟩, ?_⟩⟩
    ·rw [ht, List.mem_append, List.mem_singleton, hb2, ← g2]
     constructor
     ·intro h; exact .inr h.symm
     ·rintro (h | h)
      ·rw [show c = false from hc] at h
       cases h
      ·exact h.symm
    ·dsimp only
     rw [hw]
     omega
  ·refine BT.ge (decide_eq_false hi) (BT.ends ⟨c, rfl, ?_⟩)
   rw [g2, List.take_of_length_le (by omega)]
 exact ⟨c, hz, hm⟩
noncomputable def tmTail (S : Option zA11) (x : List Evt) (ms : List (List Prs)) (q : Qry) (m : List Prs) : Br (Bool × Unit) :=
 (.opt (truthMatch_w1 (S, x, ms, 0, q, m, ())) fun z369 =>
 (.opt (truthMatch_w2 (z369.1, z369.2.1, z369.2.2.1, false, 0, z369.2.2.2.1, z369.2.2.2.2.1, ())) fun z378 =>
 (.opt (whyT (z378.1, z378.2.2.2.1, z378.2.1, z378.2.2.2.2.1, ())) fun y379 =>
 (.opt (awake20 ()) fun y380 =>
 (.cond y380.1
 (.opt (matchT (z378.1, z378.2.2.2.1, z378.2.1, z378.2.2.2.2.1, ())) fun y381 =>
 (.cond (y381.1 == z378.2.2.1)
 (.cond ((y379.1 == 0) == z378.2.2.1)
 (.cond (decide (y379.1 ≥ 0))
 (.cond (decide (y379.1 ≤ 5))
 (.ret ((y379.1 == 1) == ((↑(List.length z378.2.2.2.2.1) : Int) == 0), ()))
 (.ret (false, ())))
 (.ret (false, ())))
 (.ret (false, ())))
 (.ret (false, ()))))
 (.ret (false, ())))))))
theorem beq_of_iff {a b : Bool} (h : a = true ↔ b = true) : (a == b) = true := by
 cases a <;> cases b <;> simp at h ⊢
theorem tmTail_at {q : Qry} {x : List Evt} (hq : QMk q) (hx : XMk x) (ms : List (List Prs)) (hms : ∀ a, a ∈ ms ↔ FA q x a) (hlen : ∀ a ∈ ms, a.length ≤ 1000000) (hl : ms.length ≤ 100000) (m : List Prs) (hm : m.length ≤ 40) : BT (fun y => y = (true, ())) (tmTail sch3 x ms q m) := by
 obtain ⟨m1, e1, hm1⟩ := truthMatch_w1_at sch3 x ms q m hm
 obtain ⟨c, e2, hc⟩ := truthMatch_w2_at sch3 x ms q m1 hlen hl
 obtain ⟨w, e3, w0, w5, wF, w1⟩ := whyT_at hq hx hm1
 obtain ⟨b, e4, hb⟩ := matchT_at hq hx hm1
 have hcF : c = true ↔ FA q x m1 := hc.trans (hms m1)
 unfold tmTail
 refine BT.opt ⟨_, e1, BT.opt ⟨_, e2, BT.opt ⟨_, e3, BT.opt ⟨_, awake20_at, BT.lt rfl (BT.opt ⟨_, e4, BT.lt (beq_of_iff (hb.trans hcF.symm)) (BT.lt (beq_of_iff ?_) (BT.lt (decide_eq_true w0) (BT.lt (decide_eq_true w5) (BT.ret ?_))))⟩)⟩⟩⟩⟩
 ·rw [beq_iff_eq, wF, hcF]
 ·have : ((w == 1) == ((((m1 : List Prs).length : Nat) : Int) == 0)) = true := beq_of_iff (by
   rw [beq_iff_eq, beq_iff_eq, w1]
   exact ⟨fun h => by rw [h]; rfl, fun h => List.eq_nil_of_length_eq_zero (by omega)⟩)
  exact congrArg (fun b => (b, ())) this
theorem tmod_in {a b : Int} (h0 : 0 ≤ a) (hb : 0 < b) : (decide (0 ≤ Int.tmod a b) && decide (Int.tmod a b < b)) = true := in2 (Int.tmod_nonneg _ h0) (Int.tmod_lt_of_pos _ hb)
theorem truthMatch_at (p : List Int) (l : List Evt) (n : List Int) : truthMatch (p, l, n, ()) = some (true, ()) := by
 obtain ⟨q, e1, hq⟩ := queryQ_at3 p
 obtain ⟨x, e2, hx, hx6⟩ := events20_at2 l 6 (by decide) (by decide)
 obtain ⟨ms, e3, hms, hl⟩ := allM_t hq.good hx.len (fun e he => (hx.ev e he).good) hx.tm
 have hle : ∀ a ∈ ms, a.length ≤ x.length ∧ 0 < a.length := fun a ha => by
  have hF := (hms a).1 ha
  obtain ⟨i, i0, i1, f, hf⟩ := id hF
  refine ⟨hf.len (by simp; omega) (by omega), ?_⟩
  obtain ⟨p, s, r, rfl, -⟩ := (fa_iff hq.good (by have := hq.w0; omega) hx.ne a).1 hF
  simp
 have hx8 := hx.len
 have hlen : ∀ a ∈ ms, a.length ≤ 1000000 := fun a ha => by have := (hle a ha).1; omega
 obtain ⟨m, e4, hm5⟩ := truthMatch_w0_at n sch3 x ms q
 have tail := tmTail_at hq hx ms hms hlen hl
 suffices h : BT (fun y => y = (true, ())) (truthMatch_B (p, l, n, ())) by
  obtain ⟨y, hy, rfl⟩ := h
  exact hy
 unfold truthMatch_B
 try unfold zAn
 try unfold zSh
 refine BT.opt ⟨_, typesR_at, BT.opt ⟨_, newS_T3, BT.opt ⟨_, e1, BT.opt ⟨_, e2, BT.opt ⟨_, e3, BT.opt ⟨_, e4, BT.cond (fun hn => ?_) (fun hn => tail m (by omega))⟩⟩⟩⟩⟩⟩
 have hn : (n.length : Int) > 0 := of_decide_eq_true hn
 have n0 := in2 (Int.le_refl 0) hn
 refine BT.yes n0 (BT.fls (BT.cond (fun _ => BT.cond (fun hml => ?_) (fun _ => tail m (by omega))) (fun _ => tail m (by omega))))
 have hml : (ms.length : Int) > 0 := of_decide_eq_true hml
 have hj := tmod_in (mask_in (Int.fdiv (n.getD (Int.toNat 0) 0) (2 ^ min (Int.toNat 6) (IntKind.bits .i64))) 255 (by decide) (by decide)).1 hml
 have hj' := hj
 simp only [Bool.and_eq_true, decide_eq_true_eq] at hj'
 have hmem : ∀ j : Int, 0 ≤ j → j < ms.length → (ms.getD j.toNat []).length ≤ 8 ∧ 0 < (ms.getD j.toNat []).length := fun j h0 h1 => by
  have hlt : j.toNat < ms.length := by omega
  have := hle _ (show ms.getD j.toNat [] ∈ ms by rw [getD_in _ _ _ hlt]; exact List.getElem_mem hlt)
  omega
 have hA := hmem _ hj'.1 hj'.2
 refine BT.yes n0 (BT.fls (BT.ge (decide_eq_false (show ¬ ((ms.length : Int) = 0) by omega)) (BT.yes hj (BT.yes (decide_eq_true ?_) (BT.yes n0 (BT.fls (BT.cond (fun _ => BT.yes n0 (BT.fls (BT.ge (decide_eq_false ?_) (BT.yes n0 (BT.fls (BT.yes (tmod_in (mask_in _ 7 (by decide) (by decide)).1 ?_) (tail _ ?_))))))) (fun _ => tail _ ?_))))))))
 all_goals simp only [List.length_set, List.replicate_zero, List.nil_append, List.length_nil]
 all_goals omega
end Go.Proofs.YtiblijkhpmemeaaGreat
