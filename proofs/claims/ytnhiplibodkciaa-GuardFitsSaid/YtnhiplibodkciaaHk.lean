/- GuardFits: the statement comes to true. Twins of functions that the kernel reckons. Printed by twin.py. GuardFits: whatever comes in. -/
import Derived.Test.YtnhiplibodkciaaHj
import Derived.Test.YtnhiplibodkciaaF5a
import Derived.Test.YtnhiplibodkciaaHf
import Derived.Test.YtnhiplibodkciaaW1
import Derived.Test.YtnhiplibodkciaaHd
import Derived.Test.YtnhiplibodkciaaR7c
namespace Go.Proofs.Ytnhiplibodkciaa
open Go.PI Go

noncomputable def fitD (q : Qry) (a : Int) (e : Evt) (env : List Bnd) : Option (Bool × Unit) := match hasStr ((q.1.getD a.toNat elmZ).2.1, e.1, ()) with
  | some (true, _) => holdsF (sch3, (q.1.getD a.toNat elmZ).2.2.2.2.2, env ++ [((q.1.getD a.toNat elmZ).1, e)], ())
  | some (false, _) => some (false, ())
  | none => none
theorem fitD_tot {q : Qry} (h : QOk q) (a : Int) (e : Evt) (env : List Bnd) (he : env.length ≤ 60) : ∃ b, fitD q a e env = some (b, ()) := by
  obtain ⟨b, hb⟩ := hasStr_tot _ (qok_get h a.toNat) e.1
  unfold fitD
  rw [show hasStr ((q.1.getD a.toNat elmZ).2.1, e.1, ()) = some (b, ()) from hb]
  cases b
  · exact ⟨_, rfl⟩
  · exact holdsF_tot _ _ (by rw [List.length_append, List.length_singleton]; omega)
theorem fitsG_d {q : Qry} (h : QOk q) (r : RunT) (hr : r.2.2.1.length ≤ 60) (a : Int) (h0 : 0 ≤ a) (h1 : a < q.1.length) (e : Evt) : fitsG (sch3, q, r, a, e, ()) = fitD q a e r.2.2.1.reverse := by
  unfold fitsG fitsG_B envR envR_B listB fitD
  obtain ⟨b, hb⟩ := hasStr_tot _ (qok_get h a.toNat) e.1
  have n0 : ¬ a < 0 := by omega
  have n1 : ¬ a ≥ (↑(List.length q.1) : Int) := by omega
  have g2 : r.2.2.1.length * 88 ≤ 140737488355328 := by omega
  have hb' : hasStr ((q.1.getD a.toNat (ByteArray.empty, [], false, 0, 0, [])).2.1, e.1, ()) = some (b, ()) := hb
  simp only [Br.run, decide_eq_false n0, decide_eq_false n1, decide_eq_true h0, decide_eq_true h1, Bool.and_self, cond_true, cond_false, hb', decide_eq_true g2]
  cases b
  · rfl
  · obtain ⟨v, hv⟩ := holdsF_tot (q.1.getD a.toNat (ByteArray.empty, [], false, 0, 0, [])).2.2.2.2.2 (r.2.2.1.reverse ++ [((q.1.getD a.toNat (ByteArray.empty, [], false, 0, 0, [])).1, e)]) (by
      rw [List.length_append, List.length_reverse, List.length_singleton]
      omega)
    have hv' : holdsF (sch3, (q.1.getD a.toNat (ByteArray.empty, [], false, 0, 0, [])).2.2.2.2.2, r.2.2.1.reverse ++ List.set (List.replicate 1 (ByteArray.empty, ByteArray.empty, ByteArray.empty, 0, 0, [])) 0 ((q.1.getD a.toNat (ByteArray.empty, [], false, 0, 0, [])).1, e), ()) = some (v, ()) := hv
    simp only [Bool.not_true, cond_false, Bool.cond_decide]
    rw [if_pos (by
      show (r.2.2.1.reverse.length + 1) * 88 ≤ 140737488355328
      rw [List.length_reverse]
      omega)]
    simp only [hv', Br.run]
    exact hv.symm
theorem fitsT_d {q : Qry} (h : QOk q) (x : List Evt) (hx : x.length ≤ 1000) (m : List Prs) (hm : m.length ≤ 50) (a : Int) (h0 : 0 ≤ a) (h1 : a < q.1.length) (e : Evt) : fitsT (sch3, q, x, m, a, e, ()) = fitD q a e (m.filterMap (pickT q x a)) := by
  have hl : (m.filterMap (pickT q x a)).length ≤ m.length := List.length_filterMap_le ..
  unfold fitsT fitsT_B fitD
  obtain ⟨b, hb⟩ := hasStr_tot _ (qok_get h a.toNat) e.1
  have hb' : hasStr ((q.1.getD a.toNat (ByteArray.empty, [], false, 0, 0, [])).2.1, e.1, ()) = some (b, ()) := hb
  simp only [Br.run, decide_eq_true h0, decide_eq_true h1, Bool.and_self, cond_true, hb', envT_at q x hx m (by omega) a]
  cases b
  · rfl
  · obtain ⟨v, hv⟩ := holdsF_tot (q.1.getD a.toNat (ByteArray.empty, [], false, 0, 0, [])).2.2.2.2.2 (m.filterMap (pickT q x a) ++ [((q.1.getD a.toNat (ByteArray.empty, [], false, 0, 0, [])).1, e)]) (by
      rw [List.length_append, List.length_singleton]
      omega)
    have hv' : holdsF (sch3, (q.1.getD a.toNat (ByteArray.empty, [], false, 0, 0, [])).2.2.2.2.2, m.filterMap (pickT q x a) ++ List.set (List.replicate 1 (ByteArray.empty, ByteArray.empty, ByteArray.empty, 0, 0, [])) 0 ((q.1.getD a.toNat (ByteArray.empty, [], false, 0, 0, [])).1, e), ()) = some (v, ()) := hv
    simp only [Bool.not_true, cond_false, Bool.cond_decide]
    rw [if_pos (by
      show ((m.filterMap (pickT q x a)).length + 1) * 88 ≤ 140737488355328
      omega)]
    simp only [hv', Br.run]
    exact hv.symm

theorem filterMap_same {α β : Type} {f g : α → Option β} : ∀ {l : List α}, (∀ a ∈ l, f a = g a) → l.filterMap f = l.filterMap g
  | [], _ => rfl
  | a :: l, h => by
    rw [List.filterMap_cons, List.filterMap_cons, h a (List.mem_cons_self ..), filterMap_same fun b hb => h b (List.mem_cons_of_mem _ hb)]
theorem pick_same {q : Qry} (x : List Evt) (m : List Prs) (hm : m.Pairwise (fun a b => a.1 ≤ b.1)) (a : Int) (ha : a = elemR (m.foldl (againS q x) run0) + 1 ∨ (a = elemR (m.foldl (againS q x) run0) ∧ (q.1.getD a.toNat elmZ).2.2.2.2.1 > 1)) : m.filterMap (pickT q x a) = m.filterMap (pick q x) := by
  refine filterMap_same fun p hp => ?_
  unfold pickT
  by_cases h : p.1 < a
  · exact if_pos h
  · rw [if_neg h]
    unfold pick
    cases he : evOf x p.2 with
    | none => rfl
    | some e =>
      have := again_last q x m run0 hm p hp (by rw [he]; rfl)
      rcases ha with ha | ⟨ha, hM⟩
      · omega
      · have e1 : p.1 = a := by omega
        have : ¬ (0 ≤ p.1 ∧ p.1 < (q.1.length : Int) ∧ (q.1.getD p.1.toNat elmZ).2.2.2.2.1 = 1) := by
          rintro ⟨-, -, k⟩
          rw [e1] at k
          omega
        exact (if_neg this).symm

structure XGood (x : List Evt) : Prop where
  len : x.length ≤ 8
  good : ∀ e ∈ x, EvGood e

theorem guardFits_w2_at {q : Qry} (hq : QGood q) {x : List Evt} (hx : XGood x) (n : Int) (all : List (List Prs)) (i : Int) {m : List Prs} (hm : Ob q x m) (k : Int) (k0 : 0 ≤ k) (k1 : k ≤ m.length) (i' : Int) (bb : Bool) :
    guardFits_w2 (n, sch3, x, all, i, m, k, 0, i', bb, q, (1, ((m.take k.toNat).foldl (againS q x) run0).2), ()) = some (.inr (n, sch3, x, all, i, m, k, i', bb, q, ())) := by
  have hO : QOk q := hq.es.qok
  have hx8 := hx.len
  have hq4 := hq.hi
  obtain ⟨m1, m2, m3⟩ := hm
  have t1 : (m.take k.toNat).Pairwise (fun a b => a.1 ≤ b.1) := m1.sublist (List.take_sublist _ _)
  have t2 : (m.take k.toNat).length ≤ 8 := Nat.le_trans (List.length_take_le' _ _) (by omega)
  have t3 : ∀ p ∈ m.take k.toNat, 0 ≤ p.1 ∧ p.1 < q.1.length := fun p hp => m3 p (List.mem_of_mem_take hp)
  generalize hmt : m.take k.toNat = mt at t1 t2 t3 ⊢
  have hE1 : -1 ≤ elemR (mt.foldl (againS q x) run0) := again_ge q x (-1) mt run0 (Int.le_refl _) fun p hp => by have := t3 p hp; omega
  have hE2 : elemR (mt.foldl (againS q x) run0) < 100 := again_lt q x 100 mt run0 (by decide) fun p hp => by have := t3 p hp; omega
  have hv := again_env q x mt run0
  have hv2 : (mt.foldl (againS q x) run0).2.2.1.reverse = mt.filterMap (pick q x) := by
    rw [hv, List.append_nil, List.reverse_reverse]
  have hv3 : (mt.foldl (againS q x) run0).2.2.1.length ≤ 60 := by
    rw [hv, List.append_nil, List.length_reverse]
    exact Nat.le_trans (List.length_filterMap_le ..) (by omega)
  have hps : ∀ a, _ → mt.filterMap (pickT q x a) = mt.filterMap (pick q x) := fun a ha => pick_same x mt t1 a ha
  suffices hh : ∃ z, guardFits_w2 (n, sch3, x, all, i, m, k, 0, i', bb, q, (1, (mt.foldl (againS q x) run0).2), ()) = some z ∧ z = .inr (n, sch3, x, all, i, m, k, i', bb, q, ()) by
    obtain ⟨z, hz, rfl⟩ := hh
    exact hz
  generalize hr : mt.foldl (againS q x) run0 = r at hE1 hE2 hv2 hv3 hps ⊢
  refine iterO_bt (step := guardFits_l2) (fun y => ∃ j : Int, y = (n, sch3, x, all, i, m, k, j, i', bb, q, (1, r.2), ()) ∧ 0 ≤ j ∧ j ≤ x.length) (fun y => ((x.length : Int) - y.2.2.2.2.2.2.2.1).toNat) _ ?_ _ ⟨0, rfl, Int.le_refl 0, by omega⟩
  rintro y ⟨j, rfl, j0, j1⟩
  unfold guardFits_l2
  by_cases hj : j < (x.length : Int)
  · have hw : IntKind.wrap .i64 (j + 1) = j + 1 := Go.PI.wrap_small (by omega) (by omega)
    have hwe : IntKind.wrap .i64 (elemR r + 1) = elemR r + 1 := Go.PI.wrap_small (by omega) (by omega)
    have he : runElem ((1, r.2), ()) = some (elemR r, ()) := runElem_at (1, r.2)
    refine BT.lt (decide_eq_true hj) (BT.opt ⟨_, he, ?_⟩)
    dsimp only
    rw [hwe, hw]
    have skip : BT (fun s : _ ⊕ _ => (∃ y, s = .inl y ∧ (∃ j : Int, y = (n, sch3, x, all, i, m, k, j, i', bb, q, ((1, r.2) : RunT), ()) ∧ 0 ≤ j ∧ j ≤ x.length) ∧ ((x.length : Int) - y.2.2.2.2.2.2.2.1).toNat < ((x.length : Int) - j).toNat) ∨ ∃ z : Unit ⊕ (Int × (Sch × (List Evt × (List (List Prs) × (Int × (List Prs × (Int × (Int × (Bool × (Qry × Unit)))))))))), s = .inr z ∧ z = .inr (n, sch3, x, all, i, m, k, i', bb, q, ()))
        (.ret (.inl (n, sch3, x, all, i, m, k, j + 1, i', bb, q, (1, r.2), ()))) := BT.goes ⟨⟨j + 1, rfl, by omega, by omega⟩, by dsimp only; omega⟩
    have body : ∀ a : Int, (a = elemR r + 1 ∨ (a = elemR r ∧ 0 ≤ a)) → BT (fun s : _ ⊕ _ => (∃ y, s = .inl y ∧ (∃ j : Int, y = (n, sch3, x, all, i, m, k, j, i', bb, q, ((1, r.2) : RunT), ()) ∧ 0 ≤ j ∧ j ≤ x.length) ∧ ((x.length : Int) - y.2.2.2.2.2.2.2.1).toNat < ((x.length : Int) - j).toNat) ∨ ∃ z : Unit ⊕ (Int × (Sch × (List Evt × (List (List Prs) × (Int × (List Prs × (Int × (Int × (Bool × (Qry × Unit)))))))))), s = .inr z ∧ z = .inr (n, sch3, x, all, i, m, k, i', bb, q, ()))
        (.cond (decide (a ≥ (↑(List.length q.1) : Int)))
          (.ret (.inl (n, sch3, x, all, i, m, k, j + 1, i', bb, q, (1, r.2), ())))
          (.cond (decide (0 ≤ j) && decide (j < (↑(List.length x) : Int)))
            (.opt (fitsG (sch3, q, (1, r.2), a, List.getD x (Int.toNat j) (ByteArray.empty, ByteArray.empty, 0, 0, []), ())) fun y262 =>
              (.cond (decide (0 ≤ 0) && decide (0 ≤ k) && decide (k ≤ (↑(List.length m) : Int)))
                (.cond (decide (0 ≤ j) && decide (j < (↑(List.length x) : Int)))
                  (.opt (fitsT (sch3, q, x, List.drop (Int.toNat 0) (List.take (Int.toNat k) m), a, List.getD x (Int.toNat j) (ByteArray.empty, ByteArray.empty, 0, 0, []), ())) fun y263 =>
                    (.cond (!y262.1 == y263.1)
                      (.opt (runElem ((1, r.2), ())) fun y264 =>
                        (.cond (decide (a > y264.1))
                          (.ret (.inr (.inl (()))))
                          (.cond (decide (0 ≤ a) && decide (a < (↑(List.length q.1) : Int)))
                            (.cond (decide ((List.getD q.1 (Int.toNat a) (ByteArray.empty, [], false, 0, 0, [])).2.2.2.2.1 > 1))
                              (.ret (.inr (.inl (()))))
                              (.ret (.inl (n, sch3, x, all, i, m, k, j + 1, i', bb, q, (1, r.2), ()))))
                            (.no))))
                      (.ret (.inl (n, sch3, x, all, i, m, k, j + 1, i', bb, q, (1, r.2), ())))))
                  (.no))
                (.no)))
            (.no))) := by
      intro a ha
      by_cases hla : a ≥ (q.1.length : Int)
      · exact BT.lt (decide_eq_true hla) skip
      · have a0 : 0 ≤ a := by omega
        have a1 : a < (q.1.length : Int) := by omega
        refine BT.ge (decide_eq_false hla) (BT.yes (in2 j0 hj) ?_)
        have eG := fitsG_d hO (1, r.2) hv3 a a0 a1 (x.getD j.toNat evZ)
        have eT := fitsT_d hO x (by omega) mt (by omega) a a0 a1 (x.getD j.toNat evZ)
        obtain ⟨b1, hb1⟩ := fitD_tot hO a (x.getD j.toNat evZ) (r.2.2.1.reverse) (by rw [List.length_reverse]; exact hv3)
        obtain ⟨b2, hb2⟩ := fitD_tot hO a (x.getD j.toNat evZ) (mt.filterMap (pickT q x a)) (Nat.le_trans (List.length_filterMap_le ..) (by omega))
        refine BT.opt ⟨_, eG.trans hb1, BT.yes (by simp; omega) (BT.yes (in2 j0 hj) (BT.opt ⟨(b2, ()), ?_, ?_⟩))⟩
        · show fitsT (sch3, q, x, List.take (Int.toNat k) m, a, x.getD j.toNat evZ, ()) = _
          rw [hmt]
          exact eT.trans hb2
        · have same : (a = elemR r + 1 ∨ (a = elemR r ∧ (q.1.getD a.toNat elmZ).2.2.2.2.1 > 1)) → b1 = b2 := fun hc => by
            rw [hps a hc, ← hv2] at hb2
            rw [hb1] at hb2
            simpa using hb2
          refine BT.cond (fun hne => BT.opt ⟨_, he, ?_⟩) (fun _ => skip)
          have hne : b1 ≠ b2 := by
            intro e
            rw [e] at hne
            simp at hne
          have nl : ¬ a > elemR r := fun h => hne (same (.inl (by omega)))
          refine BT.ge (decide_eq_false nl) (BT.yes (in2 a0 a1) (BT.ge (decide_eq_false ?_) skip))
          intro hM
          exact hne (same (.inr ⟨by omega, hM⟩))
    refine BT.cond (fun _ => body _ (.inl rfl)) (fun _ => BT.cond (fun _ => body _ (.inl rfl)) (fun hn => body _ (.inr ⟨rfl, ?_⟩)))
    have := of_decide_eq_false hn
    omega
  · exact BT.ge (decide_eq_false hj) (BT.ends rfl)
end Go.Proofs.Ytnhiplibodkciaa

namespace Go.Proofs.Ytnhiplibodkciaa
open Go.PI Go
noncomputable def idxStr_w0_n (k : Nat) : ((List ByteArray) × (ByteArray × (Int × (Int × Unit)))) → Option ((Int × Unit) ⊕ Unit) := iterN (fun x => (idxStr_l0 x).run) k
theorem idxStr_w0_le (k : Nat) (x : _) : OLe (idxStr_w0_n k x) (idxStr_w0 x) := iterN_le (fun x => OLe.rfl' _) k x
noncomputable def idxStr_B_n (k : Nat) : ((List ByteArray) × (ByteArray × Unit)) → Br (Int × Unit) := fun (p0, p1, ()) =>
 (.opt ((idxStr_w0_n k) (p0, p1, (↑(List.length p0) : Int), 0, ())) fun z27 =>
 (.sum z27 (fun u28 =>
 (.ret (u28.1, ()))) (fun z29 =>
 (.ret (-1, ())))))
theorem idxStr_B_le (k : Nat) (x : _) : BLe (idxStr_B_n k x) (idxStr_B x) := by
  obtain ⟨p0, p1, ⟨⟩⟩ := x
  show BLe (idxStr_B_n k _) (idxStr_B _)
  unfold idxStr_B_n idxStr_B
  repeat' (first | with_reducible exact BLe.rfl' _ | with_reducible exact OLe.rfl' _ | with_reducible apply BLe.cond | (with_reducible refine BLe.opt ?_ fun _ => ?_) | (with_reducible refine BLe.sum (fun _ => ?_) fun _ => ?_) | exact idxStr_w0_le k _)
noncomputable def idxStr_n (k : Nat) : ((List ByteArray) × (ByteArray × Unit)) → Option (Int × Unit) := fun x => (idxStr_B_n k x).run
theorem idxStr_le (k : Nat) (x : _) : OLe (idxStr_n k x) (idxStr x) := idxStr_B_le k x
noncomputable def hasStr_B_n (k : Nat) : ((List ByteArray) × (ByteArray × Unit)) → Br (Bool × Unit) := fun (p0, p1, ()) =>
 (.opt ((idxStr_n k) (p0, p1, ())) fun y3 =>
 (.ret (decide (y3.1 ≥ 0), ())))
theorem hasStr_B_le (k : Nat) (x : _) : BLe (hasStr_B_n k x) (hasStr_B x) := by
  obtain ⟨p0, p1, ⟨⟩⟩ := x
  show BLe (hasStr_B_n k _) (hasStr_B _)
  unfold hasStr_B_n hasStr_B
  repeat' (first | with_reducible exact BLe.rfl' _ | with_reducible exact OLe.rfl' _ | with_reducible apply BLe.cond | (with_reducible refine BLe.opt ?_ fun _ => ?_) | (with_reducible refine BLe.sum (fun _ => ?_) fun _ => ?_) | exact idxStr_le k _)
noncomputable def hasStr_n (k : Nat) : ((List ByteArray) × (ByteArray × Unit)) → Option (Bool × Unit) := fun x => (hasStr_B_n k x).run
theorem hasStr_le (k : Nat) (x : _) : OLe (hasStr_n k x) (hasStr x) := hasStr_B_le k x
noncomputable def betwQ_w0_n (k : Nat) : (Int × (Int × (zA10 × ((List Int) × Unit)))) → Option ((List Int) × Unit) := iterN (fun x => (betwQ_l0 x).run) k
theorem betwQ_w0_le (k : Nat) (x : _) : OLe (betwQ_w0_n k x) (betwQ_w0 x) := iterN_le (fun x => OLe.rfl' _) k x
noncomputable def betwQ_B_n (k : Nat) : (zA10 × (Int × Unit)) → Br ((List Int) × Unit) := fun (p0, p1, ()) =>
 (.opt ((betwQ_w0_n k) (p1, if IntKind.wrap .i64 (p1 + 1) < 0 then 0 else IntKind.wrap .i64 (p1 + 1), p0, [], ())) fun z26 =>
 (.ret (z26.1, ())))
theorem betwQ_B_le (k : Nat) (x : _) : BLe (betwQ_B_n k x) (betwQ_B x) := by
  obtain ⟨p0, p1, ⟨⟩⟩ := x
  show BLe (betwQ_B_n k _) (betwQ_B _)
  unfold betwQ_B_n betwQ_B
  repeat' (first | with_reducible exact BLe.rfl' _ | with_reducible exact OLe.rfl' _ | with_reducible apply BLe.cond | (with_reducible refine BLe.opt ?_ fun _ => ?_) | (with_reducible refine BLe.sum (fun _ => ?_) fun _ => ?_) | exact betwQ_w0_le k _)
noncomputable def betwQ_n (k : Nat) : (zA10 × (Int × Unit)) → Option ((List Int) × Unit) := fun x => (betwQ_B_n k x).run
theorem betwQ_le (k : Nat) (x : _) : OLe (betwQ_n k x) (betwQ x) := betwQ_B_le k x
noncomputable def fitsG_B_n (k : Nat) : ((Option zA11) × (zA10 × (zA6 × (Int × (zA2 × Unit))))) → Br (Bool × Unit) := fun (p0, p1, p2, p3, p4, ()) =>
 (.cond (decide (p3 < 0))
 (.ret (false, ()))
 (.cond (decide (p3 ≥ (↑(List.length p1.1) : Int)))
 (.ret (false, ()))
 (.cond (decide (0 ≤ p3) && decide (p3 < (↑(List.length p1.1) : Int)))
 (.opt ((hasStr_n k) (Prod.fst (Prod.snd (List.getD p1.1 (Int.toNat p3) (ByteArray.empty, [], false, 0, 0, []))), p4.1, ())) fun y8 =>
 (.cond (!y8.1)
 (.ret (false, ()))
 (.cond (decide (0 ≤ p3) && decide (p3 < (↑(List.length p1.1) : Int)))
 (.opt (envR (p2, ())) fun y9 =>
 (.cond (decide ((List.length y9.1 + List.length (List.set (List.replicate 1 (ByteArray.empty, ByteArray.empty, ByteArray.empty, 0, 0, [])) 0 (Prod.fst (List.getD p1.1 (Int.toNat p3) (ByteArray.empty, [], false, 0, 0, [])), p4))) * 88 ≤ 140737488355328))
 (.opt ((holdsF_n k) (p0, Prod.snd (Prod.snd (Prod.snd (Prod.snd (Prod.snd (List.getD p1.1 (Int.toNat p3) (ByteArray.empty, [], false, 0, 0, [])))))), y9.1 ++ List.set (List.replicate 1 (ByteArray.empty, ByteArray.empty, ByteArray.empty, 0, 0, [])) 0 (Prod.fst (List.getD p1.1 (Int.toNat p3) (ByteArray.empty, [], false, 0, 0, [])), p4), ())) fun y10 =>
 (.ret (y10.1, ())))
 (.no)))
 (.no))))
 (.no))))
theorem fitsG_B_le (k : Nat) (x : _) : BLe (fitsG_B_n k x) (fitsG_B x) := by
  obtain ⟨p0, p1, p2, p3, p4, ⟨⟩⟩ := x
  show BLe (fitsG_B_n k _) (fitsG_B _)
  unfold fitsG_B_n fitsG_B
  repeat' (first | with_reducible exact BLe.rfl' _ | with_reducible exact OLe.rfl' _ | with_reducible apply BLe.cond | (with_reducible refine BLe.opt ?_ fun _ => ?_) | (with_reducible refine BLe.sum (fun _ => ?_) fun _ => ?_) | exact hasStr_le k _ | exact holdsF_le k _)
noncomputable def fitsG_n (k : Nat) : ((Option zA11) × (zA10 × (zA6 × (Int × (zA2 × Unit))))) → Option (Bool × Unit) := fun x => (fitsG_B_n k x).run
theorem fitsG_le (k : Nat) (x : _) : OLe (fitsG_n k x) (fitsG x) := fitsG_B_le k x
noncomputable def blocksG_l0_n (k : Nat) : ((Option zA11) × ((List Int) × (Int × (Int × (zA10 × (zA6 × (zA2 × Unit))))))) → Br (((Option zA11) × ((List Int) × (Int × (Int × (zA10 × (zA6 × (zA2 × Unit))))))) ⊕ (Unit ⊕ Unit)) := fun (s0_45, s17_46, s18_47, s19_48, v1029_49, v1030_50, v1031_51, ()) =>
 (.cond (decide (s19_48 < s18_47))
 (.cond (decide (0 ≤ s19_48) && decide (s19_48 < (↑(List.length s17_46) : Int)))
 (.opt ((fitsG_n k) (s0_45, v1029_49, v1030_50, List.getD s17_46 (Int.toNat s19_48) 0, v1031_51, ())) fun y52 =>
 (.cond y52.1
 (.ret (.inr (.inl (()))))
 (.ret (.inl (s0_45, s17_46, s18_47, IntKind.wrap .i64 (s19_48 + 1), v1029_49, v1030_50, v1031_51, ())))))
 (.no))
 (.ret (.inr (.inr (())))))
theorem blocksG_l0_le (k : Nat) (x : _) : BLe (blocksG_l0_n k x) (blocksG_l0 x) := by
  obtain ⟨s0_45, s17_46, s18_47, s19_48, v1029_49, v1030_50, v1031_51, ⟨⟩⟩ := x
  show BLe (blocksG_l0_n k _) (blocksG_l0 _)
  unfold blocksG_l0_n blocksG_l0
  repeat' (first | with_reducible exact BLe.rfl' _ | with_reducible exact OLe.rfl' _ | with_reducible apply BLe.cond | (with_reducible refine BLe.opt ?_ fun _ => ?_) | (with_reducible refine BLe.sum (fun _ => ?_) fun _ => ?_) | exact fitsG_le k _)
noncomputable def blocksG_w0_n (k : Nat) : ((Option zA11) × ((List Int) × (Int × (Int × (zA10 × (zA6 × (zA2 × Unit))))))) → Option (Unit ⊕ Unit) := iterN (fun x => (blocksG_l0_n k x).run) k
theorem blocksG_w0_le (k : Nat) (x : _) : OLe (blocksG_w0_n k x) (blocksG_w0 x) := iterN_le (fun x => blocksG_l0_le k x) k x
noncomputable def blocksG_B_n (k : Nat) : ((Option zA11) × (zA10 × (zA6 × (zA2 × Unit)))) → Br (Bool × Unit) := fun (p0, p1, p2, p3, ()) =>
 (.opt (runLen (p2, ())) fun y42 =>
 (.cond (y42.1 == 0)
 (.ret (false, ()))
 (.opt (runElem (p2, ())) fun y43 =>
 (.opt ((betwQ_n k) (p1, y43.1, ())) fun y44 =>
 (.opt ((blocksG_w0_n k) (p0, y44.1, (↑(List.length y44.1) : Int), 0, p1, p2, p3, ())) fun z54 =>
 (.sum z54 (fun u55 =>
 (.ret (true, ()))) (fun z56 =>
 (.ret (false, ())))))))))
theorem blocksG_B_le (k : Nat) (x : _) : BLe (blocksG_B_n k x) (blocksG_B x) := by
  obtain ⟨p0, p1, p2, p3, ⟨⟩⟩ := x
  show BLe (blocksG_B_n k _) (blocksG_B _)
  unfold blocksG_B_n blocksG_B
  repeat' (first | with_reducible exact BLe.rfl' _ | with_reducible exact OLe.rfl' _ | with_reducible apply BLe.cond | (with_reducible refine BLe.opt ?_ fun _ => ?_) | (with_reducible refine BLe.sum (fun _ => ?_) fun _ => ?_) | exact betwQ_le k _ | exact blocksG_w0_le k _)
noncomputable def blocksG_n (k : Nat) : ((Option zA11) × (zA10 × (zA6 × (zA2 × Unit)))) → Option (Bool × Unit) := fun x => (blocksG_B_n k x).run
theorem blocksG_le (k : Nat) (x : _) : OLe (blocksG_n k x) (blocksG x) := blocksG_B_le k x
noncomputable def awake23_B_n (k : Nat) : Unit → Br (Bool × Unit) := fun (()) =>
 (.opt ((newS_n k) ([({ data := #[65] }, []), ({ data := #[66] }, [])], ())) fun y5 =>
 (.opt (runWith ((0, [], [], 0, (0, 0, 0), false), ([({ data := #[97] }, [{ data := #[65] }], false, 1, 1, []), ({ data := #[98] }, [{ data := #[66] }], true, 1, 1, []), ({ data := #[99] }, [{ data := #[65] }], false, 1, 1, [])], 0, 0), 1, 0, ({ data := #[65] }, ByteArray.empty, 0, 1, []), ())) fun y6 =>
 (.opt ((blocksG_n k) (y5.1.1, ([({ data := #[97] }, [{ data := #[65] }], false, 1, 1, []), ({ data := #[98] }, [{ data := #[66] }], true, 1, 1, []), ({ data := #[99] }, [{ data := #[65] }], false, 1, 1, [])], 0, 0), y6.1, ({ data := #[66] }, ByteArray.empty, 0, 2, []), ())) fun y7 =>
 (.cond y7.1
 (.opt ((blocksG_n k) (y5.1.1, ([({ data := #[97] }, [{ data := #[65] }], false, 1, 1, []), ({ data := #[98] }, [{ data := #[66] }], true, 1, 1, []), ({ data := #[99] }, [{ data := #[65] }], false, 1, 1, [])], 0, 0), y6.1, ({ data := #[65] }, ByteArray.empty, 0, 2, []), ())) fun y8 =>
 (.cond (!y8.1)
 (.opt ((blocksG_n k) (y5.1.1, ([({ data := #[97] }, [{ data := #[65] }], false, 1, 1, []), ({ data := #[98] }, [{ data := #[66] }], true, 1, 1, []), ({ data := #[99] }, [{ data := #[65] }], false, 1, 1, [])], 0, 0), (0, [], [], 0, (0, 0, 0), false), ({ data := #[66] }, ByteArray.empty, 0, 0, []), ())) fun y9 =>
 (.ret (!y9.1, ())))
 (.ret (false, ()))))
 (.ret (false, ()))))))
theorem awake23_B_le (k : Nat) (x : _) : BLe (awake23_B_n k x) (awake23_B x) := by
  obtain ⟨⟩ := x
  show BLe (awake23_B_n k _) (awake23_B _)
  unfold awake23_B_n awake23_B
  repeat' (first | with_reducible exact BLe.rfl' _ | with_reducible exact OLe.rfl' _ | with_reducible apply BLe.cond | (with_reducible refine BLe.opt ?_ fun _ => ?_) | (with_reducible refine BLe.sum (fun _ => ?_) fun _ => ?_) | exact blocksG_le k _ | exact newS_le k _)
noncomputable def awake23_n (k : Nat) : Unit → Option (Bool × Unit) := fun x => (awake23_B_n k x).run
theorem awake23_le (k : Nat) (x : _) : OLe (awake23_n k x) (awake23 x) := awake23_B_le k x
end Go.Proofs.Ytnhiplibodkciaa

namespace Go.Proofs.Ytnhiplibodkciaa
open Go.PI Go

theorem awake23_yes : awake23 () = some (true, ()) := awake23_le 100 _ _ (by kernel_rfl)

theorem guardFits_w1_at {q : Qry} (hq : QGood q) {x : List Evt} (hx : XGood x) (n : Int) (all : List (List Prs)) (i : Int) {m : List Prs} (hm : Ob q x m) (i' : Int) (bb : Bool) :
    guardFits_w1 (n, sch3, x, all, i, m, 0, i', bb, q, ()) = some (.inr (n, sch3, x, all, i, i', bb, q, ())) := by
  have hm2 := hm.2.1
  have hx8 := hx.len
  suffices hh : ∃ z, guardFits_w1 (n, sch3, x, all, i, m, 0, i', bb, q, ()) = some z ∧ z = .inr (n, sch3, x, all, i, i', bb, q, ()) by
    obtain ⟨z, hz, rfl⟩ := hh
    exact hz
  refine iterO_bt (step := guardFits_l1) (fun y => ∃ k : Int, y = (n, sch3, x, all, i, m, k, i', bb, q, ()) ∧ 0 ≤ k ∧ k ≤ m.length + 1) (fun y => ((m.length : Int) + 1 - y.2.2.2.2.2.2.1).toNat) _ ?_ _ ⟨0, rfl, Int.le_refl 0, by omega⟩
  rintro y ⟨k, rfl, k0, k1⟩
  unfold guardFits_l1
  by_cases hk : k ≤ (m.length : Int)
  · have hw : IntKind.wrap .i64 (k + 1) = k + 1 := Go.PI.wrap_small (by omega) (by omega)
    have hg := againR_at q x (by omega) hx.good (m.take k.toNat) (Nat.le_trans (List.length_take_le' _ _) (by omega))
    have hl := guardFits_w2_at hq hx n all i hm k k0 hk i' bb
    refine BT.lt (decide_eq_true hk) (BT.yes (by simp; omega) (BT.opt ⟨_, hg, BT.opt ⟨_, hl, BT.sumr (BT.goes ⟨⟨k + 1, by rw [hw], by omega, by omega⟩, ?_⟩)⟩⟩))
    dsimp only
    rw [hw]
    omega
  · exact BT.ge (decide_eq_false hk) (BT.ends rfl)

theorem guardFits_w0_at {q : Qry} (hq : QGood q) {x : List Evt} (hx : XGood x) (n : Int) {all : List (List Prs)} (ha : ∀ m ∈ all, Ob q x m) :
    guardFits_w0 (n, sch3, x, all, 0, q, ()) = some (.inr (sch3, q, ())) := by
  suffices hh : ∃ z, guardFits_w0 (n, sch3, x, all, 0, q, ()) = some z ∧ z = .inr (sch3, q, ()) by
    obtain ⟨z, hz, rfl⟩ := hh
    exact hz
  refine iterO_bt (step := guardFits_l0) (fun y => ∃ i : Int, y = (n, sch3, x, all, i, q, ()) ∧ 0 ≤ i ∧ i ≤ 8) (fun y => ((8 : Int) - y.2.2.2.2.1).toNat) _ ?_ _ ⟨0, rfl, Int.le_refl 0, by decide⟩
  rintro y ⟨i, rfl, i0, i1⟩
  unfold guardFits_l0
  by_cases hi : i < (all.length : Int)
  · by_cases h8 : i < 8
    · have hw : IntKind.wrap .i64 (i + 1) = i + 1 := Go.PI.wrap_small (by omega) (by omega)
      have hlt : i.toNat < all.length := by omega
      have hm : Ob q x (all.getD i.toNat []) := by rw [getD_in _ _ _ hlt]; exact ha _ (List.getElem_mem hlt)
      refine BT.lt (decide_eq_true hi) (BT.lt (decide_eq_true h8) (BT.yes (in2 i0 hi) (BT.opt ⟨_, guardFits_w1_at hq hx n all i hm i (decide (i < 8)), BT.sumr (BT.goes ⟨⟨i + 1, by rw [hw], by omega, by omega⟩, ?_⟩)⟩)))
      dsimp only
      rw [hw]
      omega
    · exact BT.lt (decide_eq_true hi) (BT.ge (decide_eq_false h8) (BT.ends rfl))
  · exact BT.ge (decide_eq_false hi) (BT.ends rfl)

theorem events20_at (l : List Evt) (n : Int) (h0 : 0 ≤ n) (h8 : n ≤ 8) : ∃ x, events20 (l, n, ()) = some (x, ()) ∧ XGood x ∧ (x.length : Int) ≤ n := by
  obtain ⟨x, hx, h1, h2, -⟩ := eventsR_at l n h0 (by omega)
  have hg : ∀ e ∈ x, EvGood e := fun e he => by
    obtain ⟨k, hk⟩ := List.getElem?_of_mem he
    have := h1 k e hk
    exact ⟨this.1, this.2.2⟩
  obtain ⟨out, e1, e2, e3⟩ := sortE_tot EvGood x (by omega) hg
  unfold events20 events20_B
  simp only [Br.run, hx, e1]
  exact ⟨out, rfl, ⟨by omega, e3⟩, by omega⟩

theorem fitsG_out (q : Qry) (r : RunT) (a : Int) (h : a < 0 ∨ (q.1.length : Int) ≤ a) (e : Evt) : fitsG (sch3, q, r, a, e, ()) = some (false, ()) := by
  unfold fitsG fitsG_B
  by_cases h0 : a < 0
  · simp only [Br.run, decide_eq_true h0, cond_true]
  · have h1 : a ≥ (q.1.length : Int) := by omega
    simp only [Br.run, decide_eq_false h0, decide_eq_true h1, cond_true, cond_false]

theorem guardFits_at (p : List Int) (l : List Evt) (n : Int) : guardFits (p, l, n, ()) = some (true, ()) := by
  obtain ⟨q, hq, h1, h2, h3⟩ := queryQ_at2 p
  have hG : QGood q := ⟨h1, h2, h3⟩
  obtain ⟨x, hx, hxg, -⟩ := events20_at l 6 (by decide) (by decide)
  obtain ⟨all, ha, hb, -⟩ := allM_b hG hxg.len hxg.good
  have hw := guardFits_w0_at hG hxg n hb
  have o1 := fitsG_out q (0, [], [], 0, (0, 0, 0), false) (-1) (.inl (by decide)) (ByteArray.empty, ByteArray.empty, 0, 0, [])
  have o2 := fitsG_out q (0, [], [], 0, (0, 0, 0), false) (q.1.length : Int) (.inr (Int.le_refl _)) (ByteArray.empty, ByteArray.empty, 0, 0, [])
  unfold guardFits guardFits_B
  simp only [Br.run, typesR_at, newS_T3, hq, hx, ha, hw, awake23_yes, cond_true, o1, Bool.not_false, o2]
end Go.Proofs.Ytnhiplibodkciaa
