/- Lists in order: whatever they hold is kept. Runs: one more event; events that are made. All matches: what is told of events; their pairs stand in the elements' order. -/
import Derived.Test.YtnhiplibodkciaaHh
import Derived.Test.YtnhiplibodkciaaHg
namespace Go.Proofs.Ytnhiplibodkciaa
open Go.PI Go

theorem beforeE_tot (a b : Evt) : ∃ c, beforeE (a, b, ()) = some (c, ()) := by
  unfold beforeE beforeE_B
  simp only [Br.run, cond_eq_ite]
  repeat' split
  all_goals exact ⟨_, rfl⟩
theorem lessP_tot0 (a b : List Prs) (ha : a.length ≤ 1000000) : ∃ c, lessP (a, b, ()) = some (c, ()) := by
  unfold lessP lessP_B
  obtain ⟨z, hz, -⟩ : ∃ z, lessP_w0 (a, b, 0, ()) = some z ∧ True := by
    refine iterO_bt (step := lessP_l0) (fun y => ∃ i : Int, y = (a, b, i, ()) ∧ 0 ≤ i ∧ i ≤ a.length) (fun y => ((a.length : Int) - y.2.2.1).toNat) (fun _ => True) ?_ _ ⟨0, rfl, Int.le_refl 0, by omega⟩
    rintro y ⟨i, rfl, h0, h1⟩
    unfold lessP_l0
    by_cases hi : i < (a.length : Int)
    · by_cases hb : i < (b.length : Int)
      · have hw : IntKind.wrap .i64 (i + 1) = i + 1 := Go.PI.wrap_small (by omega) (by omega)
        refine BT.lt (decide_eq_true hi) (BT.lt (decide_eq_true hb) (BT.yes (in2 h0 hi) (BT.yes (in2 h0 hb) (BT.cond (fun _ => BT.yes (in2 h0 hi) (BT.yes (in2 h0 hb) (BT.ends trivial))) (fun _ => BT.yes (in2 h0 hi) (BT.yes (in2 h0 hb) (BT.cond (fun _ => BT.yes (in2 h0 hi) (BT.yes (in2 h0 hb) (BT.ends trivial))) (fun _ => BT.goes ⟨⟨i + 1, by rw [hw], by omega, by omega⟩, ?_⟩))))))))
        dsimp only
        rw [hw]
        omega
      · exact BT.lt (decide_eq_true hi) (BT.ge (decide_eq_false hb) (BT.ends trivial))
    · exact BT.ge (decide_eq_false hi) (BT.ends trivial)
  simp only [Br.run, hz]
  rcases z with ⟨u, ⟨⟩⟩ | ⟨u, v, ⟨⟩⟩ <;> exact ⟨_, rfl⟩

theorem sortE_w1_tot (l : List Evt) (i : Int) (h0 : 0 ≤ i) (h1 : i < l.length) (out : List Evt) (ho : out.length ≤ 100000) (n : Int) (n0 : 0 ≤ n) (n1 : n ≤ out.length) :
    ∃ k : Int, sortE_w1 (l, i, n, out, ()) = some (l, i, k, out, ()) ∧ 0 ≤ k ∧ k ≤ n := by
  suffices hh : ∃ z, sortE_w1 (l, i, n, out, ()) = some z ∧ ∃ k : Int, z = (l, i, k, out, ()) ∧ 0 ≤ k ∧ k ≤ n by
    obtain ⟨z, hz, k, rfl, h⟩ := hh
    exact ⟨k, hz, h⟩
  refine iterO_bt (step := sortE_l1) (fun y => ∃ k : Int, y = (l, i, k, out, ()) ∧ 0 ≤ k ∧ k ≤ n) (fun y => y.2.2.1.toNat) _ ?_ _ ⟨n, rfl, n0, Int.le_refl n⟩
  rintro y ⟨k, rfl, k0, k1⟩
  unfold sortE_l1
  by_cases hk : k > 0
  · have hw : IntKind.wrap .i64 (k - 1) = k - 1 := Go.PI.wrap_small (by omega) (by omega)
    obtain ⟨b, hb⟩ := beforeE_tot (l.getD i.toNat evZ) (out.getD (k - 1).toNat evZ)
    refine BT.lt (decide_eq_true hk) (BT.yes (in2 h0 h1) (BT.yes (by rw [hw]; exact in2 (by omega) (by omega)) (BT.opt ⟨_, by rw [hw]; exact hb, BT.cond (fun _ => BT.goes ⟨⟨k - 1, by rw [hw], by omega, by omega⟩, ?_⟩) (fun _ => BT.ends ⟨k, rfl, k0, k1⟩)⟩)))
    dsimp only
    rw [hw]
    omega
  · exact BT.ge (decide_eq_false hk) (BT.ends ⟨k, rfl, k0, k1⟩)

theorem sortE_w2_tot (P : Evt → Prop) (l : List Evt) (i a : Int) (a0 : 0 ≤ a) (r : List Evt) (hr : r.length ≤ 100001) (k : Int) (ha : a ≤ k) (hk : k + 1 = r.length) (hP : ∀ j : Nat, (j : Int) < k → P (r.getD j evZ)) :
    ∃ r' : List Evt, sortE_w2 (l, i, a, k, r, ()) = some (l, i, a, r', ()) ∧ r'.length = r.length ∧ ∀ j : Nat, j < r.length → (j : Int) ≠ a → P (r'.getD j evZ) := by
  suffices hh : ∃ z, sortE_w2 (l, i, a, k, r, ()) = some z ∧ ∃ r' : List Evt, z = (l, i, a, r', ()) ∧ r'.length = r.length ∧ ∀ j : Nat, j < r.length → (j : Int) ≠ a → P (r'.getD j evZ) by
    obtain ⟨z, hz, r', rfl, h⟩ := hh
    exact ⟨r', hz, h⟩
  refine iterO_bt (step := sortE_l2) (fun y => ∃ (c : Int) (r' : List Evt), y = (l, i, a, c, r', ()) ∧ a ≤ c ∧ c < r.length ∧ r'.length = r.length ∧ ∀ j : Nat, j < r.length → (j : Int) ≠ c → P (r'.getD j evZ)) (fun y => (y.2.2.2.1 - a).toNat) _ ?_ _ ⟨k, r, rfl, ha, by omega, rfl, fun j j1 j2 => hP j (by omega)⟩
  rintro y ⟨c, r', rfl, c0, c1, c2, c3⟩
  unfold sortE_l2
  by_cases hc : c > a
  · have hw : IntKind.wrap .i64 (c - 1) = c - 1 := Go.PI.wrap_small (by omega) (by omega)
    refine BT.lt (decide_eq_true hc) (BT.yes (by rw [hw]; exact in2 (by omega) (by omega)) (BT.yes (in2 (by omega) (by omega)) (BT.goes ⟨⟨c - 1, r'.set c.toNat (r'.getD (c - 1).toNat evZ), by rw [hw], by omega, by omega, by rw [List.length_set]; exact c2, fun j j1 j2 => ?_⟩, ?_⟩)))
    · by_cases hj : j = c.toNat
      · subst hj
        rw [getD_in _ _ _ (by rw [List.length_set]; omega), List.getElem_set_self]
        exact c3 _ (by omega) (by omega)
      · have e : (r'.set c.toNat (r'.getD (c - 1).toNat evZ)).getD j evZ = r'.getD j evZ := by
          rw [getD_in _ _ _ (by rw [List.length_set]; omega), List.getElem_set_ne (Ne.symm hj)]
          exact (getD_in _ _ _ (by omega)).symm
        rw [e]
        exact c3 j j1 (by omega)
    · dsimp only
      rw [hw]
      omega
  · obtain rfl : c = a := by omega
    exact BT.ge (decide_eq_false hc) (BT.ends ⟨r', rfl, c2, c3⟩)

theorem sortE_tot (P : Evt → Prop) (l : List Evt) (hl : l.length ≤ 100000) (hP : ∀ x ∈ l, P x) : ∃ out : List Evt, sortE (l, ()) = some (out, ()) ∧ out.length = l.length ∧ ∀ x ∈ out, P x := by
  unfold sortE sortE_B
  obtain ⟨z, hz, out, rfl, h1, h2⟩ : ∃ z, sortE_w0 (l, 0, [], ()) = some z ∧ ∃ out : List Evt, z = (out, ()) ∧ out.length = l.length ∧ ∀ x ∈ out, P x := by
    refine iterO_bt (step := sortE_l0) (fun y => ∃ (i : Int) (out : List Evt), y = (l, i, out, ()) ∧ 0 ≤ i ∧ i ≤ l.length ∧ (out.length : Int) = i ∧ ∀ x ∈ out, P x) (fun y => ((l.length : Int) - y.2.1).toNat) _ ?_ _ ⟨0, [], rfl, Int.le_refl 0, by omega, rfl, fun x h => by simp at h⟩
    rintro y ⟨i, out, rfl, h0, h1, h2, h3⟩
    unfold sortE_l0
    by_cases hi : i < (l.length : Int)
    · have hw : IntKind.wrap .i64 (i + 1) = i + 1 := Go.PI.wrap_small (by omega) (by omega)
      obtain ⟨k, e1, k0, k1⟩ := sortE_w1_tot l i h0 hi out (by omega) out.length (by omega) (Int.le_refl _)
      have eL : (out ++ [evZ]).length = out.length + 1 := by rw [List.length_append, List.length_singleton]
      obtain ⟨r', e2, r1, r2⟩ := sortE_w2_tot P l i k k0 (out ++ [evZ]) (by omega) out.length k1 (by rw [eL]; omega) (fun j hj => by
        rw [getD_in _ _ _ (by rw [eL]; omega), List.getElem_append_left (by omega)]
        exact h3 _ (List.getElem_mem _))
      have hw2 : IntKind.wrap .i64 (((out ++ [evZ]).length : Int) - 1) = (out.length : Int) := by rw [Go.PI.wrap_small (by rw [eL]; omega) (by rw [eL]; omega), eL]; omega
      have hlt : i.toNat < l.length := by omega
      refine BT.lt (decide_eq_true hi) (BT.opt ⟨_, e1, BT.yes (decide_eq_true ?_) (BT.opt ⟨_, (congrArg (fun n => sortE_w2 (l, i, k, n, out ++ [evZ], ())) hw2).trans e2, BT.yes (in2 h0 hi) (BT.yes (in2 k0 ?_) (BT.goes ⟨⟨i + 1, r'.set k.toNat (l.getD i.toNat evZ), by rw [hw], by omega, by omega, ?_, fun x hx => ?_⟩, ?_⟩))⟩)⟩)
      · show (out.length + 1) * 72 ≤ 140737488355328
        omega
      · show k < (r'.length : Int)
        rw [r1, eL]; omega
      · rw [List.length_set, r1, eL]; omega
      · obtain ⟨j, hj, rfl⟩ := List.getElem_of_mem hx
        rw [List.length_set] at hj
        by_cases hjk : j = k.toNat
        · subst hjk
          rw [List.getElem_set_self, getD_in _ _ _ hlt]
          exact hP _ (List.getElem_mem hlt)
        · rw [List.getElem_set_ne (Ne.symm hjk)]
          have := r2 j (by omega) (by omega)
          rw [getD_in _ _ _ hj] at this
          exact this
      · dsimp only
        rw [hw]
        omega
    · exact BT.ge (decide_eq_false hi) (BT.ends ⟨out, rfl, by omega, h3⟩)
  simp only [Br.run, hz]
  exact ⟨out, rfl, h1, h2⟩

theorem sortP_w1_tot (l : List (List Prs)) (hlen : ∀ i, (l.getD i []).length ≤ 1000000) (i : Int) (h0 : 0 ≤ i) (h1 : i < l.length) (out : List (List Prs)) (ho : out.length ≤ 100000) (n : Int) (n0 : 0 ≤ n) (n1 : n ≤ out.length) :
    ∃ k : Int, sortP_w1 (l, i, n, out, ()) = some (l, i, k, out, ()) ∧ 0 ≤ k ∧ k ≤ n := by
  suffices hh : ∃ z, sortP_w1 (l, i, n, out, ()) = some z ∧ ∃ k : Int, z = (l, i, k, out, ()) ∧ 0 ≤ k ∧ k ≤ n by
    obtain ⟨z, hz, k, rfl, h⟩ := hh
    exact ⟨k, hz, h⟩
  refine iterO_bt (step := sortP_l1) (fun y => ∃ k : Int, y = (l, i, k, out, ()) ∧ 0 ≤ k ∧ k ≤ n) (fun y => y.2.2.1.toNat) _ ?_ _ ⟨n, rfl, n0, Int.le_refl n⟩
  rintro y ⟨k, rfl, k0, k1⟩
  unfold sortP_l1
  by_cases hk : k > 0
  · have hw : IntKind.wrap .i64 (k - 1) = k - 1 := Go.PI.wrap_small (by omega) (by omega)
    obtain ⟨b, hb⟩ := lessP_tot0 (l.getD i.toNat []) (out.getD (k - 1).toNat []) (hlen i.toNat)
    refine BT.lt (decide_eq_true hk) (BT.yes (in2 h0 h1) (BT.yes (by rw [hw]; exact in2 (by omega) (by omega)) (BT.opt ⟨_, by rw [hw]; exact hb, BT.cond (fun _ => BT.goes ⟨⟨k - 1, by rw [hw], by omega, by omega⟩, ?_⟩) (fun _ => BT.ends ⟨k, rfl, k0, k1⟩)⟩)))
    dsimp only
    rw [hw]
    omega
  · exact BT.ge (decide_eq_false hk) (BT.ends ⟨k, rfl, k0, k1⟩)

theorem sortP_w2_tot (P : (List Prs) → Prop) (l : List (List Prs)) (i a : Int) (a0 : 0 ≤ a) (r : List (List Prs)) (hr : r.length ≤ 100001) (k : Int) (ha : a ≤ k) (hk : k + 1 = r.length) (hP : ∀ j : Nat, (j : Int) < k → P (r.getD j [])) :
    ∃ r' : List (List Prs), sortP_w2 (l, i, a, k, r, ()) = some (l, i, a, r', ()) ∧ r'.length = r.length ∧ ∀ j : Nat, j < r.length → (j : Int) ≠ a → P (r'.getD j []) := by
  suffices hh : ∃ z, sortP_w2 (l, i, a, k, r, ()) = some z ∧ ∃ r' : List (List Prs), z = (l, i, a, r', ()) ∧ r'.length = r.length ∧ ∀ j : Nat, j < r.length → (j : Int) ≠ a → P (r'.getD j []) by
    obtain ⟨z, hz, r', rfl, h⟩ := hh
    exact ⟨r', hz, h⟩
  refine iterO_bt (step := sortP_l2) (fun y => ∃ (c : Int) (r' : List (List Prs)), y = (l, i, a, c, r', ()) ∧ a ≤ c ∧ c < r.length ∧ r'.length = r.length ∧ ∀ j : Nat, j < r.length → (j : Int) ≠ c → P (r'.getD j [])) (fun y => (y.2.2.2.1 - a).toNat) _ ?_ _ ⟨k, r, rfl, ha, by omega, rfl, fun j j1 j2 => hP j (by omega)⟩
  rintro y ⟨c, r', rfl, c0, c1, c2, c3⟩
  unfold sortP_l2
  by_cases hc : c > a
  · have hw : IntKind.wrap .i64 (c - 1) = c - 1 := Go.PI.wrap_small (by omega) (by omega)
    refine BT.lt (decide_eq_true hc) (BT.yes (by rw [hw]; exact in2 (by omega) (by omega)) (BT.yes (in2 (by omega) (by omega)) (BT.goes ⟨⟨c - 1, r'.set c.toNat (r'.getD (c - 1).toNat []), by rw [hw], by omega, by omega, by rw [List.length_set]; exact c2, fun j j1 j2 => ?_⟩, ?_⟩)))
    · by_cases hj : j = c.toNat
      · subst hj
        rw [getD_in _ _ _ (by rw [List.length_set]; omega), List.getElem_set_self]
        exact c3 _ (by omega) (by omega)
      · have e : (r'.set c.toNat (r'.getD (c - 1).toNat [])).getD j [] = r'.getD j [] := by
          rw [getD_in _ _ _ (by rw [List.length_set]; omega), List.getElem_set_ne (Ne.symm hj)]
          exact (getD_in _ _ _ (by omega)).symm
        rw [e]
        exact c3 j j1 (by omega)
    · dsimp only
      rw [hw]
      omega
  · obtain rfl : c = a := by omega
    exact BT.ge (decide_eq_false hc) (BT.ends ⟨r', rfl, c2, c3⟩)

theorem sortP_tot (P : (List Prs) → Prop) (l : List (List Prs)) (hl : l.length ≤ 100000) (hlen : ∀ i, (l.getD i []).length ≤ 1000000) (hP : ∀ x ∈ l, P x) : ∃ out : List (List Prs), sortP (l, ()) = some (out, ()) ∧ out.length = l.length ∧ ∀ x ∈ out, P x := by
  unfold sortP sortP_B
  obtain ⟨z, hz, out, rfl, h1, h2⟩ : ∃ z, sortP_w0 (l, 0, [], ()) = some z ∧ ∃ out : List (List Prs), z = (out, ()) ∧ out.length = l.length ∧ ∀ x ∈ out, P x := by
    refine iterO_bt (step := sortP_l0) (fun y => ∃ (i : Int) (out : List (List Prs)), y = (l, i, out, ()) ∧ 0 ≤ i ∧ i ≤ l.length ∧ (out.length : Int) = i ∧ ∀ x ∈ out, P x) (fun y => ((l.length : Int) - y.2.1).toNat) _ ?_ _ ⟨0, [], rfl, Int.le_refl 0, by omega, rfl, fun x h => by simp at h⟩
    rintro y ⟨i, out, rfl, h0, h1, h2, h3⟩
    unfold sortP_l0
    by_cases hi : i < (l.length : Int)
    · have hw : IntKind.wrap .i64 (i + 1) = i + 1 := Go.PI.wrap_small (by omega) (by omega)
      obtain ⟨k, e1, k0, k1⟩ := sortP_w1_tot l hlen i h0 hi out (by omega) out.length (by omega) (Int.le_refl _)
      have eL : (out ++ [[]]).length = out.length + 1 := by rw [List.length_append, List.length_singleton]
      obtain ⟨r', e2, r1, r2⟩ := sortP_w2_tot P l i k k0 (out ++ [[]]) (by omega) out.length k1 (by rw [eL]; omega) (fun j hj => by
        rw [getD_in _ _ _ (by rw [eL]; omega), List.getElem_append_left (by omega)]
        exact h3 _ (List.getElem_mem _))
      have hw2 : IntKind.wrap .i64 (((out ++ [[]]).length : Int) - 1) = (out.length : Int) := by rw [Go.PI.wrap_small (by rw [eL]; omega) (by rw [eL]; omega), eL]; omega
      have hlt : i.toNat < l.length := by omega
      refine BT.lt (decide_eq_true hi) (BT.opt ⟨_, e1, BT.yes (decide_eq_true ?_) (BT.opt ⟨_, (congrArg (fun n => sortP_w2 (l, i, k, n, out ++ [[]], ())) hw2).trans e2, BT.yes (in2 h0 hi) (BT.yes (in2 k0 ?_) (BT.goes ⟨⟨i + 1, r'.set k.toNat (l.getD i.toNat []), by rw [hw], by omega, by omega, ?_, fun x hx => ?_⟩, ?_⟩))⟩)⟩)
      · show (out.length + 1) * 24 ≤ 140737488355328
        omega
      · show k < (r'.length : Int)
        rw [r1, eL]; omega
      · rw [List.length_set, r1, eL]; omega
      · obtain ⟨j, hj, rfl⟩ := List.getElem_of_mem hx
        rw [List.length_set] at hj
        by_cases hjk : j = k.toNat
        · subst hjk
          rw [List.getElem_set_self, getD_in _ _ _ hlt]
          exact hP _ (List.getElem_mem hlt)
        · rw [List.getElem_set_ne (Ne.symm hjk)]
          have := r2 j (by omega) (by omega)
          rw [getD_in _ _ _ hj] at this
          exact this
      · dsimp only
        rw [hw]
        omega
    · exact BT.ge (decide_eq_false hi) (BT.ends ⟨out, rfl, by omega, h3⟩)
  simp only [Br.run, hz]
  exact ⟨out, rfl, h1, h2⟩
end Go.Proofs.Ytnhiplibodkciaa

namespace Go.Proofs.Ytnhiplibodkciaa
open Go.PI Go

def withR (r : RunT) (q : Qry) (st el : Int) (e : Evt) : RunT :=
  (st, (el, e.2.2.2.1) :: r.2.1, (if 0 ≤ el ∧ el < q.1.length ∧ (q.1.getD el.toNat eZ').2.2.2.2.1 = 1 then ((q.1.getD el.toNat eZ').1, e) :: r.2.2.1 else r.2.2.1), (if r.2.1 = [] then e.2.2.1 else r.2.2.2.1), (e.2.2.1, e.2.2.2.1, 0), false)
theorem runWith_at (r : RunT) (q : Qry) (st el : Int) (e : Evt) (hm : r.2.1.length ≤ 1000000) (he : r.2.2.1.length ≤ 1000000) (hv : e.2.2.2.2.length ≤ 1000) : runWith (r, q, st, el, e, ()) = some (withR r q st el e, ()) := by
  unfold runWith runWith_B withP withB stampE stampE_B runLen runLen_B copyE copyE_B cloneVal
  have hb : bound (0 + e.2.2.2.2.length) 40 = true := by unfold bound; exact decide_eq_true (by omega)
  have hm' : r.2.1.length < 9223372036854775807 := by omega
  have he' : r.2.2.1.length < 9223372036854775807 := by omega
  obtain ⟨r1, rm, re, rf, rs, rb⟩ := r
  obtain ⟨e1, e2, e3, e4, e5⟩ := e
  dsimp only at hm he hv hb hm' he' ⊢
  by_cases h0 : 0 ≤ el
  · have h0' : el ≥ 0 := h0
    by_cases h1 : el < q.1.length
    · by_cases h2 : (q.1.getD el.toNat eZ').2.2.2.2.1 = 1
      · have h2' : ((q.1.getD el.toNat eZ').2.2.2.2.1 == 1) = true := by rw [h2]; rfl
        cases rm with
        | nil => simp only [Br.run, lenP_at, List.length_nil, decide_eq_true hm', decide_eq_true he', cond_true, decide_eq_true h0, decide_eq_true h0', decide_eq_true h1, Bool.and_self, h2', hb, withR, h0, h1, h2, and_self, if_true]; rfl
        | cons a m => 
          have hl : (((a :: m).length : Int) == 0) = false := by simp; omega
          have hl' : (a :: m).length < 9223372036854775807 := hm'
          simp only [Br.run, lenP_at, hl, decide_eq_true hl', decide_eq_true he', cond_true, cond_false, decide_eq_true h0, decide_eq_true h0', decide_eq_true h1, Bool.and_self, h2', hb, withR, h0, h1, h2, and_self, if_true]; rfl
      · have h2' : ((q.1.getD el.toNat eZ').2.2.2.2.1 == 1) = false := by simpa using h2
        cases rm with
        | nil => simp only [Br.run, lenP_at, List.length_nil, decide_eq_true hm', decide_eq_true he', cond_true, cond_false, decide_eq_true h0, decide_eq_true h0', decide_eq_true h1, Bool.and_self, h2', hb, withR, h2, and_false, if_false]; rfl
        | cons a m => 
          have hl : (((a :: m).length : Int) == 0) = false := by simp; omega
          have hl' : (a :: m).length < 9223372036854775807 := hm'
          simp only [Br.run, lenP_at, hl, decide_eq_true hl', decide_eq_true he', cond_true, cond_false, decide_eq_true h0, decide_eq_true h0', decide_eq_true h1, Bool.and_self, h2', hb, withR, h2, and_false, if_false]; rfl
    · cases rm with
      | nil => simp only [Br.run, lenP_at, List.length_nil, decide_eq_true hm', cond_true, cond_false, decide_eq_true h0', decide_eq_false h1, withR, h1, false_and, and_false, if_false]; rfl
      | cons a m => 
        have hl : (((a :: m).length : Int) == 0) = false := by simp; omega
        have hl' : (a :: m).length < 9223372036854775807 := hm'
        simp only [Br.run, lenP_at, hl, decide_eq_true hl', cond_true, cond_false, decide_eq_true h0', decide_eq_false h1, withR, h1, false_and, and_false, if_false]; rfl
  · have h0' : ¬ el ≥ 0 := h0
    cases rm with
    | nil => simp only [Br.run, lenP_at, List.length_nil, decide_eq_true hm', cond_true, cond_false, decide_eq_false h0', withR, h0, false_and, if_false]; rfl
    | cons a m => 
      have hl : (((a :: m).length : Int) == 0) = false := by simp; omega
      have hl' : (a :: m).length < 9223372036854775807 := hm'
      simp only [Br.run, lenP_at, hl, decide_eq_true hl', cond_true, cond_false, decide_eq_false h0', withR, h0, false_and, if_false]; rfl

def elemR (r : RunT) : Int := match r.2.1 with
  | [] => -1
  | x :: _ => x.1
theorem runElem_at (r : RunT) : runElem (r, ()) = some (elemR r, ()) := by
  unfold runElem runElem_B newestP newestP_B
  obtain ⟨r1, rm, rest⟩ := r
  cases rm with
  | nil => simp only [Br.run, lenP_at]; rfl
  | cons a m =>
    have hl : (((a :: m).length : Int) == 0) = false := by simp; omega
    simp only [Br.run, lenP_at, hl, cond_false]; rfl
def ValsIn (e : Evt) : Prop := ∀ v ∈ e.2.2.2.2, -9223372036854775808 ≤ v.2.1 ∧ v.2.1 ≤ 9223372036854775807
theorem mkE_in (k : Int) (key : ByteArray) (t n : Int) (s : ByteArray) (b : Bool) (hn : n = 0 ∨ n = 1 ∨ n = 2 ∨ n = 3) : ValsIn (mkE k key t n s b) := by
  intro v hv
  unfold mkE at hv
  dsimp only at hv
  split at hv <;> simp at hv <;> rcases hv with rfl | rfl | rfl <;> (dsimp only; omega)
def EvsOk (l : List Evt) : Prop := ∀ (k : Nat) e, l[k]? = some e → e.2.2.2.2.length ≤ 3 ∧ e.2.2.2.1 = (k : Int) + 1 ∧ ValsIn e
theorem EvsOk.snoc {l : List Evt} (h : EvsOk l) {e : Evt} (h1 : e.2.2.2.2.length ≤ 3) (h2 : e.2.2.2.1 = (l.length : Int) + 1) (h3 : ValsIn e) : EvsOk (l ++ [e]) := by
  intro k u hu
  rcases Nat.lt_or_ge k l.length with hk | hk
  · rw [List.getElem?_append_left hk] at hu
    exact h k u hu
  · rw [List.getElem?_append_right hk] at hu
    have : k = l.length := by
      have := (List.getElem?_eq_some_iff.1 hu).1
      simp at this
      omega
    subst this
    rw [Nat.sub_self] at hu
    obtain rfl : e = u := by simpa using hu
    exact ⟨h1, h2, h3⟩
theorem EvsOk.get {l : List Evt} (h : EvsOk l) {i : Nat} (hi : i < l.length) : (l.getD i evZ).2.2.2.2.length ≤ 3 ∧ (l.getD i evZ).2.2.2.1 = (i : Int) + 1 ∧ ValsIn (l.getD i evZ) := by
  rw [getD_lt _ _ _ hi]
  exact h i _ (List.getElem?_eq_getElem hi)
theorem eventsR_at (l : List Evt) (m : Int) (h0 : 0 ≤ m) (hm : m ≤ 100) : ∃ x, eventsR (l, m, ()) = some (x, ()) ∧ EvsOk x ∧ (x.length : Int) ≤ m ∧ (x.length = 0 → l.length = 0 ∨ m = 0) := by
  unfold eventsR eventsR_B
  obtain ⟨z, hz, hq⟩ : ∃ z, eventsR_w0 (l, m, 0, [], ()) = some z ∧ EvsOk z.1 ∧ (z.1.length : Int) ≤ m ∧ (z.1.length = 0 → l.length = 0 ∨ m = 0) := by
    refine iterO_rec (step := fun x => (eventsR_l0 x).run) (Q := fun _ z => EvsOk z.1 ∧ (z.1.length : Int) ≤ m ∧ (z.1.length = 0 → l.length = 0 ∨ m = 0)) (fun y => y.1 = l ∧ y.2.1 = m ∧ 0 ≤ y.2.2.1 ∧ y.2.2.1 ≤ m ∧ (y.2.2.2.1.length : Int) = y.2.2.1 ∧ EvsOk y.2.2.2.1) (fun y => (m - y.2.2.1).toNat) ?_ _ ⟨rfl, rfl, Int.le_refl 0, h0, rfl, fun k e h => by simp at h⟩
    rintro ⟨l', m', i, acc, ⟨⟩⟩ hx
    dsimp only at hx ⊢
    obtain ⟨rfl, rfl, h0, h1, h2, h3⟩ := hx
    unfold eventsR_l0
    by_cases hi : i < (l'.length : Int)
    · by_cases hi5 : i < m'
      · have hw : IntKind.wrap .i64 (i + 1) = i + 1 := Go.PI.wrap_small (by omega) (by omega)
        obtain ⟨k, key, t, n, s, b, -, hn, -, he⟩ := eventR_at (List.getD l' (Int.toNat i) (ByteArray.empty, ByteArray.empty, 0, 0, []))
        simp only [Br.run, decide_eq_true hi, decide_eq_true hi5, decide_eq_true h0, Bool.and_self, cond_true, hw, he, Bool.cond_decide]
        refine .inl ⟨_, if_pos ?_, ?_, ?_, fun z hz => hz⟩
        · show (acc.length + 1) * 72 ≤ 140737488355328
          omega
        · refine ⟨rfl, rfl, by dsimp only; omega, by dsimp only; omega, ?_, h3.snoc (mkE_len k key t n s b) (show i + 1 = (acc.length : Int) + 1 by omega) (mkE_in k key t n s b hn)⟩
          show (((acc ++ [_]).length : Nat) : Int) = i + 1
          rw [List.length_append, List.length_singleton]; omega
        · dsimp only; omega
      · simp only [Br.run, decide_eq_true hi, decide_eq_false hi5, cond_true, cond_false]
        exact .inr ⟨_, rfl, h3, by dsimp only; omega, by dsimp only; omega⟩
    · simp only [Br.run, decide_eq_false hi, cond_false]
      exact .inr ⟨_, rfl, h3, by dsimp only; omega, by dsimp only; omega⟩
  simp only [Br.run, hz]
  exact ⟨_, rfl, hq⟩

end Go.Proofs.Ytnhiplibodkciaa

namespace Go.Proofs.Ytnhiplibodkciaa
open Go.PI Go

section
variable {q : Qry} {l : List Evt} {R : Int → Int → List Prs → List Bnd → Int → Int → Prop} {O : List Prs → Prop}
theorem allM_at (hS : Steps q l R O) (hq : QGood q) (hl : l.length ≤ 8) (hE : ∀ x ∈ l, EvGood x) (hO : ∀ m, O m → m.length ≤ 1000000)
    (h0 : ∀ i : Int, 0 ≤ i → i < l.length → fits20 (q.1.getD 0 elmZ, l.getD i.toNat evZ, [], ()) = some (true, ()) → R 0 1 [(0, (l.getD i.toNat evZ).2.2.2.1)] (envNext (q.1.getD 0 elmZ) [] (l.getD i.toNat evZ)) (l.getD i.toNat evZ).2.2.1 (i + 1)) :
    ∃ ms, allM (q, l, ()) = some (ms, ()) ∧ (∀ m ∈ ms, O m) ∧ ms.length ≤ 100000 := by
  have hlo := hq.lo
  have hEl := hq.get 0 (Int.le_refl 0) (by omega)
  have p8 : 3 ^ l.length ≤ 6561 := Nat.le_trans (Nat.pow_le_pow_right (by decide) hl) (by decide)
  have hz : ((q.1.length : Int) == 0) = false := beq_eq_false_iff_ne.2 (by omega)
  obtain ⟨z, hz1, out, rfl, h1, h2⟩ : ∃ z, allM_w0 (l, 0, q.1, q.2.1, q.2.2, l, q, [], ()) = some z ∧ ∃ out : List (List Prs), z = (q.1, q.2.1, q.2.2, l, out, ()) ∧ (∀ m ∈ out, O m) ∧ 2 * out.length ≤ 6561 := by
    refine iterO_bt (step := allM_l0) (fun y => ∃ (i : Int) (out : List (List Prs)), y = (l, i, q.1, q.2.1, q.2.2, l, q, out, ()) ∧ 0 ≤ i ∧ i ≤ l.length ∧ (∀ m ∈ out, O m) ∧ 2 * out.length + 3 ^ ((l.length : Int) - i).toNat ≤ 3 ^ l.length) (fun y => ((l.length : Int) - y.2.1).toNat) _ ?_ _ ⟨0, [], rfl, Int.le_refl 0, by omega, fun m h => by simp at h, by simp⟩
    rintro y ⟨i, out, rfl, g0, g1, g2, g3⟩
    unfold allM_l0
    by_cases hi : i < (l.length : Int)
    · have hw : IntKind.wrap .i64 (i + 1) = i + 1 := Go.PI.wrap_small (by omega) (by omega)
      have hlt : i.toNat < l.length := by omega
      have hxe : EvGood (l.getD i.toNat evZ) := by rw [getD_in _ _ _ hlt]; exact hE _ (List.getElem_mem hlt)
      have hp := p3s l.length i hi
      have hp1 := p3 ((l.length : Int) - (i + 1)).toNat
      obtain ⟨b, hb20⟩ := fits20_tot (q.1.getD 0 elmZ) hEl.1 hEl.2.2.2.2.2.1 hEl.2.2.2.2.2.2 (l.getD i.toNat evZ) hxe [] (by simp) (fun b h => by simp at h)
      have hn := h0 i g0 hi
      have gin : ∀ env' : List Bnd, R 0 1 [(0, (l.getD i.toNat evZ).2.2.2.1)] env' (l.getD i.toNat evZ).2.2.1 (i + 1) → ∃ o2, elemFF ((q, l, out), 0, 1, [(0, (l.getD i.toNat evZ).2.2.2.1)], env', (l.getD i.toNat evZ).2.2.1, i + 1, ()) = some ((q, l, out ++ o2), ()) ∧ (∀ m ∈ out ++ o2, O m) ∧ 2 * (out ++ o2).length + 3 ^ ((l.length : Int) - (i + 1)).toNat ≤ 3 ^ l.length := by
        intro env' hR'
        obtain ⟨o2, e1, e2, e3⟩ := (elem_cross hS hq (by omega) hE (2 * l.length + 8)).1 0 1 _ env' (l.getD i.toNat evZ).2.2.1 (i + 1) out hR' (by omega) (by omega)
        refine ⟨o2, e1, fun m hm => ?_, ?_⟩
        · rcases List.mem_append.1 hm with k | k
          · exact g2 m k
          · exact e2 m k
        · rw [List.length_append]; omega
      refine BT.lt (decide_eq_true hi) (BT.yes (in2 g0 hi) (BT.yes (in2 (Int.le_refl 0) (by omega)) (BT.opt ⟨_, hb20, BT.cond (fun _ => BT.goes ⟨⟨i + 1, out, by rw [hw], by omega, by omega, g2, by omega⟩, ?_⟩) (fun hbt => ?_)⟩)))
      · dsimp only
        rw [hw]
        omega
      · have hbt : b = true := by simpa using hbt
        subst hbt
        have hn := hn hb20
        refine BT.cond (fun hm1 => ?_) (fun hm1 => ?_)
        · have hm1 : (q.1.getD 0 elmZ).2.2.2.2.1 = 1 := by simpa using hm1
          have e : envNext (q.1.getD 0 elmZ) [] (l.getD i.toNat evZ) = [((q.1.getD 0 elmZ).1, l.getD i.toNat evZ)] := if_pos hm1
          rw [e] at hn
          obtain ⟨o2, e1, e2, e3⟩ := gin _ hn
          refine BT.yes (decide_eq_true (show (0 + 1) * 88 ≤ 140737488355328 by decide)) (BT.opt ⟨_, by rw [hw]; exact e1, BT.goes ⟨⟨i + 1, out ++ o2, by rw [hw], by omega, by omega, e2, e3⟩, ?_⟩⟩)
          dsimp only
          rw [hw]
          omega
        · have hm1 : ¬ (q.1.getD 0 elmZ).2.2.2.2.1 = 1 := by simpa using hm1
          have e : envNext (q.1.getD 0 elmZ) [] (l.getD i.toNat evZ) = [] := if_neg hm1
          rw [e] at hn
          obtain ⟨o2, e1, e2, e3⟩ := gin _ hn
          refine BT.opt ⟨_, by rw [hw]; exact e1, BT.goes ⟨⟨i + 1, out ++ o2, by rw [hw], by omega, by omega, e2, e3⟩, ?_⟩⟩
          dsimp only
          rw [hw]
          omega
    · exact BT.ge (decide_eq_false hi) (BT.ends ⟨out, rfl, g2, Nat.le_trans (Nat.le_add_right _ _) (Nat.le_trans g3 p8)⟩)
  obtain ⟨ms, e1, e2, e3⟩ := sortP_tot O out (by omega) (fun i => by
    by_cases h : i < out.length
    · rw [getD_in _ _ _ h]; exact hO _ (h1 _ (List.getElem_mem h))
    · simp [List.getD, Nat.le_of_not_lt h]) h1
  unfold allM allM_B
  simp only [Br.run, hz, cond_false, hz1, e1]
  exact ⟨ms, rfl, e3, by omega⟩
end

def Rb (q : Qry) (l : List Evt) (a h : Int) (m : List Prs) (env : List Bnd) (f0 fr : Int) : Prop :=
  0 ≤ a ∧ a < q.1.length ∧ 0 ≤ h ∧ h ≤ fr ∧ (m.length : Int) ≤ fr ∧ (env.length : Int) ≤ fr ∧ EnvIn env ∧ 0 ≤ fr ∧ fr ≤ l.length ∧ m.Pairwise (fun x y => x.1 ≤ y.1) ∧ (∀ p ∈ m, p.1 ≤ a) ∧ ∀ p ∈ m, 0 ≤ p.1
def Ob (q : Qry) (l : List Evt) (m : List Prs) : Prop := m.Pairwise (fun x y => x.1 ≤ y.1) ∧ m.length ≤ l.length ∧ ∀ p ∈ m, 0 ≤ p.1 ∧ p.1 < q.1.length

theorem envNext_in {e : Elm} {env : List Bnd} {x : Evt} (h : EnvIn env) (hx : EvGood x) : EnvIn (envNext e env x) := by
  unfold envNext
  split
  · intro b hb
    rcases List.mem_append.1 hb with k | k
    · exact h b k
    · obtain rfl := List.mem_singleton.1 k
      exact hx.2
  · exact h
theorem envNext_len (e : Elm) (env : List Bnd) (x : Evt) : (envNext e env x).length ≤ env.length + 1 := by
  unfold envNext
  split
  · rw [List.length_append, List.length_singleton]; omega
  · omega
theorem pw_snoc {m : List Prs} {a s : Int} (h : m.Pairwise (fun x y => x.1 ≤ y.1)) (k : ∀ p ∈ m, p.1 ≤ a) : (m ++ [(a, s)]).Pairwise (fun x y => x.1 ≤ y.1) ∧ ∀ p ∈ m ++ [(a, s)], p.1 ≤ a := by
  refine ⟨List.pairwise_append.2 ⟨h, List.pairwise_singleton _ _, fun x hx y hy => ?_⟩, fun p hp => ?_⟩
  · obtain rfl := List.mem_singleton.1 hy
    exact k x hx
  · rcases List.mem_append.1 hp with h | h
    · exact k p h
    · obtain rfl := List.mem_singleton.1 h
      exact Int.le_refl _
theorem ge_snoc {m : List Prs} {a s : Int} (h : ∀ p ∈ m, 0 ≤ p.1) (ha : 0 ≤ a) : ∀ p ∈ m ++ [(a, s)], 0 ≤ p.1 := fun p hp => by
  rcases List.mem_append.1 hp with k | k
  · exact h p k
  · obtain rfl := List.mem_singleton.1 k
    exact ha
theorem rb_steps {q : Qry} {l : List Evt} (hl : l.length ≤ 8) (hE : ∀ x ∈ l, EvGood x) : Steps q l (Rb q l) (Ob q l) where
  rng := by
    rintro a h m env f0 fr ⟨r1, r2, r3, r4, r5, r6, r7, r8, r9, -⟩
    exact ⟨r1, r2, r3, by omega, by omega, by omega, r7, r8, r9⟩
  more := by
    rintro a h m env f0 fr i ⟨r1, r2, r3, r4, r5, r6, r7, r8, r9, r10, r11, r12⟩ g0 g1 -
    have hlt : i.toNat < l.length := by omega
    have hxe : EvGood (l.getD i.toNat evZ) := by rw [getD_in _ _ _ hlt]; exact hE _ (List.getElem_mem hlt)
    have := envNext_len (q.1.getD a.toNat elmZ) env (l.getD i.toNat evZ)
    refine ⟨r1, r2, by omega, by omega, ?_, by omega, envNext_in r7 hxe, by omega, by omega, (pw_snoc r10 r11).1, (pw_snoc r10 r11).2, ge_snoc r12 r1⟩
    rw [List.length_append, List.length_singleton]; omega
  next := by
    rintro a h m env f0 fr k i ⟨r1, r2, r3, r4, r5, r6, r7, r8, r9, r10, r11, r12⟩ hk hk2 g0 g1 -
    have hlt : i.toNat < l.length := by omega
    have hxe : EvGood (l.getD i.toNat evZ) := by rw [getD_in _ _ _ hlt]; exact hE _ (List.getElem_mem hlt)
    have := envNext_len (q.1.getD k.toNat elmZ) env (l.getD i.toNat evZ)
    have hpa : ∀ p ∈ m, p.1 ≤ k := fun p hp => by have := r11 p hp; omega
    refine ⟨by omega, hk2, by omega, by omega, ?_, by omega, envNext_in r7 hxe, by omega, by omega, (pw_snoc r10 hpa).1, (pw_snoc r10 hpa).2, ge_snoc r12 (by omega)⟩
    rw [List.length_append, List.length_singleton]; omega
  out := by
    rintro a h m env f0 fr ⟨r1, r2, r3, r4, r5, r6, r7, r8, r9, r10, r11, r12⟩
    exact ⟨r10, by omega, fun p hp => ⟨r12 p hp, by have := r11 p hp; omega⟩⟩

theorem allM_b {q : Qry} (hq : QGood q) {l : List Evt} (hl : l.length ≤ 8) (hE : ∀ x ∈ l, EvGood x) : ∃ ms, allM (q, l, ()) = some (ms, ()) ∧ (∀ m ∈ ms, Ob q l m) ∧ ms.length ≤ 100000 := by
  have hlo := hq.lo
  refine allM_at (rb_steps hl hE) hq hl hE (fun m h => by have := h.2.1; omega) (fun i h0 h1 _ => ?_)
  have hlt : i.toNat < l.length := by omega
  have hxe : EvGood (l.getD i.toNat evZ) := by rw [getD_in _ _ _ hlt]; exact hE _ (List.getElem_mem hlt)
  have := envNext_len (q.1.getD 0 elmZ) [] (l.getD i.toNat evZ)
  simp only [List.length_nil] at this
  refine ⟨Int.le_refl 0, by omega, by omega, by omega, ?_, by omega, envNext_in (fun b h => by simp at h) hxe, by omega, by omega, List.pairwise_singleton _ _, fun p hp => ?_, fun p hp => ?_⟩
  · rw [List.length_singleton]; omega
  · obtain rfl := List.mem_singleton.1 hp
    exact Int.le_refl _
  · obtain rfl := List.mem_singleton.1 hp
    exact Int.le_refl _
end Go.Proofs.Ytnhiplibodkciaa
