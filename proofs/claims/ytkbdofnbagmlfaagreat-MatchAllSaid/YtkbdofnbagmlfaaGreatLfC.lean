/- Lists in order: nothing lost, each behind those that are ahead of it. -/
import Derived.Test.YtkbdofnbagmlfaaGreatHk
namespace Go.Proofs.YtkbdofnbagmlfaaGreat
open Go.PI Go
theorem ZjM {α : Type} (d : α) {a b : List α} (h : a.length = b.length) (k : ∀ j, j < a.length -> a.getD j d = b.getD j d) : a = b :=
 List.ext_getElem h fun j h1 h2 => by
  have := k j h1
  rwa [Zaf _ _ _ h1, Zaf _ _ _ h2] at this
theorem Zsj {α : Type} (d e : α) (out : List α) (a : Nat) (ha : a <= out.length) (j : Nat) (hj : j < out.length + 1) : (out.take a ++ e :: out.drop a).getD j d = if j < a then out.getD j d else if j = a then e else out.getD (j - 1) d := by
 have hl : (out.take a ++ e :: out.drop a).length = out.length + 1 := by simp; omega
 rw [Zaf _ _ _ (by omega)]
 by_cases h1 : j < a
 ·rw [if_pos h1, List.getElem_append_left (by simp; omega), List.getElem_take, Zaf _ _ _ (by omega)]
 ·rw [if_neg h1, List.getElem_append_right (by simp; omega)]
  have e1 : (out.take a).length = a := by simp; omega
  by_cases h2 : j = a
  ·subst h2
   rw [if_pos rfl]
   simp [e1]
  ·rw [if_neg h2]
   obtain ⟨m, rfl⟩ : ∃ m, j = a + m + 1 := ⟨j - a - 1, by omega⟩
   have e2 : a + m + 1 - (out.take a).length = m + 1 := by omega
   simp only [e2, List.getElem_cons_succ, List.getElem_drop]
   rw [Zaf _ _ _ (by omega)]
   rfl
theorem Zj8 {α : Type} {le : α -> α -> Prop} {out : List α} {e : α} {k : Nat} (hs : out.Pairwise le) (h1 : ∀ x ∈ out.drop k, le e x) (h2 : ∀ x ∈ out.take k, le x e) : (out.take k ++ e :: out.drop k).Pairwise le := by
 rw [<- List.take_append_drop k out, List.pairwise_append] at hs
 rw [List.pairwise_append]
 refine ⟨hs.1, List.pairwise_cons.2 ⟨h1, hs.2.1⟩, fun x hx y hy => ?_⟩
 rcases List.mem_cons.1 hy with rfl | hy
 ·exact h2 x hx
 ·exact hs.2.2 x hx y hy
theorem Zod {α : Type} (e : α) (out : List α) (k : Nat) : (out.take k ++ e :: out.drop k).Perm (out ++ [e]) := by
 have h := (List.perm_middle (a := e) (l₁ := out.take k) (l₂ := out.drop k))
 rw [List.take_append_drop] at h
 exact h.trans (by simpa using (List.perm_append_comm (l₁ := [e]) (l₂ := out)))
theorem ZqW (G : Evt -> Prop) (lt : Evt -> Evt -> Bool) (hG : ∀ a b, G a -> G b -> beforeE (a, b, ()) = some (lt a b, ())) (l : List Evt) (i : Int) (h0 : 0 <= i) (h1 : i < l.length) (hgi : G (l.getD i.toNat evZ)) (out : List Evt) (ho : out.length <= 100000) (hgo : ∀ x ∈ out, G x) :
  ∃ k : Int, sortE_w1 (l, i, out.length, out, ()) = some (l, i, k, out, ()) /\ 0 <= k /\ k <= out.length /\ (∀ j : Nat, k <= (j : Int) -> j < out.length -> lt (l.getD i.toNat evZ) (out.getD j evZ) = true) /\ (0 < k -> lt (l.getD i.toNat evZ) (out.getD (k - 1).toNat evZ) = false) := by
 suffices hh : ∃ z, sortE_w1 (l, i, out.length, out, ()) = some z /\ ∃ k : Int, z = (l, i, k, out, ()) /\ 0 <= k /\ k <= out.length /\ (∀ j : Nat, k <= (j : Int) -> j < out.length -> lt (l.getD i.toNat evZ) (out.getD j evZ) = true) /\ (0 < k -> lt (l.getD i.toNat evZ) (out.getD (k - 1).toNat evZ) = false) by
  obtain ⟨z, hz, k, rfl, h⟩ := hh
  exact ⟨k, hz, h⟩
 refine Zaw (step := ZgQ) (fun y => ∃ k : Int, y = (l, i, k, out, ()) /\ 0 <= k /\ k <= out.length /\ (∀ j : Nat, k <= (j : Int) -> j < out.length -> lt (l.getD i.toNat evZ) (out.getD j evZ) = true)) (fun y => y.2.2.1.toNat) _ ?_ _ ⟨out.length, rfl, by omega, Int.le_refl _, fun j h h' => by omega⟩
 rintro y ⟨k, rfl, k0, k1, k2⟩
 unfold ZgQ
 by_cases hk : k > 0
 ·have hw : IntKind.wrap .i64 (k - 1) = k - 1 := Go.PI.wrap_small (by omega) (by omega)
  have hb := hG (l.getD i.toNat evZ) (out.getD (k - 1).toNat evZ) hgi (hgo _ (by rw [Zaf _ _ _ (by omega)]; exact List.getElem_mem _))
  refine BT.lt (decide_eq_true hk) (BT.yes (in2 h0 h1) (BT.yes (by rw [hw]; exact in2 (by omega) (by omega)) (BT.opt ⟨_, by rw [hw]; exact hb, BT.cond (fun hc => BT.goes ⟨⟨k - 1, by rw [hw], by omega, by omega, fun j j0 j1 => ?_⟩, ?_⟩) (fun hc => BT.ends ⟨k, rfl, k0, k1, k2, fun _ => hc⟩)⟩)))
  ·by_cases hj : k <= (j : Int)
   ·exact k2 j hj j1
   ·obtain rfl : j = (k - 1).toNat := by omega
    exact hc
  ·dsimp only
   rw [hw]
   omega
 ·exact BT.ge (decide_eq_false hk) (BT.ends ⟨k, rfl, k0, k1, k2, fun h => by omega⟩)
theorem Zrj (l : List Evt) (i a : Int) (a0 : 0 <= a) (out : List Evt) (hr : out.length <= 100000) (ha : a <= out.length) :
  ∃ r' : List Evt, sortE_w2 (l, i, a, out.length, out ++ [evZ], ()) = some (l, i, a, r', ()) /\ r'.length = out.length + 1 /\ (∀ j : Nat, (j : Int) < a -> r'.getD j evZ = out.getD j evZ) /\ (∀ j : Nat, a < (j : Int) -> j <= out.length -> r'.getD j evZ = out.getD (j - 1) evZ) := by
 suffices hh : ∃ z, sortE_w2 (l, i, a, out.length, out ++ [evZ], ()) = some z /\ ∃ r' : List Evt, z = (l, i, a, r', ()) /\ r'.length = out.length + 1 /\ (∀ j : Nat, (j : Int) < a -> r'.getD j evZ = out.getD j evZ) /\ (∀ j : Nat, a < (j : Int) -> j <= out.length -> r'.getD j evZ = out.getD (j - 1) evZ) by
  obtain ⟨z, hz, r', rfl, h⟩ := hh
  exact ⟨r', hz, h⟩
 have eL : (out ++ [evZ]).length = out.length + 1 := by rw [List.length_append, List.length_singleton]
 refine Zaw (step := ZgO) (fun y => ∃ (c : Int) (r' : List Evt), y = (l, i, a, c, r', ()) /\ a <= c /\ c <= out.length /\ r'.length = out.length + 1 /\ (∀ j : Nat, (j : Int) < c -> r'.getD j evZ = out.getD j evZ) /\ (∀ j : Nat, c < (j : Int) -> j <= out.length -> r'.getD j evZ = out.getD (j - 1) evZ)) (fun y => (y.2.2.2.1 - a).toNat) _ ?_ _ ⟨out.length, _, rfl, ha, Int.le_refl _, eL, fun j j1 => ?_, fun j j1 j2 => by omega⟩
 rotate_left
 ·rw [Zaf _ _ _ (by rw [eL]; omega), List.getElem_append_left (by omega), Zaf _ _ _ (by omega)]
 rintro y ⟨c, r', rfl, c0, c1, c2, c3, c4⟩
 unfold ZgO
 by_cases hc : c > a
 ·have hw : IntKind.wrap .i64 (c - 1) = c - 1 := Go.PI.wrap_small (by omega) (by omega)
  refine BT.lt (decide_eq_true hc) (BT.yes (by rw [hw]; exact in2 (by omega) (by omega)) (BT.yes (in2 (by omega) (by omega)) (BT.goes ⟨⟨c - 1, r'.set c.toNat (r'.getD (c - 1).toNat evZ), by rw [hw], by omega, by omega, by rw [List.length_set]; exact c2, fun j j1 => ?_, fun j j1 j2 => ?_⟩, ?_⟩)))
  ·rw [Zaf _ _ _ (by rw [List.length_set]; omega), List.getElem_set_ne (by omega), <- Zaf _ _ evZ (by omega)]
   exact c3 j (by omega)
  ·by_cases hj : j = c.toNat
   ·subst hj
    rw [Zaf _ _ _ (by rw [List.length_set]; omega), List.getElem_set_self, c3 _ (by omega)]
    congr 1
    omega
   ·rw [Zaf _ _ _ (by rw [List.length_set]; omega), List.getElem_set_ne (Ne.symm hj), <- Zaf _ _ evZ (by omega)]
    exact c4 j (by omega) j2
  ·dsimp only
   rw [hw]
   omega
 ·obtain rfl : c = a := by omega
  exact BT.ge (decide_eq_false hc) (BT.ends ⟨r', rfl, c2, c3, c4⟩)
theorem sortE_at (G : Evt -> Prop) (lt : Evt -> Evt -> Bool) (le : Evt -> Evt -> Prop) (hG : ∀ a b, G a -> G b -> beforeE (a, b, ()) = some (lt a b, ())) (h1 : ∀ a b, lt a b = true -> le a b) (h2 : ∀ a b, lt a b = false -> le b a) (tr : ∀ a b c, le a b -> le b c -> le a c) (l : List Evt) (hl : l.length <= 100000) (hg : ∀ x ∈ l, G x) :
  ∃ out : List Evt, sortE (l, ()) = some (out, ()) /\ out.Perm l /\ out.Pairwise le := by
 unfold sortE Zsx
 obtain ⟨z, hz, out, rfl, p1, p2⟩ : ∃ z, sortE_w0 (l, 0, [], ()) = some z /\ ∃ out : List Evt, z = (out, ()) /\ out.Perm l /\ out.Pairwise le := by
  refine Zaw (step := Zhm) (fun y => ∃ (i : Int) (out : List Evt), y = (l, i, out, ()) /\ 0 <= i /\ i <= l.length /\ out.Perm (l.take i.toNat) /\ out.Pairwise le) (fun y => ((l.length : Int) - y.2.1).toNat) _ ?_ _ ⟨0, [], rfl, Int.le_refl 0, by omega, .refl _, .nil⟩
  rintro y ⟨i, out, rfl, i0, i1, p1, p2⟩
  have hlen : (out.length : Int) = i := by have := p1.length_eq; rw [List.length_take] at this; omega
  have hgo : ∀ x ∈ out, G x := fun x hx => hg x (List.mem_of_mem_take (p1.mem_iff.1 hx))
  unfold Zhm
  by_cases hi : i < (l.length : Int)
  ·have hw : IntKind.wrap .i64 (i + 1) = i + 1 := Go.PI.wrap_small (by omega) (by omega)
   have hit : i.toNat < l.length := by omega
   have hgi : G (l.getD i.toNat evZ) := hg _ (by rw [Zaf _ _ _ hit]; exact List.getElem_mem _)
   obtain ⟨k, e1, k0, k1, k2, k3⟩ := ZqW G lt hG l i i0 hi hgi out (by omega) hgo
   have eL : (out ++ [evZ]).length = out.length + 1 := by rw [List.length_append, List.length_singleton]
   obtain ⟨r', e2, r1, r2, r3⟩ := Zrj l i k k0 out (by omega) k1
   have hw2 : IntKind.wrap .i64 (((out ++ [evZ]).length : Int) - 1) = (out.length : Int) := by rw [Go.PI.wrap_small (by rw [eL]; omega) (by rw [eL]; omega), eL]; omega
   have hres : r'.set k.toNat (l.getD i.toNat evZ) = out.take k.toNat ++ l.getD i.toNat evZ :: out.drop k.toNat := by
    refine ZjM evZ (by rw [List.length_set, r1]; simp; omega) fun j hj => ?_
    rw [List.length_set, r1] at hj
    rw [Zsj _ _ _ _ (by omega) _ hj, Zaf _ _ _ (by rw [List.length_set, r1]; exact hj)]
    by_cases hjk : j = k.toNat
    ·subst hjk
     rw [if_neg (by omega), if_pos rfl, List.getElem_set_self]
    ·rw [List.getElem_set_ne (Ne.symm hjk), <- Zaf _ _ evZ (by omega)]
     by_cases hlt : j < k.toNat
     ·rw [if_pos hlt]; exact r2 j (by omega)
     ·rw [if_neg hlt, if_neg hjk]; exact r3 j (by omega) (by omega)
   refine BT.lt (decide_eq_true hi) (BT.opt ⟨_, e1, BT.yes (decide_eq_true ?_) (BT.opt ⟨_, (congrArg (fun n => sortE_w2 (l, i, k, n, out ++ [evZ], ())) hw2).trans e2, BT.yes (in2 i0 hi) (BT.yes (in2 k0 ?_) (BT.goes ⟨⟨i + 1, r'.set k.toNat (l.getD i.toNat evZ), by rw [hw], by omega, by omega, ?_, ?_⟩, ?_⟩))⟩)⟩)
   ·show (out.length + 1) * 72 <= 140737488355328
    omega
   ·show k < (r'.length : Int)
    rw [r1]; omega
   ·rw [hres]
    refine (Zod _ _ _).trans ?_
    have e : l.take (i + 1).toNat = l.take i.toNat ++ [l.getD i.toNat evZ] := by
     rw [show (i + 1).toNat = i.toNat + 1 by omega, List.take_add_one, List.getElem?_eq_getElem hit, Zaf _ _ _ hit]
     rfl
    rw [e]
    exact p1.append_right _
   ·rw [hres]
    refine Zj8 p2 (fun x hx => ?_) (fun x hx => ?_)
    ·obtain ⟨j, hj, rfl⟩ := List.getElem_of_mem hx
     rw [List.getElem_drop]
     rw [List.length_drop] at hj
     have := k2 (k.toNat + j) (by omega) (by omega)
     rw [Zaf out _ _ (by omega)] at this
     exact h1 _ _ this
    ·have kp : 0 < k := by
      rcases Int.lt_or_eq_of_le k0 with h | h
      ·exact h
      ·subst h; simp at hx
     have h3 := h2 _ _ (k3 kp)
     obtain ⟨j, hj, rfl⟩ := List.getElem_of_mem hx
     rw [List.getElem_take]
     rw [List.length_take] at hj
     rw [Zaf out _ _ (by omega)] at h3
     by_cases hjk : j = (k - 1).toNat
     ·subst hjk; exact h3
     ·exact tr _ _ _ (List.pairwise_iff_getElem.1 p2 j (k - 1).toNat (by omega) (by omega) (by omega)) h3
   ·dsimp only
    rw [hw]
    omega
  ·obtain rfl : i = l.length := by omega
   refine BT.ge (decide_eq_false hi) (BT.ends ⟨out, rfl, ?_, p2⟩)
   rw [show ((l.length : Int)).toNat = l.length by omega, List.take_length] at p1
   exact p1
 simp only [Br.run, hz]
 exact ⟨out, rfl, p1, p2⟩
theorem Zq9 (G : (List Prs) -> Prop) (lt : (List Prs) -> (List Prs) -> Bool) (hG : ∀ a b, G a -> G b -> lessP (a, b, ()) = some (lt a b, ())) (l : List (List Prs)) (i : Int) (h0 : 0 <= i) (h1 : i < l.length) (hgi : G (l.getD i.toNat [])) (out : List (List Prs)) (ho : out.length <= 100000) (hgo : ∀ x ∈ out, G x) :
  ∃ k : Int, sortP_w1 (l, i, out.length, out, ()) = some (l, i, k, out, ()) /\ 0 <= k /\ k <= out.length /\ (∀ j : Nat, k <= (j : Int) -> j < out.length -> lt (l.getD i.toNat []) (out.getD j []) = true) /\ (0 < k -> lt (l.getD i.toNat []) (out.getD (k - 1).toNat []) = false) := by
 suffices hh : ∃ z, sortP_w1 (l, i, out.length, out, ()) = some z /\ ∃ k : Int, z = (l, i, k, out, ()) /\ 0 <= k /\ k <= out.length /\ (∀ j : Nat, k <= (j : Int) -> j < out.length -> lt (l.getD i.toNat []) (out.getD j []) = true) /\ (0 < k -> lt (l.getD i.toNat []) (out.getD (k - 1).toNat []) = false) by
  obtain ⟨z, hz, k, rfl, h⟩ := hh
  exact ⟨k, hz, h⟩
 refine Zaw (step := Zhl) (fun y => ∃ k : Int, y = (l, i, k, out, ()) /\ 0 <= k /\ k <= out.length /\ (∀ j : Nat, k <= (j : Int) -> j < out.length -> lt (l.getD i.toNat []) (out.getD j []) = true)) (fun y => y.2.2.1.toNat) _ ?_ _ ⟨out.length, rfl, by omega, Int.le_refl _, fun j h h' => by omega⟩
 rintro y ⟨k, rfl, k0, k1, k2⟩
 unfold Zhl
 by_cases hk : k > 0
 ·have hw : IntKind.wrap .i64 (k - 1) = k - 1 := Go.PI.wrap_small (by omega) (by omega)
  have hb := hG (l.getD i.toNat []) (out.getD (k - 1).toNat []) hgi (hgo _ (by rw [Zaf _ _ _ (by omega)]; exact List.getElem_mem _))
  refine BT.lt (decide_eq_true hk) (BT.yes (in2 h0 h1) (BT.yes (by rw [hw]; exact in2 (by omega) (by omega)) (BT.opt ⟨_, by rw [hw]; exact hb, BT.cond (fun hc => BT.goes ⟨⟨k - 1, by rw [hw], by omega, by omega, fun j j0 j1 => ?_⟩, ?_⟩) (fun hc => BT.ends ⟨k, rfl, k0, k1, k2, fun _ => hc⟩)⟩)))
  ·by_cases hj : k <= (j : Int)
   ·exact k2 j hj j1
   ·obtain rfl : j = (k - 1).toNat := by omega
    exact hc
  ·dsimp only
   rw [hw]
   omega
 ·exact BT.ge (decide_eq_false hk) (BT.ends ⟨k, rfl, k0, k1, k2, fun h => by omega⟩)
theorem Zrd (l : List (List Prs)) (i a : Int) (a0 : 0 <= a) (out : List (List Prs)) (hr : out.length <= 100000) (ha : a <= out.length) :
  ∃ r' : List (List Prs), sortP_w2 (l, i, a, out.length, out ++ [[]], ()) = some (l, i, a, r', ()) /\ r'.length = out.length + 1 /\ (∀ j : Nat, (j : Int) < a -> r'.getD j [] = out.getD j []) /\ (∀ j : Nat, a < (j : Int) -> j <= out.length -> r'.getD j [] = out.getD (j - 1) []) := by
 suffices hh : ∃ z, sortP_w2 (l, i, a, out.length, out ++ [[]], ()) = some z /\ ∃ r' : List (List Prs), z = (l, i, a, r', ()) /\ r'.length = out.length + 1 /\ (∀ j : Nat, (j : Int) < a -> r'.getD j [] = out.getD j []) /\ (∀ j : Nat, a < (j : Int) -> j <= out.length -> r'.getD j [] = out.getD (j - 1) []) by
  obtain ⟨z, hz, r', rfl, h⟩ := hh
  exact ⟨r', hz, h⟩
 have eL : (out ++ [[]]).length = out.length + 1 := by rw [List.length_append, List.length_singleton]
 refine Zaw (step := ZgL) (fun y => ∃ (c : Int) (r' : List (List Prs)), y = (l, i, a, c, r', ()) /\ a <= c /\ c <= out.length /\ r'.length = out.length + 1 /\ (∀ j : Nat, (j : Int) < c -> r'.getD j [] = out.getD j []) /\ (∀ j : Nat, c < (j : Int) -> j <= out.length -> r'.getD j [] = out.getD (j - 1) [])) (fun y => (y.2.2.2.1 - a).toNat) _ ?_ _ ⟨out.length, _, rfl, ha, Int.le_refl _, eL, fun j j1 => ?_, fun j j1 j2 => by omega⟩
 rotate_left
 ·rw [Zaf _ _ _ (by rw [eL]; omega), List.getElem_append_left (by omega), Zaf _ _ _ (by omega)]
 rintro y ⟨c, r', rfl, c0, c1, c2, c3, c4⟩
 unfold ZgL
 by_cases hc : c > a
 ·have hw : IntKind.wrap .i64 (c - 1) = c - 1 := Go.PI.wrap_small (by omega) (by omega)
  refine BT.lt (decide_eq_true hc) (BT.yes (by rw [hw]; exact in2 (by omega) (by omega)) (BT.yes (in2 (by omega) (by omega)) (BT.goes ⟨⟨c - 1, r'.set c.toNat (r'.getD (c - 1).toNat []), by rw [hw], by omega, by omega, by rw [List.length_set]; exact c2, fun j j1 => ?_, fun j j1 j2 => ?_⟩, ?_⟩)))
  ·rw [Zaf _ _ _ (by rw [List.length_set]; omega), List.getElem_set_ne (by omega), <- Zaf _ _ [] (by omega)]
   exact c3 j (by omega)
  ·by_cases hj : j = c.toNat
   ·subst hj
    rw [Zaf _ _ _ (by rw [List.length_set]; omega), List.getElem_set_self, c3 _ (by omega)]
    congr 1
    omega
   ·rw [Zaf _ _ _ (by rw [List.length_set]; omega), List.getElem_set_ne (Ne.symm hj), <- Zaf _ _ [] (by omega)]
    exact c4 j (by omega) j2
  ·dsimp only
   rw [hw]
   omega
 ·obtain rfl : c = a := by omega
  exact BT.ge (decide_eq_false hc) (BT.ends ⟨r', rfl, c2, c3, c4⟩)
theorem sortP_at (G : (List Prs) -> Prop) (lt : (List Prs) -> (List Prs) -> Bool) (le : (List Prs) -> (List Prs) -> Prop) (hG : ∀ a b, G a -> G b -> lessP (a, b, ()) = some (lt a b, ())) (h1 : ∀ a b, lt a b = true -> le a b) (h2 : ∀ a b, lt a b = false -> le b a) (tr : ∀ a b c, le a b -> le b c -> le a c) (l : List (List Prs)) (hl : l.length <= 100000) (hg : ∀ x ∈ l, G x) :
  ∃ out : List (List Prs), sortP (l, ()) = some (out, ()) /\ out.Perm l /\ out.Pairwise le := by
 unfold sortP Zrx
 obtain ⟨z, hz, out, rfl, p1, p2⟩ : ∃ z, sortP_w0 (l, 0, [], ()) = some z /\ ∃ out : List (List Prs), z = (out, ()) /\ out.Perm l /\ out.Pairwise le := by
  refine Zaw (step := ZgW) (fun y => ∃ (i : Int) (out : List (List Prs)), y = (l, i, out, ()) /\ 0 <= i /\ i <= l.length /\ out.Perm (l.take i.toNat) /\ out.Pairwise le) (fun y => ((l.length : Int) - y.2.1).toNat) _ ?_ _ ⟨0, [], rfl, Int.le_refl 0, by omega, .refl _, .nil⟩
  rintro y ⟨i, out, rfl, i0, i1, p1, p2⟩
  have hlen : (out.length : Int) = i := by have := p1.length_eq; rw [List.length_take] at this; omega
  have hgo : ∀ x ∈ out, G x := fun x hx => hg x (List.mem_of_mem_take (p1.mem_iff.1 hx))
  unfold ZgW
  by_cases hi : i < (l.length : Int)
  ·have hw : IntKind.wrap .i64 (i + 1) = i + 1 := Go.PI.wrap_small (by omega) (by omega)
   have hit : i.toNat < l.length := by omega
   have hgi : G (l.getD i.toNat []) := hg _ (by rw [Zaf _ _ _ hit]; exact List.getElem_mem _)
   obtain ⟨k, e1, k0, k1, k2, k3⟩ := Zq9 G lt hG l i i0 hi hgi out (by omega) hgo
   have eL : (out ++ [[]]).length = out.length + 1 := by rw [List.length_append, List.length_singleton]
   obtain ⟨r', e2, r1, r2, r3⟩ := Zrd l i k k0 out (by omega) k1
   have hw2 : IntKind.wrap .i64 (((out ++ [[]]).length : Int) - 1) = (out.length : Int) := by rw [Go.PI.wrap_small (by rw [eL]; omega) (by rw [eL]; omega), eL]; omega
   have hres : r'.set k.toNat (l.getD i.toNat []) = out.take k.toNat ++ l.getD i.toNat [] :: out.drop k.toNat := by
    refine ZjM [] (by rw [List.length_set, r1]; simp; omega) fun j hj => ?_
    rw [List.length_set, r1] at hj
    rw [Zsj _ _ _ _ (by omega) _ hj, Zaf _ _ _ (by rw [List.length_set, r1]; exact hj)]
    by_cases hjk : j = k.toNat
    ·subst hjk
     rw [if_neg (by omega), if_pos rfl, List.getElem_set_self]
    ·rw [List.getElem_set_ne (Ne.symm hjk), <- Zaf _ _ [] (by omega)]
     by_cases hlt : j < k.toNat
     ·rw [if_pos hlt]; exact r2 j (by omega)
     ·rw [if_neg hlt, if_neg hjk]; exact r3 j (by omega) (by omega)
   refine BT.lt (decide_eq_true hi) (BT.opt ⟨_, e1, BT.yes (decide_eq_true ?_) (BT.opt ⟨_, (congrArg (fun n => sortP_w2 (l, i, k, n, out ++ [[]], ())) hw2).trans e2, BT.yes (in2 i0 hi) (BT.yes (in2 k0 ?_) (BT.goes ⟨⟨i + 1, r'.set k.toNat (l.getD i.toNat []), by rw [hw], by omega, by omega, ?_, ?_⟩, ?_⟩))⟩)⟩)
   ·show (out.length + 1) * 24 <= 140737488355328
    omega
   ·show k < (r'.length : Int)
    rw [r1]; omega
   ·rw [hres]
    refine (Zod _ _ _).trans ?_
    have e : l.take (i + 1).toNat = l.take i.toNat ++ [l.getD i.toNat []] := by
     rw [show (i + 1).toNat = i.toNat + 1 by omega, List.take_add_one, List.getElem?_eq_getElem hit, Zaf _ _ _ hit]
     rfl
    rw [e]
    exact p1.append_right _
   ·rw [hres]
    refine Zj8 p2 (fun x hx => ?_) (fun x hx => ?_)
    ·obtain ⟨j, hj, rfl⟩ := List.getElem_of_mem hx
     rw [List.getElem_drop]
     rw [List.length_drop] at hj
     have := k2 (k.toNat + j) (by omega) (by omega)
     rw [Zaf out _ _ (by omega)] at this
     exact h1 _ _ this
    ·have kp : 0 < k := by
      rcases Int.lt_or_eq_of_le k0 with h | h
      ·exact h
      ·subst h; simp at hx
     have h3 := h2 _ _ (k3 kp)
     obtain ⟨j, hj, rfl⟩ := List.getElem_of_mem hx
     rw [List.getElem_take]
     rw [List.length_take] at hj
     rw [Zaf out _ _ (by omega)] at h3
     by_cases hjk : j = (k - 1).toNat
     ·subst hjk; exact h3
     ·exact tr _ _ _ (List.pairwise_iff_getElem.1 p2 j (k - 1).toNat (by omega) (by omega) (by omega)) h3
   ·dsimp only
    rw [hw]
    omega
  ·obtain rfl : i = l.length := by omega
   refine BT.ge (decide_eq_false hi) (BT.ends ⟨out, rfl, ?_, p2⟩)
   rw [show ((l.length : Int)).toNat = l.length by omega, List.take_length] at p1
   exact p1
 simp only [Br.run, hz]
 exact ⟨out, rfl, p1, p2⟩
end Go.Proofs.YtkbdofnbagmlfaaGreat
