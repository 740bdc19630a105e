/- How lists of pairs stand: what Compare, Less and Ends tell. Lists of pairs stand in an order; of matches those that end at an event are told. -/
import Derived.Test.YtiblijkhpmemeaaO1
namespace Go.Proofs.Ytiblijkhpmemeaa
open Go.PI Go
abbrev Prs : Type := Int × Int
def BT {α : Type} (P : α → Prop) (b : Br α) : Prop := ∃ y, b.run = some y ∧ P y
theorem BT.ret {α : Type} {P : α → Prop} {y : α} (h : P y) : BT P (.ret y) := ⟨y, rfl, h⟩
theorem BT.yes {α : Type} {P : α → Prop} {c : Bool} {a : Br α} (hc : c = true) (h : BT P a) : BT P (.cond c a .no) := by subst hc; exact h
theorem BT.cond {α : Type} {P : α → Prop} {c : Bool} {a b : Br α} (h : c = true → BT P a) (k : c = false → BT P b) : BT P (.cond c a b) := by
 cases c
 ·exact k rfl
 ·exact h rfl
theorem BT.opt {α β : Type} {P : α → Prop} {o : Option β} {k : β → Br α} (h : ∃ v, o = some v ∧ BT P (k v)) : BT P (.opt o k) := by
 obtain ⟨v, rfl, h⟩ := h
 exact h
theorem BT.inl {α β : Type} {b : Br (α ⊕ β)} {P : α → Prop} (h : BT (fun y => ∃ x, y = .inl x ∧ P x) b) : ∃ x, b.run = some (.inl x) ∧ P x := by
 obtain ⟨y, hy, x, rfl, hx⟩ := h
 exact ⟨x, hy, hx⟩
theorem iterO_bt {X Z : Type} {step : X → Br (X ⊕ Z)} (Inv : X → Prop) (μ : X → Nat) (Q : Z → Prop) (h : ∀ x, Inv x → BT (fun s => (∃ y, s = .inl y ∧ Inv y ∧ μ y < μ x) ∨ ∃ z, s = .inr z ∧ Q z) (step x)) (x : X) (hx : Inv x) :
  ∃ z, iterO (fun x => (step x).run) x = some z ∧ Q z := by
 refine iterO_rec (step := fun x => (step x).run) (Q := fun _ z => Q z) Inv μ (fun x hx => ?_) x hx
 obtain ⟨s, hs, ⟨y, rfl, h1, h2⟩ | ⟨z, rfl, h1⟩⟩ := h x hx
 ·exact .inl ⟨y, hs, h1, h2, fun z hz => hz⟩
 ·exact .inr ⟨z, hs, h1⟩
theorem BT.lt {α : Type} {P : α → Prop} {c : Bool} {a b : Br α} (hc : c = true) (h : BT P a) : BT P (.cond c a b) := by subst hc; exact h
theorem BT.ge {α : Type} {P : α → Prop} {c : Bool} {a b : Br α} (hc : c = false) (h : BT P b) : BT P (.cond c a b) := by subst hc; exact h
theorem BT.goes {X Z : Type} {I : X → Prop} {Q : Z → Prop} {y : X} (h : I y) : BT (fun s : X ⊕ Z => (∃ y, s = .inl y ∧ I y) ∨ ∃ z, s = .inr z ∧ Q z) (.ret (.inl y)) := ⟨_, rfl, .inl ⟨y, rfl, h⟩⟩
theorem BT.ends {X Z : Type} {I : X → Prop} {Q : Z → Prop} {z : Z} (h : Q z) : BT (fun s : X ⊕ Z => (∃ y, s = .inl y ∧ I y) ∨ ∃ z, s = .inr z ∧ Q z) (.ret (.inr z)) := ⟨_, rfl, .inr ⟨z, rfl, h⟩⟩
theorem in2 {i n : Int} (h0 : 0 ≤ i) (h1 : i < n) : (decide (0 ≤ i) && decide (i < n)) = true := by simp [h0, h1]
theorem getD_in {α : Type} (l : List α) (i : Nat) (d : α) (h : i < l.length) : l.getD i d = l[i] := by simp [List.getD, h]
theorem getD_opt {α : Type} {m : List α} {n : Nat} {d : α} (h : n < m.length) : m[n]?.toList = [m.getD n d] := by rw [List.getElem?_eq_getElem h, getD_in _ _ _ h]; rfl
theorem drop_cons {α : Type} (m : List α) (i : Int) (d : α) (h0 : 0 ≤ i) (h1 : i < m.length) : m.drop i.toNat = m.getD i.toNat d :: m.drop (i + 1).toNat := by
 have hlt : i.toNat < m.length := by omega
 rw [getD_in _ _ _ hlt, show (i + 1).toNat = i.toNat + 1 by omega, List.drop_eq_getElem_cons hlt]
theorem ext_getD {α : Type} (d : α) {a b : List α} (h : a.length = b.length) (k : ∀ j, j < a.length → a.getD j d = b.getD j d) : a = b :=
 List.ext_getElem h fun j h1 h2 => by
  have := k j h1
  rwa [getD_in _ _ _ h1, getD_in _ _ _ h2] at this
def cmp2 (x y : Prs) : Int := if x.1 < y.1 then -1 else if y.1 < x.1 then 1 else if x.2 < y.2 then -1 else if y.2 < x.2 then 1 else 0
def cmpS : List Prs → List Prs → Int
 | [], [] => 0
 | [], _ :: _ => -1
 | _ :: _, [] => 1
 | x :: a, y :: b => if cmp2 x y = 0 then cmpS a b else cmp2 x y
theorem cmp2_eq (x y : Prs) : cmp2 x y = 0 ↔ x = y := by
 unfold cmp2
 constructor
 ·intro h
  refine Prod.ext ?_ ?_ <;> (split at h <;> try split at h) <;> (try split at h) <;> (try split at h) <;> omega
 ·rintro rfl
  simp
theorem cmp2_swap (x y : Prs) : cmp2 y x = - cmp2 x y := by
 unfold cmp2
 split <;> (try split) <;> (try split) <;> (try split) <;> (try split) <;> (try split) <;> (try split) <;> omega
theorem cmpS_swap : ∀ a b, cmpS b a = - cmpS a b
 | [], [] => rfl
 | [], _ :: _ => rfl
 | _ :: _, [] => rfl
 | x :: a, y :: b => by
  have h := cmp2_swap x y
  simp only [cmpS]
  by_cases c : cmp2 x y = 0
  ·rw [if_pos c, if_pos (by omega)]
   exact cmpS_swap a b
  ·rw [if_neg c, if_neg (by omega)]
   exact h
theorem cmpS_eq : ∀ a b, cmpS a b = 0 ↔ a = b
 | [], [] => by simp [cmpS]
 | [], _ :: _ => by simp [cmpS]
 | _ :: _, [] => by simp [cmpS]
 | x :: a, y :: b => by
  have h := cmp2_eq x y
  simp only [cmpS]
  by_cases c : cmp2 x y = 0
  ·rw [if_pos c, cmpS_eq a b]
   simp [h.1 c]
  ·rw [if_neg c]
   constructor
   ·intro e; exact absurd e c
   ·intro e; exact absurd (h.2 (List.cons.inj e).1) c
theorem nanI_at (x : Int) : nanI (x, ()) = some (false, ()) := by
 unfold nanI nanI_B
 simp [Br.run]
theorem nanL_at (x : Int) : nanL (x, ()) = some (false, ()) := by
 unfold nanL nanL_B
 simp [Br.run]
theorem cmpI_at (x y : Int) : cmpI (x, y, ()) = some (if x < y then -1 else if y < x then 1 else 0, ()) := by
 unfold cmpI cmpI_B
 simp only [Br.run, nanI_at, cond_false]
 by_cases h : x < y
 ·rw [if_pos h]; simp [h]
 ·by_cases h2 : y < x
  ·rw [if_neg h, if_pos h2]; simp [h, h2]
  ·rw [if_neg h, if_neg h2]; simp [h, h2]
theorem cmpL_at (x y : Int) : cmpL (x, y, ()) = some (if x < y then -1 else if y < x then 1 else 0, ()) := by
 unfold cmpL cmpL_B
 simp only [Br.run, nanL_at, cond_false]
 by_cases h : x < y
 ·rw [if_pos h]; simp [h]
 ·by_cases h2 : y < x
  ·rw [if_neg h, if_pos h2]; simp [h, h2]
  ·rw [if_neg h, if_neg h2]; simp [h, h2]
theorem cmpPr_at (x y : Prs) : cmpPr (x, y, ()) = some (cmp2 x y, ()) := by
 unfold cmpPr cmpPr_B cmp2
 simp only [Br.run, cmpI_at, cmpL_at]
 by_cases h : x.1 < y.1
 ·simp [h]
 ·by_cases h2 : y.1 < x.1
  ·simp [h, h2]
  ·simp [h, h2]
theorem cmpPs_at (a b : List Prs) (hb : a.length ≤ 1000000) : cmpPs (a, b, ()) = some (cmpS a b, ()) := by
 obtain ⟨z, hz, h⟩ : ∃ z, cmpFn_w0 (a, b, a, (a.length : Int), 0, ()) = some z ∧ ((∃ c, z = .inl (c, ()) ∧ c = cmpS a b) ∨ (z = .inr (a, b, ()) ∧ cmpS a b = if (a.length : Int) < (b.length : Int) then -1 else 0)) := by
  refine iterO_bt (step := cmpFn_l0) (fun y => ∃ i : Int, y = (a, b, a, (a.length : Int), i, ()) ∧ 0 ≤ i ∧ i ≤ a.length ∧ i ≤ b.length ∧ cmpS a b = cmpS (a.drop i.toNat) (b.drop i.toNat)) (fun y => ((a.length : Int) - y.2.2.2.2.1).toNat) _ ?_ _ ⟨0, rfl, Int.le_refl _, by omega, by omega, rfl⟩
  rintro y ⟨i, rfl, g0, g1, g3, g2⟩
  unfold cmpFn_l0
  by_cases hi : i < (a.length : Int)
  ·have hw : IntKind.wrap .i64 (i + 1) = i + 1 := Go.PI.wrap_small (by omega) (by omega)
   rw [drop_cons a i (0, 0) g0 hi] at g2
   refine BT.lt (decide_eq_true hi) (BT.yes (in2 g0 hi) (BT.cond (fun hc => BT.ends (.inl ⟨_, rfl, ?_⟩)) (fun hc => ?_)))
   ·have hc : i ≥ (b.length : Int) := of_decide_eq_true hc
    rw [g2, List.drop_eq_nil_of_le (show b.length ≤ i.toNat by omega)]
    rfl
   ·have hc : ¬ i ≥ (b.length : Int) := of_decide_eq_false hc
    rw [drop_cons b i (0, 0) g0 (by omega)] at g2
    simp only [cmpS] at g2
    refine BT.yes (in2 g0 (by omega)) (BT.opt ⟨_, cmpPr_at _ _, BT.cond (fun hn => BT.ends (.inl ⟨_, rfl, ?_⟩)) (fun hn => BT.goes ⟨⟨i + 1, by rw [hw], by omega, by omega, by omega, ?_⟩, ?_⟩)⟩)
    ·rw [g2, if_neg (by simpa using hn)]
    ·rw [g2, if_pos (by simpa using hn)]
    ·dsimp only
     rw [hw]
     omega
  ·refine BT.ge (decide_eq_false hi) (BT.ends (.inr ⟨rfl, ?_⟩))
   rw [g2, List.drop_eq_nil_of_le (show a.length ≤ i.toNat by omega)]
   by_cases hl : (a.length : Int) < (b.length : Int)
   ·rw [if_pos hl, drop_cons b i (0, 0) g0 (by omega)]
    rfl
   ·rw [if_neg hl, List.drop_eq_nil_of_le (by omega)]
    rfl
 unfold cmpPs cmpPs_B cmpFn cmpFn_B
 simp only [Br.run, hz]
 rcases h with ⟨c, rfl, rfl⟩ | ⟨rfl, h⟩
 ·rfl
 ·rw [h]
  by_cases hl : (a.length : Int) < (b.length : Int)
  ·simp only [Br.run, decide_eq_true hl, cond_true, if_pos hl]
  ·simp only [Br.run, decide_eq_false hl, cond_false, if_neg hl]
theorem lessP_at (a b : List Prs) (hb : a.length ≤ 1000000) : lessP (a, b, ()) = some (decide (cmpS a b < 0), ()) := by
 obtain ⟨z, hz, h⟩ : ∃ z, lessP_w0 (a, b, 0, ()) = some z ∧ ((∃ c, z = .inl (c, ()) ∧ c = decide (cmpS a b < 0)) ∨ (z = .inr (a, b, ()) ∧ decide (cmpS a b < 0) = decide ((a.length : Int) < (b.length : Int)))) := by
  refine iterO_bt (step := lessP_l0) (fun y => ∃ i : Int, y = (a, b, i, ()) ∧ 0 ≤ i ∧ i ≤ a.length ∧ i ≤ b.length ∧ cmpS a b = cmpS (a.drop i.toNat) (b.drop i.toNat)) (fun y => ((a.length : Int) - y.2.2.1).toNat) _ ?_ _ ⟨0, rfl, Int.le_refl _, by omega, by omega, rfl⟩
  rintro y ⟨i, rfl, g0, g1, g3, g2⟩
  unfold lessP_l0
  by_cases hi : i < (a.length : Int)
  ·have hw : IntKind.wrap .i64 (i + 1) = i + 1 := Go.PI.wrap_small (by omega) (by omega)
   rw [drop_cons a i (0, 0) g0 hi] at g2
   by_cases hj : i < (b.length : Int)
   ·rw [drop_cons b i (0, 0) g0 hj] at g2
    simp only [cmpS] at g2
    have ai := in2 g0 hi
    have bi := in2 g0 hj
    have d2 : cmp2 (a.getD i.toNat (0, 0)) (b.getD i.toNat (0, 0)) = _ := rfl
    unfold cmp2 at d2
    refine BT.lt (decide_eq_true hi) (BT.lt (decide_eq_true hj) (BT.yes ai (BT.yes bi (BT.cond (fun h1 => BT.yes ai (BT.yes bi (BT.ends (.inl ⟨_, rfl, ?_⟩)))) (fun h1 => BT.yes ai (BT.yes bi (BT.cond (fun h2 => BT.yes ai (BT.yes bi (BT.ends (.inl ⟨_, rfl, ?_⟩)))) (fun h2 => BT.goes ⟨⟨i + 1, by rw [hw], by omega, by omega, by omega, ?_⟩, ?_⟩))))))))
    ·have h1 : (a.getD i.toNat (0, 0)).1 ≠ (b.getD i.toNat (0, 0)).1 := by simpa using h1
     rw [g2]
     unfold cmp2
     generalize a.getD i.toNat (0, 0) = u at *
     generalize b.getD i.toNat (0, 0) = v at *
     rcases Int.lt_or_gt_of_ne h1 with h | h
     ·simp [h]
     ·have h' : ¬ u.1 < v.1 := by omega
      simp [h, h']
    ·have h1 : (a.getD i.toNat (0, 0)).1 = (b.getD i.toNat (0, 0)).1 := by simpa using h1
     have h2 : (a.getD i.toNat (0, 0)).2 ≠ (b.getD i.toNat (0, 0)).2 := by simpa using h2
     rw [g2]
     unfold cmp2
     generalize a.getD i.toNat (0, 0) = u at *
     generalize b.getD i.toNat (0, 0) = v at *
     rcases Int.lt_or_gt_of_ne h2 with h | h
     ·simp [h, h1]
     ·have h' : ¬ u.2 < v.2 := by omega
      simp [h, h', h1]
    ·have h1 : (a.getD i.toNat (0, 0)).1 = (b.getD i.toNat (0, 0)).1 := by simpa using h1
     have h2 : (a.getD i.toNat (0, 0)).2 = (b.getD i.toNat (0, 0)).2 := by simpa using h2
     rw [g2, if_pos ((cmp2_eq _ _).2 (Prod.ext h1 h2))]
    ·dsimp only
     rw [hw]
     omega
   ·refine BT.lt (decide_eq_true hi) (BT.ge (decide_eq_false hj) (BT.ends (.inr ⟨rfl, ?_⟩)))
    rw [g2, List.drop_eq_nil_of_le (show b.length ≤ i.toNat by omega), decide_eq_false (show ¬ (a.length : Int) < (b.length : Int) by omega)]
    rfl
  ·refine BT.ge (decide_eq_false hi) (BT.ends (.inr ⟨rfl, ?_⟩))
   rw [g2, List.drop_eq_nil_of_le (show a.length ≤ i.toNat by omega)]
   by_cases hl : (a.length : Int) < (b.length : Int)
   ·rw [decide_eq_true hl, drop_cons b i (0, 0) g0 (by omega)]
    rfl
   ·rw [decide_eq_false hl, List.drop_eq_nil_of_le (by omega)]
    rfl
 unfold lessP lessP_B
 simp only [Br.run, hz]
 rcases h with ⟨c, rfl, rfl⟩ | ⟨rfl, h⟩
 ·rfl
 ·rw [h]
  rfl
def endP (s : Int) (m : List Prs) : Bool := decide (0 < m.length) && ((m.getD (m.length - 1) (0, 0)).2 == s)
theorem endsT_at (l : List (List Prs)) (hl : l.length ≤ 100000) (hm : ∀ m ∈ l, m.length ≤ 1000000) (s : Int) : endsT (l, s, ()) = some (l.filter (endP s), ()) := by
 obtain ⟨z, hz, rfl⟩ : ∃ z, endsT_w0 (s, l, (l.length : Int), 0, [], ()) = some z ∧ z = (l.filter (endP s), ()) := by
  refine iterO_bt (step := endsT_l0) (fun y => ∃ i : Int, y = (s, l, (l.length : Int), i, (l.take i.toNat).filter (endP s), ()) ∧ 0 ≤ i ∧ i ≤ l.length) (fun y => ((l.length : Int) - y.2.2.2.1).toNat) _ ?_ _ ⟨0, rfl, Int.le_refl _, by omega⟩
  rintro y ⟨i, rfl, g0, g1⟩
  unfold endsT_l0
  by_cases hi : i < (l.length : Int)
  ·have hw : IntKind.wrap .i64 (i + 1) = i + 1 := Go.PI.wrap_small (by omega) (by omega)
   have hlt : i.toNat < l.length := by omega
   have ht : (l.take (i + 1).toNat).filter (endP s) = (l.take i.toNat).filter (endP s) ++ if endP s (l.getD i.toNat []) = true then [l.getD i.toNat []] else [] := by
    rw [show (i + 1).toNat = i.toNat + 1 by omega, List.take_add_one, getD_opt (d := ([] : List Prs)) hlt, List.filter_append, List.filter_cons, List.filter_nil]
   have hml := hm (l.getD i.toNat []) (by rw [getD_in _ _ _ hlt]; exact List.getElem_mem hlt)
   have hfl : ((l.take i.toNat).filter (endP s)).length ≤ 100000 := Nat.le_trans (List.length_filter_le ..) (by rw [List.length_take]; omega)
   generalize hM : l.getD i.toNat [] = M at *
   have hM' : List.getD l i.toNat [] = M := hM
   refine BT.lt (decide_eq_true hi) (BT.yes (in2 g0 hi) ?_)
   simp only [hM']
   refine BT.cond (fun hc => ?_) (fun hc => BT.goes ⟨⟨i + 1, ?_, by omega, by omega⟩, ?_⟩)
   ·have hc : (M.length : Int) > 0 := of_decide_eq_true hc
    have hw2 : IntKind.wrap .i64 ((M.length : Int) - 1) = (M.length : Int) - 1 := Go.PI.wrap_small (by omega) (by omega)
    rw [hw2]
    have he : ((M.length : Int) - 1).toNat = M.length - 1 := by omega
    refine BT.yes (in2 (by omega) (by omega)) ?_
    rw [he]
    refine BT.cond (fun h2 => BT.yes (decide_eq_true ?_) (BT.goes ⟨⟨i + 1, ?_, by omega, by omega⟩, ?_⟩)) (fun h2 => BT.goes ⟨⟨i + 1, ?_, by omega, by omega⟩, ?_⟩)
    ·show (((l.take i.toNat).filter (endP s)).length + 1) * 24 ≤ _
     omega
    ·have : endP s M = true := by
      unfold endP
      rw [h2, decide_eq_true (show 0 < M.length by omega)]
      rfl
     rw [hw, ht, if_pos this]
     rfl
    ·dsimp only
     rw [hw]
     omega
    ·have : endP s M = false := by
      unfold endP
      rw [h2, Bool.and_false]
     rw [hw, ht, if_neg (by rw [this]; simp), List.append_nil]
    ·dsimp only
     rw [hw]
     omega
   ·have hc : ¬ (M.length : Int) > 0 := of_decide_eq_false hc
    have : endP s M = false := by
     unfold endP
     rw [decide_eq_false (show ¬ 0 < M.length by omega), Bool.false_and]
    rw [hw, ht, if_neg (by rw [this]; simp), List.append_nil]
   ·dsimp only
    rw [hw]
    omega
  ·refine BT.ge (decide_eq_false hi) (BT.ends ?_)
   rw [List.take_of_length_le (by omega)]
 unfold endsT endsT_B
 simp only [Br.run, hz]
theorem samePs_at (a b : List Prs) (ha : a.length ≤ 1000000) : ∃ c, samePs (a, b, ()) = some (c, ()) ∧ (c = true ↔ a = b) := by
 by_cases hl : a.length = b.length
 ·obtain ⟨z, hz, h⟩ : ∃ z, samePs_w0 (a, b, 0, ()) = some z ∧ ((z = .inl () ∧ a ≠ b) ∨ (z = .inr () ∧ a = b)) := by
   refine iterO_bt (step := samePs_l0) (fun y => ∃ i : Int, y = (a, b, i, ()) ∧ 0 ≤ i ∧ i ≤ a.length ∧ ∀ k : Nat, (k : Int) < i → a.getD k (0, 0) = b.getD k (0, 0)) (fun y => ((a.length : Int) - y.2.2.1).toNat) _ ?_ _ ⟨0, rfl, Int.le_refl _, by omega, fun k h => by omega⟩
   rintro y ⟨i, rfl, g0, g1, g2⟩
   unfold samePs_l0
   by_cases hi : i < (a.length : Int)
   ·have hw : IntKind.wrap .i64 (i + 1) = i + 1 := Go.PI.wrap_small (by omega) (by omega)
    refine BT.lt (decide_eq_true hi) (BT.yes (in2 g0 hi) (BT.yes (in2 g0 (by omega)) (BT.cond (fun hc => BT.ends (.inl ⟨rfl, fun e => ?_⟩)) (fun hc => BT.goes ⟨⟨i + 1, by rw [hw], by omega, by omega, fun k hk => ?_⟩, ?_⟩))))
    ·subst e
     simp at hc
    ·by_cases hki : (k : Int) = i
     ·obtain rfl : k = i.toNat := by omega
      simp at hc
      exact Prod.ext hc.1 hc.2
     ·exact g2 k (by omega)
    ·dsimp only
     rw [hw]
     omega
   ·exact BT.ge (decide_eq_false hi) (BT.ends (.inr ⟨rfl, ext_getD (0, 0) hl fun k hk => g2 k (by omega)⟩))
  have hne : (((a.length : Nat) : Int) != ((b.length : Nat) : Int)) = false := by rw [hl]; simp
  unfold samePs samePs_B
  simp only [Br.run, hne, cond_false, hz]
  rcases h with ⟨rfl, h⟩ | ⟨rfl, h⟩
  ·exact ⟨false, rfl, ⟨fun e => (by cases e), fun e => absurd e h⟩⟩
  ·exact ⟨true, rfl, ⟨fun _ => h, fun _ => rfl⟩⟩
 ·have hne : (((a.length : Nat) : Int) != ((b.length : Nat) : Int)) = true := by simp; omega
  refine ⟨false, ?_, ⟨fun e => (by cases e), fun e => absurd (congrArg List.length e) hl⟩⟩
  unfold samePs samePs_B
  simp only [Br.run, hne, cond_true]
end Go.Proofs.Ytiblijkhpmemeaa

namespace Go.Proofs.Ytiblijkhpmemeaa
open Go.PI Go
noncomputable def oTail (s : Int) (x y : List Prs) : Br (Bool × Unit) :=
 (.opt (cmpPs (x, y, ())) fun y190 =>
 (.opt (cmpPs (y, x, ())) fun y191 =>
 (.opt (samePs (x, y, ())) fun y192 =>
 (.opt (truthOrder_w0 (s, x, y, y190.1, y191.1, y192.1, 0, 0, [x, y, []], ())) fun z220 =>
 (.opt (awake20 ()) fun y221 =>
 (.cond y221.1
 (.cond ((z220.2.2.2.1 == 0) == z220.2.2.2.2.2.1)
 (.opt (lessP (z220.2.1, z220.2.2.1, ())) fun y222 =>
 (.cond (decide (z220.2.2.2.1 < 0) == y222.1)
 (.opt (lessP (z220.2.2.1, z220.2.1, ())) fun y223 =>
 (.cond (decide (z220.2.2.2.2.1 < 0) == y223.1)
 (.cond (decide (z220.2.2.2.1 > 0) == decide (z220.2.2.2.2.1 < 0))
 (.opt (endsT (z220.2.2.2.2.2.2.2.1, z220.1, ())) fun y224 =>
 (.ret ((↑(List.length y224.1) : Int) == z220.2.2.2.2.2.2.1, ())))
 (.ret (false, ())))
 (.ret (false, ()))))
 (.ret (false, ()))))
 (.ret (false, ())))
 (.ret (false, ()))))))))
theorem truthOrder_w0_at (s : Int) (x y : List Prs) (c d : Int) (b : Bool) (l : List (List Prs)) (h3 : l.length = 3) (hm : ∀ m ∈ l, m.length ≤ 1000000) : truthOrder_w0 (s, x, y, c, d, b, 0, 0, l, ()) = some (s, x, y, c, d, b, ((l.filter (endP s)).length : Int), l, ()) := by
 obtain ⟨z, hz, rfl⟩ : ∃ z, truthOrder_w0 (s, x, y, c, d, b, 0, 0, l, ()) = some z ∧ z = (s, x, y, c, d, b, ((l.filter (endP s)).length : Int), l, ()) := by
  refine iterO_bt (step := truthOrder_l0) (fun z => ∃ i : Int, z = (s, x, y, c, d, b, (((l.take i.toNat).filter (endP s)).length : Int), i, l, ()) ∧ 0 ≤ i ∧ i ≤ 3) (fun z => ((3 : Int) - z.2.2.2.2.2.2.2.1).toNat) _ ?_ _ ⟨0, rfl, Int.le_refl _, by omega⟩
  rintro z ⟨i, rfl, g0, g1⟩
  unfold truthOrder_l0
  by_cases hi : i < 3
  ·have hw : IntKind.wrap .i64 (i + 1) = i + 1 := Go.PI.wrap_small (by omega) (by omega)
   have hlt : i.toNat < l.length := by omega
   have iin := in2 (i := i) (n := (l.length : Int)) g0 (by omega)
   have ht : (l.take (i + 1).toNat).filter (endP s) = (l.take i.toNat).filter (endP s) ++ if endP s (l.getD i.toNat []) = true then [l.getD i.toNat []] else [] := by
    rw [show (i + 1).toNat = i.toNat + 1 by omega, List.take_add_one, getD_opt (d := ([] : List Prs)) hlt, List.filter_append, List.filter_cons, List.filter_nil]
   have hml := hm (l.getD i.toNat []) (by rw [getD_in _ _ _ hlt]; exact List.getElem_mem hlt)
   have hfl : ((l.take i.toNat).filter (endP s)).length ≤ 3 := Nat.le_trans (List.length_filter_le ..) (by rw [List.length_take]; omega)
   generalize hM : l.getD i.toNat [] = M at *
   have hM' : List.getD l i.toNat [] = M := hM
   have skip : endP s M = false → (l.take (i + 1).toNat).filter (endP s) = (l.take i.toNat).filter (endP s) := fun h => by
    rw [ht, if_neg (by rw [h]; simp), List.append_nil]
   refine BT.lt (decide_eq_true hi) (BT.yes iin ?_)
   simp only [hM']
   refine BT.cond (fun hc => BT.yes iin (BT.yes iin ?_)) (fun hc => BT.goes ⟨⟨i + 1, ?_, by omega, by omega⟩, ?_⟩)
   ·have hc : (M.length : Int) > 0 := of_decide_eq_true hc
    have hw2 : IntKind.wrap .i64 ((M.length : Int) - 1) = (M.length : Int) - 1 := Go.PI.wrap_small (by omega) (by omega)
    rw [hw2]
    have he : ((M.length : Int) - 1).toNat = M.length - 1 := by omega
    refine BT.yes (in2 (by omega) (by omega)) ?_
    rw [he]
    refine BT.cond (fun h2 => BT.goes ⟨⟨i + 1, ?_, by omega, by omega⟩, ?_⟩) (fun h2 => BT.goes ⟨⟨i + 1, ?_, by omega, by omega⟩, ?_⟩)
    ·have : endP s M = true := by
      unfold endP
      rw [h2, decide_eq_true (show 0 < M.length by omega)]
      rfl
     rw [hw, ht, if_pos this, List.length_append, List.length_singleton, Go.PI.wrap_small (by omega) (by omega)]
     rfl
    ·dsimp only
     rw [hw]
     omega
    ·rw [hw, skip (by unfold endP; rw [h2, Bool.and_false])]
    ·dsimp only
     rw [hw]
     omega
   ·have hc : ¬ (M.length : Int) > 0 := of_decide_eq_false hc
    rw [hw, skip (by unfold endP; rw [decide_eq_false (show ¬ 0 < M.length by omega), Bool.false_and])]
   ·dsimp only
    rw [hw]
    omega
  ·refine BT.ge (decide_eq_false hi) (BT.ends ?_)
   rw [List.take_of_length_le (by omega)]
 exact hz
theorem beq_of_iff {a b : Bool} (h : a = true ↔ b = true) : (a == b) = true := by
 cases a <;> cases b <;> simp at h ⊢
theorem oTail_at (s : Int) (x y : List Prs) (hx : x.length ≤ 100) (hy : y.length ≤ 100) : BT (fun z => z = (true, ())) (oTail s x y) := by
 obtain ⟨b, hb, hb2⟩ := samePs_at x y (by omega)
 have hl : ∀ m ∈ [x, y, ([] : List Prs)], m.length ≤ 1000000 := fun m hm => by
  rcases List.mem_cons.1 hm with rfl | hm
  ·omega
  ·rcases List.mem_cons.1 hm with rfl | hm
   ·omega
   ·obtain rfl := List.mem_singleton.1 hm
    exact Nat.zero_le _
 have hs := cmpS_swap x y
 unfold oTail
 refine BT.opt ⟨_, cmpPs_at x y (by omega), BT.opt ⟨_, cmpPs_at y x (by omega), BT.opt ⟨_, hb, BT.opt ⟨_, truthOrder_w0_at s x y _ _ b [x, y, []] rfl hl, BT.opt ⟨_, awake20_at, BT.lt rfl (BT.lt (beq_of_iff ?_) (BT.opt ⟨_, lessP_at x y (by omega), BT.lt (beq_self_eq_true _) (BT.opt ⟨_, lessP_at y x (by omega), BT.lt (beq_self_eq_true _) (BT.lt (beq_of_iff ?_) (BT.opt ⟨_, endsT_at [x, y, []] (by simp) hl s, BT.ret ?_⟩))⟩)⟩))⟩⟩⟩⟩⟩
 ·rw [beq_iff_eq, cmpS_eq, hb2]
 ·rw [decide_eq_true_iff, decide_eq_true_iff]
  show cmpS x y > 0 ↔ cmpS y x < 0
  omega
 ·show (_ == _, ()) = (true, ())
  rw [beq_self_eq_true]
theorem truthOrder_at (a b : List Prs) (s : Int) : truthOrder (a, b, s, ()) = some (true, ()) := by
 suffices h : BT (fun z => z = (true, ())) (truthOrder_B (a, b, s, ())) by
  obtain ⟨z, hz, rfl⟩ := h
  exact hz
 have k : ∀ l : List Prs, 0 ≤ (if 6 < (l.length : Int) then 6 else (l.length : Int)) ∧ (if 6 < (l.length : Int) then 6 else (l.length : Int)) ≤ (l.length : Int) ∧ (if 6 < (l.length : Int) then 6 else (l.length : Int)) ≤ 6 := fun l => by split <;> omega
 have c3 : ∀ l : List Prs, (decide ((0 : Int) ≤ 0) && decide (0 ≤ if 6 < (l.length : Int) then 6 else (l.length : Int)) && decide ((if 6 < (l.length : Int) then 6 else (l.length : Int)) ≤ (l.length : Int))) = true := fun l => by
  have := k l
  simp only [Bool.and_eq_true, decide_eq_true_eq]
  exact ⟨⟨Int.le_refl _, this.1⟩, this.2.1⟩
 have hX : ∀ l : List Prs, (List.drop (Int.toNat 0) (List.take (Int.toNat (if 6 < (l.length : Int) then 6 else (l.length : Int))) l)).length ≤ 6 := fun l => by
  have := k l
  rw [List.length_drop, List.length_take]
  omega
 have hXa := hX a
 have hXb := hX b
 unfold truthOrder_B
 refine BT.yes (c3 a) (BT.yes (c3 b) ?_)
 generalize hA : List.drop (Int.toNat 0) (List.take (Int.toNat (if 6 < (a.length : Int) then 6 else (a.length : Int))) a) = x at *
 generalize hB : List.drop (Int.toNat 0) (List.take (Int.toNat (if 6 < (b.length : Int) then 6 else (b.length : Int))) b) = y at *
 have t := oTail_at s x y (by omega) (by omega)
 refine BT.cond (fun h1 => BT.cond (fun h2 => BT.cond (fun _ => ?_) (fun _ => t)) (fun _ => t)) (fun _ => t)
 have h1 : (y.length : Int) > 0 := of_decide_eq_true h1
 have h2 : (x.length : Int) > 1 := of_decide_eq_true h2
 have hw : IntKind.wrap .i64 ((x.length : Int) - 1) = (x.length : Int) - 1 := Go.PI.wrap_small (by omega) (by omega)
 rw [hw]
 have hb : (decide ((0 : Int) ≤ 0) && decide (0 ≤ (x.length : Int) - 1) && decide ((x.length : Int) - 1 ≤ (x.length : Int))) = true := by
  simp only [Bool.and_eq_true, decide_eq_true_eq]
  omega
 refine BT.yes hb (BT.yes (decide_eq_true ?_) (BT.yes (in2 (Int.le_refl _) h1) (BT.yes (decide_eq_true ?_) (oTail_at s x _ (by omega) ?_))))
 all_goals simp only [List.length_append, List.length_set, List.length_replicate, List.length_drop, List.length_take]
 all_goals omega
end Go.Proofs.Ytiblijkhpmemeaa
