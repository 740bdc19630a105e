/- What the parts of predicates come to: whatever the parts, an answer. What parts of values come to: loops, and how two stand. What Eval comes to: part by part. What Eval comes to: part by part, on a stack. Contracts of functions. Printed by auto.py. -/
import Derived.Test.YtkbdofnbagmlfaaGreatHb
import Derived.Test.YtkbdofnbagmlfaaGreatGe
import Derived.Test.YtkbdofnbagmlfaaGreatHa
namespace Go.Proofs.YtkbdofnbagmlfaaGreat
open Go.PI Go
abbrev Val := Int × (Int × (ByteArray × Bool))
abbrev Nd := Int × (Val × (ByteArray × ByteArray))
abbrev Evt := ByteArray × (ByteArray × (Int × (Int × List Val)))
abbrev Bnd := ByteArray × Evt
abbrev Flds := List (ByteArray × Int)
abbrev Sch := Option (List (ByteArray × Flds))
def pt (op : Int) : Int := if op = 1 then 0 else if op = 2 then 0 else if op = 3 then 1 else if op = 13 then 1 else if 4 <= op then (if op <= 15 then 2 else -1) else -1
theorem Znq (op : Int) : partsT (op, ()) = some (pt op, ()) := by
 unfold partsT Zo5 pt
 simp only [Br.run, cond_eq_ite, beq_iff_eq, decide_eq_true_eq, ge_iff_le]
 repeat' split
 all_goals first | rfl | omega
theorem Zla (c : Int) : ∃ b, letter (c, ()) = some (b, ()) := by
 unfold letter Zoz
 simp only [Br.run, cond_eq_ite]
 repeat' split
 all_goals exact ⟨_, rfl⟩
theorem Zo3 (s : ByteArray) (hs : s.size <= 16) (i : Int) (h0 : 0 <= i) (h1 : i <= s.size) : ∃ z, nameF_w0 (s, (s.size : Int), i, ()) = some z /\ ∀ y, z = .inr y -> y.1 = s := by
 refine Zao (step := fun x => (Zg8 x).run) (Q := fun _ z => ∀ y, z = .inr y -> y.1 = s) (fun x => x.1 = s /\ x.2.1 = (s.size : Int) /\ 0 <= x.2.2.1 /\ x.2.2.1 <= s.size) (fun x => ((s.size : Int) - x.2.2.1).toNat) ?_ _ ⟨rfl, rfl, h0, h1⟩
 rintro ⟨s', n, i, ⟨⟩⟩ hx
 dsimp only at hx ⊢
 obtain ⟨rfl, rfl, h0, h1⟩ := hx
 unfold Zg8
 by_cases hi : i < (s'.size : Int)
 ·obtain ⟨b, hb⟩ := Zla ((List.getD (bl s') (Int.toNat i) 0).toNat : Int)
  have hw : IntKind.wrap .i64 (i + 1) = i + 1 := Go.PI.wrap_small (by omega) (by omega)
  simp only [Br.run, decide_eq_true hi, decide_eq_true h0, Bool.and_self, cond_true, hb, hw]
  cases b
  ·simp only [Bool.not_false, cond_true, cond_eq_ite, ↓reduceIte]
   split
   ·exact .inr ⟨_, rfl, by intro y hy; cases hy⟩
   ·split
    ·exact .inr ⟨_, rfl, by intro y hy; cases hy⟩
    ·exact .inl ⟨_, rfl, ⟨rfl, rfl, by dsimp only; omega, by dsimp only; omega⟩, by dsimp only; omega, fun z hz => hz⟩
  ·exact .inl ⟨_, rfl, ⟨rfl, rfl, by dsimp only; omega, by dsimp only; omega⟩, by dsimp only; omega, fun z hz => hz⟩
 ·simp only [Br.run, decide_eq_false hi, cond_false]
  exact .inr ⟨_, rfl, by intro y hy; cases hy; rfl⟩
theorem Zn2 (s : ByteArray) (hs : s.size <= 16) (i : Int) (h0 : 0 <= i) : ∃ z, nameF_w1 (s, (44 - s.size - 1 : Int), i, ()) = some z /\ True := by
 refine Zao (step := fun x => (ZgP x).run) (Q := fun _ _ => True) (fun x => x.1 = s /\ x.2.1 = (44 - s.size - 1 : Int) /\ 0 <= x.2.2.1) (fun x => ((44 : Int) - x.2.2.1).toNat) ?_ _ ⟨rfl, rfl, h0⟩
 rintro ⟨s', n, i, ⟨⟩⟩ hx
 dsimp only at hx ⊢
 obtain ⟨rfl, rfl, h0⟩ := hx
 unfold ZgP
 by_cases hi : i < 44 - (s'.size : Int) - 1
 ·have hw : IntKind.wrap .i64 (i + 1) = i + 1 := Go.PI.wrap_small (by omega) (by omega)
  have hw2 : IntKind.wrap .i64 (i + (s'.size : Int)) = i + (s'.size : Int) := Go.PI.wrap_small (by omega) (by omega)
  have hw3 : IntKind.wrap .i64 (i + (s'.size : Int) + 2) = i + (s'.size : Int) + 2 := Go.PI.wrap_small (by omega) (by omega)
  have hsz : ∀ x y : ByteArray, (bcat x y).size = x.size + y.size := fun x y => by
   show (bl x ++ bl y).length = x.data.size + y.data.size
   rw [List.length_append]; rfl
  have h1 : (i <= i + (s'.size : Int) + 2) := by omega
  have hW : ({ data := #[32, 83, 69, 81, 32, 87, 72, 69, 82, 69, 32, 87, 73, 84, 72, 73, 78, 32, 67, 65, 80, 32, 97, 110, 100, 32, 111, 114, 32, 110, 111, 116, 32, 116, 114, 117, 101, 32, 102, 97, 108, 115, 101, 32] } : ByteArray).size = 44 := rfl
  have hB : ({ data := #[32] } : ByteArray).size = 1 := rfl
  have h2 : (i + (s'.size : Int) + 2 <= ((44 : Nat) : Int)) := by omega
  have h3 : 1 + s'.size <= 9223372036854775807 := by omega
  have h4 : 1 + s'.size + 1 <= 9223372036854775807 := by omega
  simp only [Br.run, hw, hw2, hw3, hsz, hW, hB, decide_eq_true hi, decide_eq_true h0, decide_eq_true h1, decide_eq_true h2, decide_eq_true h3, decide_eq_true h4, Bool.and_self, cond_true, cond_eq_ite, ↓reduceIte]
  split
  ·exact .inr ⟨_, rfl, trivial⟩
  ·exact .inl ⟨_, rfl, ⟨rfl, rfl, by dsimp only; omega⟩, by dsimp only; omega, fun z hz => hz⟩
 ·simp only [Br.run, decide_eq_false hi, cond_false]
  exact .inr ⟨_, rfl, trivial⟩
theorem ZmM (s : ByteArray) : ∃ b, nameF (s, ()) = some (b, ()) := by
 unfold nameF Zrt
 simp only [Br.run, cond_eq_ite]
 split
 ·exact ⟨_, rfl⟩
 rename_i hne
 split
 ·exact ⟨_, rfl⟩
 rename_i hle
 have hle : s.size <= 16 := by simp only [decide_eq_true_eq, gt_iff_lt] at hle; omega
 have hpos : 0 < s.size := by
  rcases Nat.eq_zero_or_pos s.size with h | h
  ·exfalso
   apply hne
   have : bl s = [] := by
    have : s.data.size = 0 := h
    unfold bl
    exact List.eq_nil_of_length_eq_zero (by simpa using this)
   rw [this]; rfl
  ·exact h
 have hp : (0 : Int) < (s.size : Int) := by omega
 simp only [decide_eq_true hp, decide_eq_true (Nat.le_refl 0), decide_eq_true (Int.le_refl 0), decide_true, Bool.and_self, ↓reduceIte, Br.run]
 obtain ⟨b, hb⟩ := Zla ((List.getD (bl s) (Int.toNat 0) 0).toNat : Int)
 simp only [hb, Br.run]
 cases b
 ·exact ⟨_, rfl⟩
 obtain ⟨z, hz, hzs⟩ := Zo3 s hle 0 (by omega) (by omega)
 simp only [Bool.not_true, Bool.false_eq_true, ↓reduceIte, hz, Br.run]
 cases z with
 | inl u => exact ⟨_, rfl⟩
 | inr y =>
  obtain ⟨s', ⟨⟩⟩ := y
  obtain rfl : s' = s := hzs _ rfl
  have hw : IntKind.wrap .i64 (44 - (s'.size : Int)) = 44 - (s'.size : Int) := Go.PI.wrap_small (by omega) (by omega)
  have hw2 : IntKind.wrap .i64 (44 - (s'.size : Int) - 1) = 44 - (s'.size : Int) - 1 := Go.PI.wrap_small (by omega) (by omega)
  obtain ⟨z, hz, -⟩ := Zn2 s' hle 0 (by omega)
  simp only [hw, hw2, hz, Br.run]
  cases z <;> exact ⟨_, rfl⟩
theorem mayV_tot (v : Val) : ∃ b, mayV (v, ()) = some (b, ()) := by
 unfold mayV ZqL numV ZhW textV ZlF truthV ZcR
 simp only [Br.run, cond_eq_ite]
 repeat' split
 all_goals exact ⟨_, rfl⟩
theorem ZuT (n : Nd) : ∃ b, nodeM (n, ()) = some (b, ()) := by
 unfold nodeM Zib
 obtain ⟨b1, h1⟩ := mayV_tot n.2.1
 obtain ⟨b2, h2⟩ := ZmM n.2.2.1
 obtain ⟨b3, h3⟩ := ZmM n.2.2.2
 simp only [Br.run, cond_eq_ite, h1, h2, h3]
 repeat' split
 all_goals exact ⟨_, rfl⟩
noncomputable def ZbE (n : Nd) : Bool := match nodeM (n, ()) with
 | some (b, ()) => b
 | none => false
theorem nodeM_at (n : Nd) : nodeM (n, ()) = some (ZbE n, ()) := by
 obtain ⟨b, h⟩ := ZuT n
 simp only [ZbE, h]
noncomputable def Zbs : Int -> List Nd -> Option Int
 | d, [] => some d
 | d, n :: r => if pt n.1 < 0 then none else if ZbE n = false then none else if d < pt n.1 then none else Zbs (d + 1 - pt n.1) r
theorem pt_le (op : Int) : pt op <= 2 /\ -1 <= pt op := by
 unfold pt
 repeat' split
 all_goals omega
theorem ZbO {α : Type} (l : List α) (i : Int) (d : α) (h0 : 0 <= i) (h1 : i < (l.length : Int)) : l.drop i.toNat = l.getD i.toNat d :: l.drop (i + 1).toNat := by
 have h : i.toNat < l.length := by omega
 have e : (i + 1).toNat = i.toNat + 1 := by omega
 rw [e, List.drop_eq_getElem_cons h]
 simp [List.getD, h]
theorem ZtV (l : List Nd) (hl : l.length <= 64) (d i : Int) (h0 : 0 <= i) (h1 : i <= l.length) (h2 : 0 <= d) (h3 : d <= i) :
  mayT_w0 (d, l, (l.length : Int), i, ()) = some (match Zbs d (l.drop i.toNat) with | none => .inl () | some d' => .inr (d', ())) := by
 suffices h : ∃ z, mayT_w0 (d, l, (l.length : Int), i, ()) = some z /\ z = (match Zbs d (l.drop i.toNat) with | none => .inl () | some d' => .inr (d', ())) by
  obtain ⟨z, h, rfl⟩ := h
  exact h
 refine Zao (step := fun x => (Zh8 x).run) (Q := fun x z => z = (match Zbs x.1 (l.drop x.2.2.2.1.toNat) with | none => .inl () | some d' => .inr (d', ()))) (fun x => x.2.1 = l /\ x.2.2.1 = (l.length : Int) /\ 0 <= x.2.2.2.1 /\ x.2.2.2.1 <= l.length /\ 0 <= x.1 /\ x.1 <= x.2.2.2.1) (fun x => ((l.length : Int) - x.2.2.2.1).toNat) ?_ _ ⟨rfl, rfl, h0, h1, h2, h3⟩
 rintro ⟨d, l', n, i, ⟨⟩⟩ hx
 dsimp only at hx ⊢
 obtain ⟨rfl, rfl, h0, h1, h2, h3⟩ := hx
 unfold Zh8
 by_cases hi : i < (l'.length : Int)
 ·have hw : IntKind.wrap .i64 (i + 1) = i + 1 := Go.PI.wrap_small (by omega) (by omega)
  rw [ZbO l' i (0, (0, 0, ByteArray.empty, false), ByteArray.empty, ByteArray.empty) h0 hi]
  simp only [Br.run, decide_eq_true hi, decide_eq_true h0, Bool.and_self, cond_true, hw, Znq, nodeM_at, Zbs, cond_eq_ite, decide_eq_true_eq]
  generalize l'.getD i.toNat (0, (0, 0, ByteArray.empty, false), ByteArray.empty, ByteArray.empty) = nd
  obtain ⟨hp2, hp1⟩ := pt_le nd.1
  have hw1 : IntKind.wrap .i64 (1 - pt nd.1) = 1 - pt nd.1 := Go.PI.wrap_small (by omega) (by omega)
  have hw2 : IntKind.wrap .i64 (d + (1 - pt nd.1)) = d + 1 - pt nd.1 := by rw [Go.PI.wrap_small (by omega) (by omega)]; omega
  simp only [hw1, hw2]
  by_cases hp : pt nd.1 < 0
  ·simp only [hp, if_true]
   exact .inr ⟨_, rfl, rfl⟩
  ·simp only [hp, if_false]
   cases ZbE nd
   ·simp only [Bool.not_false, if_true]
    exact .inr ⟨_, rfl, rfl⟩
   ·simp only [Bool.not_true, Bool.false_eq_true, Bool.true_eq_false, if_false]
    by_cases hd : d < pt nd.1
    ·simp only [hd, if_true]
     exact .inr ⟨_, rfl, rfl⟩
    ·simp only [hd, if_false]
     exact .inl ⟨_, rfl, ⟨rfl, rfl, by dsimp only; omega, by dsimp only; omega, by dsimp only; omega, by dsimp only; omega⟩, by dsimp only; omega, fun z hz => hz⟩
 ·simp only [Br.run, decide_eq_false hi, cond_false]
  have : l'.drop i.toNat = [] := List.drop_eq_nil_of_le (by omega)
  rw [this]
  exact .inr ⟨_, rfl, rfl⟩
theorem mayT_at (l : List Nd) : mayT (l, ()) = some (decide (l.length <= 64) && (Zbs 0 l == some 1), ()) := by
 unfold mayT mayT_B
 by_cases h : l.length <= 64
 ·have h' : ¬ ((l.length : Int) > 64) := by omega
  simp only [Br.run, decide_eq_false h', cond_false, decide_eq_true h, Bool.true_and]
  rw [ZtV l h 0 0 (by omega) (by omega) (by omega) (by omega)]
  simp only [Int.toNat_zero, List.drop_zero]
  cases Zbs 0 l with
  | none => rfl
  | some d => rfl
 ·have h' : ((l.length : Int) > 64) := by omega
  simp only [Br.run, decide_eq_true h', cond_true, decide_eq_false h, Bool.false_and]
end Go.Proofs.YtkbdofnbagmlfaaGreat

namespace Go.Proofs.YtkbdofnbagmlfaaGreat
open Go.PI Go
abbrev zV : Val := (0, 0, ByteArray.empty, false)
abbrev iV (i : Int) : Val := (1, i, ByteArray.empty, false)
abbrev sV (s : ByteArray) : Val := (2, 0, s, false)
abbrev bV (b : Bool) : Val := (3, 0, ByteArray.empty, b)
theorem ZdX (op : Int) (k : List Val) (hk : k.length <= 64) (i : Int) (h0 : 0 <= i) (h1 : i <= k.length) (v : Val) :
  numbersE_w0 (op, k, k, (k.length : Int), i, v, ()) = some (if (k.drop i.toNat).all (fun x => x.1 == 1) = true then .inr (op, k, v, ()) else .inl (zV, ())) := by
 suffices h : ∃ z, numbersE_w0 (op, k, k, (k.length : Int), i, v, ()) = some z /\ z = (if (k.drop i.toNat).all (fun x => x.1 == 1) = true then .inr (op, k, v, ()) else .inl (zV, ())) by
  obtain ⟨z, h, rfl⟩ := h
  exact h
 refine Zao (step := fun x => (Zeh x).run) (Q := fun x z => z = (if (k.drop x.2.2.2.2.1.toNat).all (fun x => x.1 == 1) = true then .inr (op, k, v, ()) else .inl (zV, ()))) (fun x => x.1 = op /\ x.2.1 = k /\ x.2.2.1 = k /\ x.2.2.2.1 = (k.length : Int) /\ 0 <= x.2.2.2.2.1 /\ x.2.2.2.2.1 <= k.length /\ x.2.2.2.2.2.1 = v) (fun x => ((k.length : Int) - x.2.2.2.2.1).toNat) ?_ _ ⟨rfl, rfl, rfl, rfl, h0, h1, rfl⟩
 rintro ⟨op', k', k'', n, i, v', ⟨⟩⟩ hx
 dsimp only at hx ⊢
 obtain ⟨rfl, rfl, rfl, rfl, h0, h1, rfl⟩ := hx
 unfold Zeh
 by_cases hi : i < (k''.length : Int)
 ·have hw : IntKind.wrap .i64 (i + 1) = i + 1 := Go.PI.wrap_small (by omega) (by omega)
  rw [ZbO k'' i (0, 0, ByteArray.empty, false) h0 hi]
  simp only [Br.run, decide_eq_true hi, decide_eq_true h0, Bool.and_self, cond_true, hw, cond_eq_ite, List.all_cons, bne]
  by_cases hq : ((k''.getD i.toNat (0, 0, ByteArray.empty, false)).1 == 1) = true
  ·simp only [hq, Bool.true_and, Bool.not_true, Bool.false_eq_true, ↓reduceIte]
   exact .inl ⟨_, rfl, ⟨rfl, rfl, rfl, rfl, by dsimp only; omega, by dsimp only; omega, rfl⟩, by dsimp only; omega, fun z hz => hz⟩
  ·simp only [hq, Bool.false_and, Bool.not_false, Bool.false_eq_true, ↓reduceIte]
   exact .inr ⟨_, rfl, rfl⟩
 ·simp only [Br.run, decide_eq_false hi, cond_false]
  have : k''.drop i.toNat = [] := List.drop_eq_nil_of_le (by omega)
  rw [this]
  exact .inr ⟨_, rfl, rfl⟩
theorem ZeD (op : Int) (k : List Val) (hk : k.length <= 64) (i : Int) (h0 : 0 <= i) (h1 : i <= k.length) (v : Val) :
  truthsE_w0 (op, k, k, (k.length : Int), i, v, ()) = some (if (k.drop i.toNat).all (fun x => x.1 == 3) = true then .inr (op, k, v, ()) else .inl (zV, ())) := by
 suffices h : ∃ z, truthsE_w0 (op, k, k, (k.length : Int), i, v, ()) = some z /\ z = (if (k.drop i.toNat).all (fun x => x.1 == 3) = true then .inr (op, k, v, ()) else .inl (zV, ())) by
  obtain ⟨z, h, rfl⟩ := h
  exact h
 refine Zao (step := fun x => (ZeT x).run) (Q := fun x z => z = (if (k.drop x.2.2.2.2.1.toNat).all (fun x => x.1 == 3) = true then .inr (op, k, v, ()) else .inl (zV, ()))) (fun x => x.1 = op /\ x.2.1 = k /\ x.2.2.1 = k /\ x.2.2.2.1 = (k.length : Int) /\ 0 <= x.2.2.2.2.1 /\ x.2.2.2.2.1 <= k.length /\ x.2.2.2.2.2.1 = v) (fun x => ((k.length : Int) - x.2.2.2.2.1).toNat) ?_ _ ⟨rfl, rfl, rfl, rfl, h0, h1, rfl⟩
 rintro ⟨op', k', k'', n, i, v', ⟨⟩⟩ hx
 dsimp only at hx ⊢
 obtain ⟨rfl, rfl, rfl, rfl, h0, h1, rfl⟩ := hx
 unfold ZeT
 by_cases hi : i < (k''.length : Int)
 ·have hw : IntKind.wrap .i64 (i + 1) = i + 1 := Go.PI.wrap_small (by omega) (by omega)
  rw [ZbO k'' i (0, 0, ByteArray.empty, false) h0 hi]
  simp only [Br.run, decide_eq_true hi, decide_eq_true h0, Bool.and_self, cond_true, hw, cond_eq_ite, List.all_cons, bne]
  by_cases hq : ((k''.getD i.toNat (0, 0, ByteArray.empty, false)).1 == 3) = true
  ·simp only [hq, Bool.true_and, Bool.not_true, Bool.false_eq_true, ↓reduceIte]
   exact .inl ⟨_, rfl, ⟨rfl, rfl, rfl, rfl, by dsimp only; omega, by dsimp only; omega, rfl⟩, by dsimp only; omega, fun z hz => hz⟩
  ·simp only [hq, Bool.false_and, Bool.not_false, Bool.false_eq_true, ↓reduceIte]
   exact .inr ⟨_, rfl, rfl⟩
 ·simp only [Br.run, decide_eq_false hi, cond_false]
  have : k''.drop i.toNat = [] := List.drop_eq_nil_of_le (by omega)
  rw [this]
  exact .inr ⟨_, rfl, rfl⟩
def cmpT (op : Int) (lt eq : Bool) : Bool := if op = 7 then eq else if op = 8 then !eq else if op = 9 then lt else if op = 10 then lt || eq else if op = 11 then !lt && !eq else !lt
theorem Zm7 (op c : Int) : holdsE (op, c, ()) = some (cmpT op (decide (c < 0)) (decide (c = 0)), ()) := by
 unfold holdsE ZqM cmpT
 simp only [Br.run, cond_eq_ite, beq_iff_eq]
 by_cases h7 : op = 7
 ·simp only [h7, ↓reduceIte]; rfl
 by_cases h8 : op = 8
 ·simp only [h8, ↓reduceIte]; rfl
 by_cases h9 : op = 9
 ·simp only [h9, ↓reduceIte]; rfl
 by_cases h10 : op = 10
 ·simp only [h10, ↓reduceIte]
  have : decide (c <= 0) = (decide (c < 0) || decide (c = 0)) := by
   rw [Bool.eq_iff_iff]; simp; omega
  rw [this]; rfl
 by_cases h11 : op = 11
 ·simp only [h11, ↓reduceIte]
  have : decide (c > 0) = (!decide (c < 0) && !decide (c = 0)) := by
   rw [Bool.eq_iff_iff]; simp; omega
  rw [this]; rfl
 simp only [h7, h8, h9, h10, h11, ↓reduceIte]
 have : decide (c >= 0) = !decide (c < 0) := by
  rw [Bool.eq_iff_iff]; simp
 rw [this]
end Go.Proofs.YtkbdofnbagmlfaaGreat

namespace Go.Proofs.YtkbdofnbagmlfaaGreat
open Go.PI Go
theorem addN_tot (a b : Int) : ∃ v t, addN (a, b, ()) = some ((v, t), ()) := by
 unfold addN Zo6
 simp only [Br.run, cond_eq_ite]
 repeat' split
 all_goals exact ⟨_, _, rfl⟩
theorem Zqk (a b : Int) : ∃ v t, subN (a, b, ()) = some ((v, t), ()) := by
 unfold subN Zn6
 simp only [Br.run, cond_eq_ite]
 repeat' split
 all_goals exact ⟨_, _, rfl⟩
theorem mulN_tot (a b : Int) : ∃ v t, mulN (a, b, ()) = some ((v, t), ()) := by
 unfold mulN ZqG
 simp only [Br.run, cond_eq_ite, beq_iff_eq, decide_eq_true_eq]
 by_cases b0 : b = 0
 ·simp only [b0, ↓reduceIte]
  split <;> exact ⟨_, _, rfl⟩
 simp only [b0, ↓reduceIte]
 repeat' split
 all_goals exact ⟨_, _, rfl⟩
theorem negN_tot (a : Int) : ∃ v t, negN (a, ()) = some ((v, t), ()) := by
 unfold negN Zp4
 obtain ⟨v, t, h⟩ := Zqk 0 a
 simp only [Br.run, h]
 exact ⟨_, _, rfl⟩
theorem Zox (a b : Val) : ∃ v t, compareV (a, b, ()) = some ((v, t), ()) := by
 unfold compareV Zc2 bitV ZhC compareS Zhj ZhA signV ZlH
 simp only [Br.run, cond_eq_ite]
 repeat' split
 all_goals first
  | exact ⟨_, _, rfl⟩
  | (cases decide (a.2.1 > b.2.1) <;> cases decide (a.2.1 < b.2.1) <;> exact ⟨_, _, rfl⟩)
  | (cases a.2.2.2 <;> cases b.2.2.2 <;> exact ⟨_, _, rfl⟩)
theorem ZpB (op : Int) (k : List Val) (hk : k.length <= 64) (h1 : 1 <= k.length) (h2 : op ≠ 3 -> 2 <= k.length) : ∃ v t, numbersE (op, k, ()) = some ((v, t), ()) := by
 unfold numbersE ZeW numV ZhW
 simp only [Br.run]
 rw [ZdX op k hk 0 (by omega) (by omega)]
 split
 ·simp only [Br.run]
  have e0 : (decide ((0 : Int) <= 0) && decide ((0 : Int) < ((List.length k : Nat) : Int))) = true := by simp; omega
  have e0' : (decide ((0 : Nat) <= 0) && decide ((0 : Int) < ((List.length k : Nat) : Int))) = true := by simp; omega
  obtain ⟨v3, t3, q3⟩ := negN_tot (Prod.fst (Prod.snd (List.getD k (Int.toNat 0) (0, 0, ByteArray.empty, false))))
  obtain ⟨v4, t4, q4⟩ := addN_tot (Prod.fst (Prod.snd (List.getD k (Int.toNat 0) (0, 0, ByteArray.empty, false)))) (Prod.fst (Prod.snd (List.getD k (Int.toNat 1) (0, 0, ByteArray.empty, false))))
  obtain ⟨v5, t5, q5⟩ := Zqk (Prod.fst (Prod.snd (List.getD k (Int.toNat 0) (0, 0, ByteArray.empty, false)))) (Prod.fst (Prod.snd (List.getD k (Int.toNat 1) (0, 0, ByteArray.empty, false))))
  obtain ⟨v6, t6, q6⟩ := mulN_tot (Prod.fst (Prod.snd (List.getD k (Int.toNat 0) (0, 0, ByteArray.empty, false)))) (Prod.fst (Prod.snd (List.getD k (Int.toNat 1) (0, 0, ByteArray.empty, false))))
  simp only [e0, e0', cond_true, q3, q4, q5, q6, Br.run]
  by_cases c3 : op = 3
  ·simp only [c3, cond_eq_ite, beq_self_eq_true, ↓reduceIte]
   cases t3 <;> exact ⟨_, _, rfl⟩
  ·have e1 : (decide ((0 : Int) <= 1) && decide ((1 : Int) < ((List.length k : Nat) : Int))) = true := by have := h2 c3; simp; omega
   have e1' : (decide ((0 : Nat) <= 1) && decide ((1 : Int) < ((List.length k : Nat) : Int))) = true := by have := h2 c3; simp; omega
   have hk1 : (1 : Int) < ((List.length k : Nat) : Int) := by have := h2 c3; omega
   simp only [e1, e1', cond_true, cond_eq_ite, decide_eq_true hk1, Int.reduceLE, Nat.reduceLeDiff, decide_true, Bool.and_self, ↓reduceIte]
   repeat' split
   all_goals exact ⟨_, _, rfl⟩
 ·exact ⟨_, _, rfl⟩
theorem ZqZ (op : Int) (k : List Val) (hk : k.length <= 64) (h1 : 1 <= k.length) (h2 : op ≠ 13 -> 2 <= k.length) : ∃ v t, truthsE (op, k, ()) = some ((v, t), ()) := by
 unfold truthsE ZfT truthV ZcR
 simp only [Br.run]
 rw [ZeD op k hk 0 (by omega) (by omega)]
 split
 ·simp only [Br.run]
  have e0 : (decide ((0 : Int) <= 0) && decide ((0 : Int) < ((List.length k : Nat) : Int))) = true := by simp; omega
  have e0' : (decide ((0 : Nat) <= 0) && decide ((0 : Int) < ((List.length k : Nat) : Int))) = true := by simp; omega
  simp only [e0, e0', cond_true, Br.run]
  by_cases c3 : op = 13
  ·simp only [c3, cond_eq_ite, beq_self_eq_true, ↓reduceIte]
   exact ⟨_, _, rfl⟩
  ·have e1 : (decide ((0 : Int) <= 1) && decide ((1 : Int) < ((List.length k : Nat) : Int))) = true := by have := h2 c3; simp; omega
   have e1' : (decide ((0 : Nat) <= 1) && decide ((1 : Int) < ((List.length k : Nat) : Int))) = true := by have := h2 c3; simp; omega
   have hk1 : (1 : Int) < ((List.length k : Nat) : Int) := by have := h2 c3; omega
   simp only [e1, e1', cond_true, cond_eq_ite, decide_eq_true hk1, Int.reduceLE, Nat.reduceLeDiff, decide_true, Bool.and_self, ↓reduceIte]
   repeat' split
   all_goals exact ⟨_, _, rfl⟩
 ·exact ⟨_, _, rfl⟩
theorem ZtS (op : Int) (k : List Val) (hk : k.length <= 64) (h0 : 1 <= pt op) (h1 : k.length = (pt op).toNat) : ∃ v t, applyE (op, k, ()) = some ((v, t), ()) := by
 have hl : 1 <= k.length /\ (op ≠ 3 -> op ≠ 13 -> 2 <= k.length) /\ (op = 3 \/ 4 <= op) := by
  unfold pt at h0 h1
  repeat' split at h0
  all_goals first | omega | (refine ⟨?_, ?_, ?_⟩ <;> (repeat' split at h1) <;> omega)
 unfold applyE Zgz truthV ZcR
 simp only [Br.run, cond_eq_ite, decide_eq_true_eq]
 by_cases c1 : op <= 6
 ·obtain ⟨v, t, q⟩ := ZpB op k hk hl.1 (fun h3 => hl.2.1 h3 (by omega))
  simp only [c1, ↓reduceIte, q, Br.run]
  exact ⟨_, _, rfl⟩
 simp only [c1, ↓reduceIte]
 by_cases c2 : op <= 12
 ·obtain ⟨v, t, q⟩ := Zox (List.getD k (Int.toNat 0) (0, 0, ByteArray.empty, false)) (List.getD k (Int.toNat 1) (0, 0, ByteArray.empty, false))
  have h2 := hl.2.1 (by omega) (by omega)
  have e0 : (decide ((0 : Int) <= 0) && decide ((0 : Int) < ((List.length k : Nat) : Int))) = true := by simp; omega
  have e0' : (decide ((0 : Nat) <= 0) && decide ((0 : Int) < ((List.length k : Nat) : Int))) = true := by simp; omega
  have e1 : (decide ((0 : Int) <= 1) && decide ((1 : Int) < ((List.length k : Nat) : Int))) = true := by simp; omega
  have e1' : (decide ((0 : Nat) <= 1) && decide ((1 : Int) < ((List.length k : Nat) : Int))) = true := by simp; omega
  simp only [c2, ↓reduceIte, e0, e0', e1, e1', q, Br.run, Zm7]
  cases t <;> exact ⟨_, _, rfl⟩
 ·obtain ⟨v, t, q⟩ := ZqZ op k hk hl.1 (fun h3 => hl.2.1 (by omega) h3)
  simp only [c2, ↓reduceIte, q, Br.run]
  exact ⟨_, _, rfl⟩
end Go.Proofs.YtkbdofnbagmlfaaGreat

namespace Go.Proofs.YtkbdofnbagmlfaaGreat
open Go.PI Go
def FvTot (s : Sch) (env : List Bnd) : Prop := ∀ n : Nd, ∃ v b, fieldV (s, env, n, ()) = some ((v, b), ())
def optV : Option ((Val × Bool) × Unit) -> Option Val
 | some ((v, true), ()) => some v
 | _ => none
noncomputable def ZcL (s : Sch) (env : List Bnd) (st : List Val) (n : Nd) : Option Val :=
 if n.1 = 1 then some n.2.1 else if n.1 = 2 then optV (fieldV (s, env, n, ())) else optV (applyE (n.1, st.drop (st.length - (pt n.1).toNat), ()))
noncomputable def Zbh (s : Sch) (env : List Bnd) : List Val -> List Nd -> Option (List Val)
 | st, [] => some st
 | st, n :: r => match ZcL s env st n with
  | some v => Zbh s env (st.take (st.length - (pt n.1).toNat) ++ [v]) r
  | none => none
theorem Zoa {op : Int} (h : op = 1 \/ op = 2) : pt op = 0 := by rcases h with rfl | rfl <;> rfl
theorem ZlQ (st : List Val) (q : Int) (v : Val) (h0 : 0 <= q) (h1 : q <= st.length) : List.take (Int.toNat ((st.length : Int) - q) - Int.toNat 0) (List.drop (0 + Int.toNat 0) st) ++ List.set (List.replicate 1 (0, 0, ByteArray.empty, false)) 0 v = st.take (st.length - q.toNat) ++ [v] := by
 have e : Int.toNat ((st.length : Int) - q) - Int.toNat 0 = st.length - q.toNat := by omega
 rw [e]
 rfl
theorem pop_eq (st : List Val) (q : Int) (h0 : 0 <= q) (h1 : q <= st.length) : List.take (Int.toNat (st.length : Int) - Int.toNat ((st.length : Int) - q)) (List.drop (0 + Int.toNat ((st.length : Int) - q)) st) = st.drop (st.length - q.toNat) := by
 have e : 0 + Int.toNat ((st.length : Int) - q) = st.length - q.toNat := by omega
 rw [e]
 refine List.take_of_length_le ?_
 rw [List.length_drop]
 omega
theorem ZqV {s : Sch} {env : List Bnd} (hF : FvTot s env) (l : List Nd) (hl : l.length <= 64) (v : Val) (i : Int) (st : List Val) (h0 : 0 <= i) (h1 : i <= l.length) (h2 : (st.length : Int) <= i) (h3 : Zbs st.length (l.drop i.toNat) ≠ none) :
  evalE_w0 (s, env, l, (l.length : Int), i, v, st, ()) = some (match Zbh s env st (l.drop i.toNat) with | none => .inl (zV, ()) | some st' => .inr (v, st', ())) := by
 suffices h : ∃ z, evalE_w0 (s, env, l, (l.length : Int), i, v, st, ()) = some z /\ z = (match Zbh s env st (l.drop i.toNat) with | none => .inl (zV, ()) | some st' => .inr (v, st', ())) by
  obtain ⟨z, h, rfl⟩ := h
  exact h
 refine Zao (step := fun x => (Zhd x).run) (Q := fun x z => z = (match Zbh s env x.2.2.2.2.2.2.1 (l.drop x.2.2.2.2.1.toNat) with | none => .inl (zV, ()) | some st' => .inr (v, st', ())))
  (fun x => x.1 = s /\ x.2.1 = env /\ x.2.2.1 = l /\ x.2.2.2.1 = (l.length : Int) /\ 0 <= x.2.2.2.2.1 /\ x.2.2.2.2.1 <= l.length /\ x.2.2.2.2.2.1 = v /\ (x.2.2.2.2.2.2.1.length : Int) <= x.2.2.2.2.1 /\ Zbs x.2.2.2.2.2.2.1.length (l.drop x.2.2.2.2.1.toNat) ≠ none)
  (fun x => ((l.length : Int) - x.2.2.2.2.1).toNat) ?_ _ ⟨rfl, rfl, rfl, rfl, h0, h1, rfl, h2, h3⟩
 rintro ⟨s', env', l', n, i, v', st, ⟨⟩⟩ hx
 dsimp only at hx ⊢
 obtain ⟨rfl, rfl, rfl, rfl, h0, h1, rfl, h2, h3⟩ := hx
 unfold Zhd
 by_cases hi : i < (l'.length : Int)
 ·have hw : IntKind.wrap .i64 (i + 1) = i + 1 := Go.PI.wrap_small (by omega) (by omega)
  rw [ZbO l' i (0, (0, 0, ByteArray.empty, false), ByteArray.empty, ByteArray.empty) h0 hi] at h3 ⊢
  generalize hnd : l'.getD i.toNat (0, (0, 0, ByteArray.empty, false), ByteArray.empty, ByteArray.empty) = nd at h3 ⊢
  simp only [Zbs] at h3
  have p1 : ¬ pt nd.1 < 0 := fun h => by simp only [h, ↓reduceIte] at h3; exact h3 rfl
  simp only [p1, ↓reduceIte] at h3
  have p2 : ¬ ZbE nd = false := fun h => by simp only [h, ↓reduceIte] at h3; exact h3 rfl
  simp only [p2, ↓reduceIte] at h3
  have p3 : ¬ (st.length : Int) < pt nd.1 := fun h => by simp only [h, ↓reduceIte] at h3; exact h3 rfl
  simp only [p3, ↓reduceIte] at h3
  obtain ⟨hp2, hp1⟩ := pt_le nd.1
  have hq : IntKind.wrap .i64 ((st.length : Int) - pt nd.1) = (st.length : Int) - pt nd.1 := Go.PI.wrap_small (by omega) (by omega)
  have f1 : 0 <= (st.length : Int) - pt nd.1 := by omega
  have f2 : (st.length : Int) - pt nd.1 <= (st.length : Int) := by omega
  have c2 : (decide (0 <= (st.length : Int) - pt nd.1) && decide ((st.length : Int) - pt nd.1 <= (st.length : Int)) && decide ((st.length : Int) <= (st.length : Int))) = true := by simp; omega
  have c3 : ∀ v : Val, (decide ((List.length (List.take (Int.toNat ((st.length : Int) - pt nd.1) - Int.toNat 0) (List.drop (0 + Int.toNat 0) st)) + List.length (List.set (List.replicate 1 ((0, 0, ByteArray.empty, false) : Val)) 0 v)) * 40 <= 140737488355328) && decide (0 < List.length (List.set (List.replicate 1 ((0, 0, ByteArray.empty, false) : Val)) 0 v))) = true := by
   intro v
   have e1 : (List.set (List.replicate 1 ((0, 0, ByteArray.empty, false) : Val)) 0 v).length = 1 := rfl
   have e2 : (List.take (Int.toNat ((st.length : Int) - pt nd.1) - Int.toNat 0) (List.drop (0 + Int.toNat 0) st)).length <= st.length := by
    rw [List.length_take, List.length_drop]; omega
   rw [e1]
   simp only [Bool.and_eq_true, decide_eq_true_eq]
   omega
  have hnext : ∀ w : Val, ZcL s' env' st nd = some w -> (0 <= i + 1 /\ i + 1 <= (l'.length : Int) /\ (((st.take (st.length - (pt nd.1).toNat) ++ [w]).length : Nat) : Int) <= i + 1 /\ Zbs ((st.take (st.length - (pt nd.1).toNat) ++ [w]).length : Nat) (l'.drop (i + 1).toNat) ≠ none) := by
   intro w _
   have e : (((st.take (st.length - (pt nd.1).toNat) ++ [w]).length : Nat) : Int) = st.length + 1 - pt nd.1 := by
    rw [List.length_append, List.length_take, List.length_singleton]; omega
   rw [e]
   exact ⟨by omega, by omega, by omega, h3⟩
  simp only [Br.run, decide_eq_true hi, decide_eq_true h0, Bool.and_self, cond_true, hw, hnd, Znq, hq]
  by_cases o1 : nd.1 = 1
  ·have b1 : (nd.1 == 1) = true := by rw [o1]; rfl
   have hv : ZcL s' env' st nd = some nd.2.1 := by unfold ZcL; rw [if_pos o1]
   simp only [b1, cond_true, decide_eq_true f1, decide_eq_true f2, decide_eq_true (Nat.le_refl 0), decide_eq_true (Int.le_refl 0), decide_true, Bool.and_self, c3, ZlQ st (pt nd.1) nd.2.1 (by omega) (by omega)]
   obtain ⟨g1, g2, g3, g4⟩ := hnext _ hv
   refine .inl ⟨_, rfl, ?_, ?_, ?_⟩
   ·exact ⟨rfl, rfl, rfl, rfl, g1, g2, rfl, g3, g4⟩
   ·dsimp only; omega
   ·intro z hz
    rw [hz, Zbh, hv]
  ·have b1 : (nd.1 == 1) = false := by rw [beq_eq_false_iff_ne]; exact o1
   by_cases o2 : nd.1 = 2
   ·have b2 : (nd.1 == 2) = true := by rw [o2]; rfl
    obtain ⟨w, t, hf⟩ := hF nd
    simp only [b1, b2, cond_true, cond_false, hf, Br.run]
    cases t with
    | false =>
     have hv : ZcL s' env' st nd = none := by unfold ZcL; rw [if_neg o1, if_pos o2, hf]; rfl
     refine .inr ⟨_, rfl, ?_⟩
     rw [Zbh, hv]
    | true =>
     have hv : ZcL s' env' st nd = some w := by unfold ZcL; rw [if_neg o1, if_pos o2, hf]; rfl
     simp only [Bool.not_true, cond_false, decide_eq_true f1, decide_eq_true f2, decide_eq_true (Nat.le_refl 0), decide_eq_true (Int.le_refl 0), decide_true, Bool.and_self, c3, cond_true, ZlQ st (pt nd.1) w (by omega) (by omega)]
     obtain ⟨g1, g2, g3, g4⟩ := hnext _ hv
     refine .inl ⟨_, rfl, ?_, ?_, ?_⟩
     ·exact ⟨rfl, rfl, rfl, rfl, g1, g2, rfl, g3, g4⟩
     ·dsimp only; omega
     ·intro z hz
      rw [hz, Zbh, hv]
   ·have b2 : (nd.1 == 2) = false := by rw [beq_eq_false_iff_ne]; exact o2
    have hpos : 1 <= pt nd.1 := by
     have := p1
     unfold pt at this ⊢
     simp only [o1, o2, ↓reduceIte] at this ⊢
     repeat' split
     all_goals first | omega | (simp only [*, ↓reduceIte] at this; omega)
    have hlen : (st.drop (st.length - (pt nd.1).toNat)).length = (pt nd.1).toNat := by
     rw [List.length_drop]; omega
    obtain ⟨w, t, hf⟩ := ZtS nd.1 (st.drop (st.length - (pt nd.1).toNat)) (by omega) hpos hlen
    simp only [b1, b2, cond_true, cond_false, c2, pop_eq st (pt nd.1) (by omega) (by omega), hf, Br.run]
    cases t with
    | false =>
     have hv : ZcL s' env' st nd = none := by unfold ZcL; rw [if_neg o1, if_neg o2, hf]; rfl
     refine .inr ⟨_, rfl, ?_⟩
     rw [Zbh, hv]
    | true =>
     have hv : ZcL s' env' st nd = some w := by unfold ZcL; rw [if_neg o1, if_neg o2, hf]; rfl
     simp only [Bool.not_true, cond_false, decide_eq_true f1, decide_eq_true f2, decide_eq_true (Nat.le_refl 0), decide_eq_true (Int.le_refl 0), decide_true, Bool.and_self, c3, cond_true, ZlQ st (pt nd.1) w (by omega) (by omega)]
     obtain ⟨g1, g2, g3, g4⟩ := hnext _ hv
     refine .inl ⟨_, rfl, ?_, ?_, ?_⟩
     ·exact ⟨rfl, rfl, rfl, rfl, g1, g2, rfl, g3, g4⟩
     ·dsimp only; omega
     ·intro z hz
      rw [hz, Zbh, hv]
 ·simp only [Br.run, decide_eq_false hi, cond_false]
  have : l'.drop i.toNat = [] := List.drop_eq_nil_of_le (by omega)
  rw [this]
  exact .inr ⟨_, rfl, rfl⟩
theorem ZmX {s : Sch} {env : List Bnd} : ∀ (l : List Nd) (st st' : List Val), Zbs st.length l = some 1 -> Zbh s env st l = some st' -> st'.length = 1
 | [], st, st', h, h2 => by
  simp only [Zbs, Zbh, Option.some.injEq] at h h2
  subst h2; omega
 | n :: r, st, st', h, h2 => by
  simp only [Zbs] at h
  have p1 : ¬ pt n.1 < 0 := fun q => by simp only [q, ↓reduceIte] at h; cases h
  simp only [p1, ↓reduceIte] at h
  have p2 : ¬ ZbE n = false := fun q => by simp only [q, ↓reduceIte] at h; cases h
  simp only [p2, ↓reduceIte] at h
  have p3 : ¬ (st.length : Int) < pt n.1 := fun q => by simp only [q, ↓reduceIte] at h; cases h
  simp only [p3, ↓reduceIte] at h
  simp only [Zbh] at h2
  cases hv : ZcL s env st n with
  | none => rw [hv] at h2; cases h2
  | some v =>
   rw [hv] at h2
   refine ZmX r _ _ ?_ h2
   have e : (((st.take (st.length - (pt n.1).toNat) ++ [v]).length : Nat) : Int) = st.length + 1 - pt n.1 := by
    rw [List.length_append, List.length_take, List.length_singleton]; omega
   rw [e]
   exact h
theorem ZoC {s : Sch} {env : List Bnd} (hF : FvTot s env) (l : List Nd) :
  evalE (s, l, env, ()) = some (if l.length <= 64 /\ Zbs 0 l = some 1 then (match Zbh s env [] l with | some st => (st.getD 0 zV, true) | none => (zV, false)) else (zV, false), ()) := by
 unfold evalE ZsA
 simp only [Br.run, mayT_at]
 by_cases hm : l.length <= 64 /\ Zbs 0 l = some 1
 ·obtain ⟨hl, hr⟩ := hm
  have e : (!(decide (l.length <= 64) && (Zbs 0 l == some 1))) = false := by simp [hl, hr]
  simp only [e, cond_false]
  rw [ZqV hF l hl _ 0 [] (by omega) (by omega) (by simp) (by
   show Zbs 0 (l.drop (Int.toNat 0)) ≠ none
   rw [Int.toNat_zero, List.drop_zero, hr]; exact fun h => by cases h)]
  rw [Int.toNat_zero, List.drop_zero, if_pos ⟨hl, hr⟩]
  cases hf : Zbh s env [] l with
  | none => rfl
  | some st =>
   have h1 := ZmX l [] st hr hf
   match st, h1 with
   | [v], _ => rfl
 ·rw [if_neg hm]
  have e : (!(decide (l.length <= 64) && (Zbs 0 l == some 1))) = true := by
   simp only [Bool.not_eq_true', Bool.and_eq_false_iff, decide_eq_false_iff_not]
   by_cases h : l.length <= 64
   ·right
    rw [beq_eq_false_iff_ne]
    exact fun q => hm ⟨h, q⟩
   ·exact .inl h
  simp only [e, cond_true]
end Go.Proofs.YtkbdofnbagmlfaaGreat

namespace Go.Proofs.YtkbdofnbagmlfaaGreat
set_option maxRecDepth 100000
open Go.PI Go
noncomputable section
def typesR_B : Unit -> Br (Zcc × Unit) := fun (()) =>
 (.ret ([({ data := #[65] }, [({ data := #[120] }, 1), ({ data := #[115] }, 2)]), ({ data := #[66] }, [({ data := #[120] }, 1), ({ data := #[115] }, 2)]), ({ data := #[67] }, [({ data := #[115] }, 2), ({ data := #[120] }, 1), ({ data := #[98] }, 3)])], ()))
def typesR := fun x => (typesR_B x).run
abbrev Zlv : List (Bool × Pat) := []
abbrev Zjm : List Pat := [.ty false (.sl (.st (.pair .str ZbP)))]
theorem Zh1 : OC Tryz.prog 7 Zlv Zjm typesR := OC.lp ZcI 1024 Tryz.func7 [] (by kernel_rfl) trivial (fun _ => by kernel_rfl)
def cx_typesR : Ctx := ocx cx_cmpStr Zh1
theorem ZuA : EnvFull Tryz.prog cx_typesR := ocn ZcI Zh1
def ZrM : (Zcc × (Int × (Int × (Zcc × Unit)))) -> Br ((Zcc × (Int × (Int × (Zcc × Unit)))) ⊕ ((Int × Unit) ⊕ (Zcc × Unit))) := fun (a, b, c, d, ()) =>
 (.cond (decide (c < b))
 (.cond (decide (0 <= c) && decide (c < (a.length : Int)))
 (.opt (nameF ((a.getD c.toNat (ByteArray.empty, [])).1, ())) fun e =>
 (.cond (!e.1)
 (.ret (.inr (.inl (1, ()))))
 (.opt (fieldsF ((a.getD c.toNat (ByteArray.empty, [])).2, ())) fun f =>
 (.cond (!f.1)
 (.ret (.inr (.inl (1, ()))))
 (.opt (findF (some d, (a.getD c.toNat (ByteArray.empty, [])).1, ())) fun g =>
 (.cond g.1.2
 (.ret (.inr (.inl (4, ()))))
 (.opt (cloneField ((a.getD c.toNat (ByteArray.empty, [])).2, ())) fun h =>
 (.cond (decide ((List.length d + List.length (List.set (List.replicate 1 (ByteArray.empty, [])) 0 ((a.getD c.toNat (ByteArray.empty, [])).1, h.1))) * 40 <= 140737488355328))
 (.ret (.inl (a, b, IntKind.wrap .i64 (c + 1), d ++ List.set (List.replicate 1 (ByteArray.empty, [])) 0 ((a.getD c.toNat (ByteArray.empty, [])).1, h.1), ())))
 (.no)))))))))
 (.no))
 (.ret (.inr (.inr (d, ())))))
def newS_w0 := Zag fun x => (ZrM x).run
def newS_B : (Zcc × Unit) -> Br (((Option Zcc) × Int) × Unit) := fun (p0, ()) =>
 (.cond (decide ((p0.length : Int) > 16))
 (.ret ((none, 5), ()))
 (.opt (newS_w0 (p0, (p0.length : Int), 0, [], ())) fun a =>
 (.sum a (fun b =>
 (.ret ((none, b.1), ()))) (fun c =>
 (.ret ((some c.1, 0), ()))))))
def newS := fun x => (newS_B x).run
abbrev ZqK : List (Bool × Pat) := [(false, .ty true (.sl (.st (.pair .str ZbP))))]
abbrev Zmq : List Pat := [.ty false Zfj, .ty false (.int .i64)]
def newS_L : List Lp := [
 .mk 5 (shX 55 [(4, .c (.ref 1037 0 0))] [(1037, [(.mfull 1724)]), (1724, [])] [.slot 14 true (.sl (.st (.pair .str ZbP))), sI 15, sI 16, .ar 1724 false 61 (.st (.pair .str ZbP))] ⟨[(4, .keep), (14, .as true (.sl (.st (.pair .str ZbP)))), (15, .as false (.int .i64)), (16, .as false (.int .i64))], [(13, 0, .row 700 false 61 (.st (.pair .str ZbP)))], [(13, false), (700, false)]⟩) ([exO .ret 55 [(2, D.c .nilp)] [] [sI 3] [], exX (.exit 0) 55 [(4, .c (.ref 1037 0 0))] [(1037, [(.mfull 1725)]), (1725, [])] [.ar 1725 false 61 (.st (.pair .str ZbP))] ⟨[(4, .keep)], [(13, 0, .row 701 false 61 (.st (.pair .str ZbP)))], [(13, false), (701, false)]⟩]) ZrM]
theorem newS_oc : OC Tryz.prog 6 ZqK Zmq newS := OC.lp ZuA 1024 Tryz.func6 newS_L (by kernel_rfl) ⟨fun _ => by kernel_rfl, trivial⟩ (fun _ => by kernel_rfl)
end
end Go.Proofs.YtkbdofnbagmlfaaGreat
