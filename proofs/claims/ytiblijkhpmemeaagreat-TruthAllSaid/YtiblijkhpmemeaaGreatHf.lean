/- Parts that the statements of guards and of steps share: trees, queries' parts, events. The reference's predicates: whatever is asked, an answer. Queries that are made: how often their elements must be there, and may; the first one must. Abbreviations of types, for the printed texts. Abbreviations of types, for the printed texts. The context of law 23's first statement. Contracts of functions. Printed by auto.py. -/
import Derived.Test.YtiblijkhpmemeaaGreatHe
import Derived.Test.YtiblijkhpmemeaaGreatR7a
import Derived.Test.YtiblijkhpmemeaaGreatHd
import Derived.Test.YtiblijkhpmemeaaGreatHa
import Derived.Test.YtiblijkhpmemeaaGreatHc
import Derived.Test.YtiblijkhpmemeaaGreatGe
import Derived.Test.YtiblijkhpmemeaaGreatR3b
namespace Go.Proofs.YtiblijkhpmemeaaGreat
open Go.PI Go
theorem getD_lt {α : Type} (l : List α) (i : Nat) (d : α) (h : i < l.length) : l.getD i d = l[i] := by simp [List.getD, h]
abbrev evZ : Evt := (ByteArray.empty, ByteArray.empty, 0, 0, [])
def BT {α : Type} (P : α → Prop) (b : Br α) : Prop := ∃ y, b.run = some y ∧ P y
theorem BT.ret {α : Type} {P : α → Prop} {y : α} (h : P y) : BT P (.ret y) := ⟨y, rfl, h⟩
theorem BT.fls {α : Type} {P : α → Prop} {a b : Br α} (h : BT P b) : BT P (.cond false a b) := h
theorem BT.yes {α : Type} {P : α → Prop} {c : Bool} {a : Br α} (hc : c = true) (h : BT P a) : BT P (.cond c a .no) := by subst hc; exact h
theorem BT.cond {α : Type} {P : α → Prop} {c : Bool} {a b : Br α} (h : c = true → BT P a) (k : c = false → BT P b) : BT P (.cond c a b) := by
 cases c
 ·exact k rfl
 ·exact h rfl
theorem BT.opt {α β : Type} {P : α → Prop} {o : Option β} {k : β → Br α} (h : ∃ v, o = some v ∧ BT P (k v)) : BT P (.opt o k) := by
 obtain ⟨v, rfl, h⟩ := h
 exact h
theorem BT.inl {α β : Type} {b : Br (α ⊕ β)} {P : α → Prop} (h : BT (fun y => ∃ x, y = .inl x ∧ P x) b) : ∃ x, b.run = some (.inl x) ∧ P x := by
 obtain ⟨y, hy, x, rfl, h⟩ := h
 exact ⟨x, hy, h⟩
theorem BT.inr {α β : Type} {b : Br (α ⊕ β)} {P : β → Prop} (h : BT (fun y => ∃ x, y = .inr x ∧ P x) b) : ∃ x, b.run = some (.inr x) ∧ P x := by
 obtain ⟨y, hy, x, rfl, h⟩ := h
 exact ⟨x, hy, h⟩
theorem BT.suml {α β γ : Type} {P : α → Prop} {c : β} {k : β → Br α} {l : γ → Br α} (h : BT P (k c)) : BT P (.sum (.inl c) k l) := h
theorem BT.sumr {α β γ : Type} {P : α → Prop} {c : γ} {k : β → Br α} {l : γ → Br α} (h : BT P (l c)) : BT P (.sum (.inr c) k l) := h
theorem typesQ_tot (m : Int) (h : 0 ≤ m) : ∃ l, typesQ (m, ()) = some (l, ()) ∧ l.length ≤ 1000 := by
 have h1 := Int.tmod_nonneg 6 h
 have h2 := Int.tmod_lt_of_pos m (show (0 : Int) < 6 by decide)
 unfold typesQ typesQ_B
 try unfold zAn
 try unfold zSh
 simp only [Br.run, cond_false]
 generalize Int.tmod m 6 = k at h1 h2
 obtain rfl | rfl | rfl | rfl | rfl | rfl : k = 0 ∨ k = 1 ∨ k = 2 ∨ k = 3 ∨ k = 4 ∨ k = 5 := by omega
 all_goals exact ⟨_, rfl, by decide⟩
theorem varsQ_at : varsQ () = some ([{ data := #[97] }, { data := #[98] }, { data := #[99] }, { data := #[101] }], ()) := rfl
end Go.Proofs.YtiblijkhpmemeaaGreat

namespace Go.Proofs.YtiblijkhpmemeaaGreat
open Go.PI Go
theorem getD_in {α : Type} (l : List α) (i : Nat) (d : α) (h : i < l.length) : l.getD i d = l[i] := by simp [List.getD, h]
theorem in64_0 : In64 0 := ⟨by decide, by decide⟩
theorem bothR_tot (op : Int) (a b : Val) (ha : In64 a.2.1) (hb : In64 b.2.1) : ∃ v t, bothR (op, a, b, ()) = some ((v, t), ()) ∧ In64 v.2.1 := by
 suffices h : BT (fun y : (Val × Bool) × Unit => In64 y.1.1.2.1) (bothR_B (op, a, b, ())) by
  obtain ⟨⟨⟨v, t⟩, ⟨⟩⟩, h1, h2⟩ := h
  exact ⟨v, t, h1, h2⟩
 unfold bothR_B
 dsimp only
 repeat' first
  | (with_reducible exact BT.ret in64_0)
  | (with_reducible exact BT.ret (wrap_in64 _))
  | (with_reducible refine BT.cond (fun _ => ?_) (fun _ => ?_))
  | (refine BT.opt ⟨_, fitsR_add ha hb, ?_⟩)
  | (refine BT.opt ⟨_, fitsR_sub ha hb, ?_⟩)
  | (refine BT.opt ⟨_, productR_at ha hb, ?_⟩)
theorem placeR_w0_tot (e : Evt) (f : ByteArray) (L : List ByteArray) (hL : L.length ≤ 100) : ∃ z, placeR_w0 (f, 0, e, L, ()) = some z ∧ ∀ i, z = .inl (i, ()) → 0 ≤ i ∧ i < e.2.2.2.2.length := by
 refine iterO_rec (step := fun x => (placeR_l0 x).run) (Q := fun _ z => ∀ i, z = .inl (i, ()) → 0 ≤ i ∧ i < e.2.2.2.2.length) (fun y => ∃ i : Int, y = (f, i, e, L, ()) ∧ 0 ≤ i ∧ i ≤ L.length) (fun y => ((L.length : Int) - y.2.1).toNat) ?_ _ ⟨0, rfl, Int.le_refl 0, by omega⟩
 rintro y ⟨i, rfl, h0, h1⟩
 unfold placeR_l0
 dsimp only
 by_cases hi : i < (L.length : Int)
 ·by_cases hv : i < (e.2.2.2.2.length : Int)
  ·have hw : IntKind.wrap .i64 (i + 1) = i + 1 := Go.PI.wrap_small (by omega) (by omega)
   simp only [Br.run, decide_eq_true hi, decide_eq_true hv, decide_eq_true h0, Bool.and_self, cond_true, hw, cond_eq_ite]
   by_cases hc : (bl (L.getD i.toNat ByteArray.empty) == bl f) = true <;> simp only [hc, ↓reduceIte, Bool.false_eq_true]
   ·refine .inr ⟨_, rfl, fun j e => ?_⟩
    injection e with e
    injection e with e _
    subst e
    exact ⟨h0, hv⟩
   ·exact .inl ⟨_, rfl, ⟨i + 1, rfl, by omega, by omega⟩, by dsimp only; omega, fun z hz => hz⟩
  ·simp only [Br.run, decide_eq_true hi, decide_eq_false hv, cond_true, cond_false]
   exact .inr ⟨_, rfl, fun j e => by cases e⟩
 ·simp only [Br.run, decide_eq_false hi, cond_false]
  exact .inr ⟨_, rfl, fun j e => by cases e⟩
theorem placeR_tot (e : Evt) (f : ByteArray) : ∃ i : Int, placeR (e, f, ()) = some (i, ()) ∧ (i < 0 ∨ 0 ≤ i ∧ i < e.2.2.2.2.length) := by
 unfold placeR placeR_B
 have key : ∀ L : List ByteArray, L.length ≤ 100 → ∃ i : Int, (Br.opt (placeR_w0 (f, 0, e, L, ())) fun z => Br.sum z (fun u : Int × Unit => Br.ret (u.1, ())) (fun _ => Br.ret (-1, ()))).run = some (i, ()) ∧ (i < 0 ∨ 0 ≤ i ∧ i < e.2.2.2.2.length) := by
  intro L hL
  obtain ⟨z, hz, h⟩ := placeR_w0_tot e f L hL
  simp only [Br.run, hz]
  rcases z with ⟨i, ⟨⟩⟩ | ⟨⟩
  ·exact ⟨i, rfl, .inr (h i rfl)⟩
  ·exact ⟨-1, rfl, .inl (by decide)⟩
 dsimp only
 cases hc : bl e.1 == bl ({ data := #[67] } : ByteArray)
 ·exact key _ (by simp)
 ·exact key _ (by simp)
def EnvIn (env : List Bnd) : Prop := ∀ b ∈ env, ∀ v ∈ b.2.2.2.2.2, In64 v.2.1
abbrev bZ : Bnd := (ByteArray.empty, ByteArray.empty, ByteArray.empty, 0, 0, [])
theorem evalR_w0_tot (env : List Bnd) (he : env.length ≤ 1000) (hi : EnvIn env) (at' : Int) (n : Nd) : ∃ z, evalR_w0 (env, at', 0, (0, 0, ByteArray.empty, false), n, ()) = some z ∧ ((∃ t v, z = .inl (t, at', v, ()) ∧ In64 v.2.1) ∨ ∃ v, z = .inr (at', v, ())) := by
 refine iterO_rec (step := fun x => (evalR_l0 x).run) (Q := fun _ z => (∃ t v, z = .inl (t, at', v, ()) ∧ In64 v.2.1) ∨ ∃ v, z = .inr (at', v, ())) (fun y => ∃ i : Int, y = (env, at', i, (0, 0, ByteArray.empty, false), n, ()) ∧ 0 ≤ i ∧ i ≤ env.length) (fun y => ((env.length : Int) - y.2.2.1).toNat) ?_ _ ⟨0, rfl, Int.le_refl 0, by omega⟩
 rintro y ⟨i, rfl, h0, h1⟩
 unfold evalR_l0
 dsimp only
 by_cases hc : i < (env.length : Int)
 ·have hw : IntKind.wrap .i64 (i + 1) = i + 1 := Go.PI.wrap_small (by omega) (by omega)
  have hlt : i.toNat < env.length := by omega
  have hm : env.getD i.toNat bZ ∈ env := by rw [show env.getD i.toNat bZ = env[i.toNat] by simp [List.getD, hlt]]; exact List.getElem_mem hlt
  obtain ⟨k, hk, hkk⟩ := placeR_tot (env.getD i.toNat bZ).2 n.2.2.2
  simp only [Br.run, decide_eq_true hc, decide_eq_true h0, Bool.and_self, cond_true, hw, cond_eq_ite]
  by_cases hb : (bl (env.getD i.toNat bZ).1 == bl n.2.2.1) = true <;> simp only [hb, ↓reduceIte, Bool.false_eq_true]
  ·refine .inr ?_
   rcases hkk with h | ⟨k0, k1⟩
   ·simp only [Br.run, hk, decide_eq_true h, ↓reduceIte]
    exact ⟨_, rfl, .inl ⟨_, _, rfl, in64_0⟩⟩
   ·have hn : ¬ k < 0 := by omega
    have klt : k.toNat < (env.getD i.toNat bZ).2.2.2.2.2.length := by omega
    simp only [Br.run, hk, decide_eq_false hn, Bool.false_eq_true, decide_eq_true k0, decide_eq_true k1, Bool.and_self, ↓reduceIte]
    refine ⟨_, rfl, .inl ⟨_, _, rfl, ?_⟩⟩
    have : (env.getD i.toNat bZ).2.2.2.2.2.getD k.toNat (0, 0, ByteArray.empty, false) = (env.getD i.toNat bZ).2.2.2.2.2[k.toNat] := getD_in _ _ _ klt
    rw [this]
    exact hi _ hm _ (List.getElem_mem klt)
  ·exact .inl ⟨_, rfl, ⟨i + 1, rfl, by omega, by omega⟩, by dsimp only; omega, fun z hz => hz⟩
 ·simp only [Br.run, decide_eq_false hc, cond_false]
  exact .inr ⟨_, rfl, .inr ⟨_, rfl⟩⟩
theorem partsR_tot (op : Int) : ∃ k, partsR (op, ()) = some (k, ()) := by
 unfold partsR partsR_B
 simp only [Br.run, cond_eq_ite]
 repeat' split
 all_goals exact ⟨_, rfl⟩
def NIn (l : List Nd) : Prop := ∀ n ∈ l, In64 n.2.1.2.1
theorem evalR_tot (l : List Nd) (hl : l.length ≤ 1000) (hn : NIn l) (env : List Bnd) (he : env.length ≤ 1000) (hi : EnvIn env) : ∀ (k : Nat) (i : Int), -1 ≤ i → i < l.length → i + 2 ≤ k →
  ∃ v t f, evalR_k k (l, env, i, ()) = some ((v, t, f), ()) ∧ In64 v.2.1 ∧ 0 ≤ f ∧ (f ≤ i ∨ f = 0)
 | 0, i, h0, h1, h2 => by omega
 | k + 1, i, h0, h1, h2 => by
  suffices h : BT (fun y : (Val × (Bool × Int)) × Unit => In64 y.1.1.2.1 ∧ 0 ≤ y.1.2.2 ∧ (y.1.2.2 ≤ i ∨ y.1.2.2 = 0)) (evalR_B (evalR_k k) (l, env, i, ())) by
   obtain ⟨⟨⟨v, t, f⟩, ⟨⟩⟩, a, b⟩ := h
   exact ⟨v, t, f, a, b⟩
  unfold evalR_B
  dsimp only
  by_cases hneg : i < 0
  ·rw [show decide (i < 0) = true from decide_eq_true hneg]
   exact ⟨_, rfl, in64_0, Int.le_refl 0, .inr rfl⟩
  ·have g0 : 0 ≤ i := by omega
   have hlt : i.toNat < l.length := by omega
   have hm : In64 (l.getD i.toNat (0, (0, 0, ByteArray.empty, false), ByteArray.empty, ByteArray.empty)).2.1.2.1 := by
    have : l.getD i.toNat (0, (0, 0, ByteArray.empty, false), ByteArray.empty, ByteArray.empty) = l[i.toNat] := by simp [List.getD, hlt]
    rw [this]
    exact hn _ (List.getElem_mem hlt)
   generalize l.getD i.toNat (0, (0, 0, ByteArray.empty, false), ByteArray.empty, ByteArray.empty) = n at hm ⊢
   have hw : IntKind.wrap .i64 (i - 1) = i - 1 := Go.PI.wrap_small (by omega) (by omega)
   obtain ⟨p, hp⟩ := partsR_tot n.1
   obtain ⟨v1, t1, f1, e1, a1, b1, c1⟩ := evalR_tot l hl hn env he hi k (i - 1) (by omega) (by omega) (by omega)
   have hw2 : IntKind.wrap .i64 (f1 - 1) = f1 - 1 := Go.PI.wrap_small (by omega) (by omega)
   obtain ⟨v2, t2, f2, e2, a2, b2, c2⟩ := evalR_tot l hl hn env he hi k (f1 - 1) (by omega) (by omega) (by omega)
   obtain ⟨w, t3, e3, a3⟩ := bothR_tot n.1 v2 v1 a2 a1
   obtain ⟨z, hz, hzz⟩ := evalR_w0_tot env he hi i n
   rw [hw]
   rw [show decide (i < 0) = false from decide_eq_false hneg]
   refine BT.fls (BT.yes (by simp; omega) (BT.opt ⟨_, hp, ?_⟩))
   have fin : f1 ≤ i ∨ f1 = 0 := by omega
   have fin2 : f2 ≤ i ∨ f2 = 0 := by omega
   refine BT.cond (fun _ => BT.cond (fun _ => BT.ret ⟨hm, g0, .inl (Int.le_refl i)⟩) (fun _ => BT.opt ⟨_, hz, ?_⟩)) (fun _ => BT.cond (fun _ => BT.opt ⟨_, e1, ?_⟩) (fun _ => BT.opt ⟨_, e1, ?_⟩))
   ·rcases hzz with ⟨t, v, rfl, hv⟩ | ⟨v, rfl⟩
    ·exact BT.ret ⟨hv, g0, .inl (Int.le_refl i)⟩
    ·exact BT.ret ⟨in64_0, g0, .inl (Int.le_refl i)⟩
   ·dsimp only
    repeat' first
     | (with_reducible exact BT.ret ⟨in64_0, b1, fin⟩)
     | (with_reducible exact BT.ret ⟨wrap_in64 _, b1, fin⟩)
     | (with_reducible refine BT.cond (fun _ => ?_) (fun _ => ?_))
   ·dsimp only
    rw [hw2]
    refine BT.opt ⟨_, e2, ?_⟩
    dsimp only
    repeat' first
     | (with_reducible exact BT.ret ⟨in64_0, b2, fin2⟩)
     | (with_reducible refine BT.cond (fun _ => ?_) (fun _ => ?_))
     | (refine BT.opt ⟨_, e3, BT.ret ⟨a3, b2, fin2⟩⟩)
theorem holdsR_tot (l : List Nd) (hl : l.length ≤ 1000) (hn : NIn l) (env : List Bnd) (he : env.length ≤ 1000) (hi : EnvIn env) : ∃ b, holdsR (l, env, ()) = some (b, ()) := by
 unfold holdsR holdsR_B
 by_cases h0 : l.length = 0
 ·have : ((l.length : Int) == 0) = true := by rw [h0]; rfl
  simp only [Br.run, this, cond_true]
  exact ⟨_, rfl⟩
 ·have e0 : ((l.length : Int) == 0) = false := beq_eq_false_iff_ne.2 (by omega)
  have hw : IntKind.wrap .i64 ((l.length : Int) - 1) = (l.length : Int) - 1 := Go.PI.wrap_small (by omega) (by omega)
  obtain ⟨v, t, f, e1, -⟩ := evalR_tot l hl hn env he hi (((l.length : Int) - 1).toNat + 3) ((l.length : Int) - 1) (by omega) (by omega) (by omega)
  have e1' : evalRF (l, env, (l.length : Int) - 1, ()) = some ((v, t, f), ()) := e1
  simp only [Br.run, e0, cond_false, hw, e1', cond_eq_ite]
  repeat' split
  all_goals exact ⟨_, rfl⟩
end Go.Proofs.YtiblijkhpmemeaaGreat

namespace Go.Proofs.YtiblijkhpmemeaaGreat
open Go.PI Go
def NdsIn (l : List Nd) : Prop := ∀ n ∈ l, -9223372036854775808 ≤ n.2.1.2.1 ∧ n.2.1.2.1 ≤ 9223372036854775807
def EOk (i : Int) (e : Elm) : Prop := e.2.1.length ≤ 1000 ∧ 1 ≤ e.2.2.2.1 ∧ e.2.2.2.1 ≤ e.2.2.2.2.1 ∧ e.2.2.2.2.1 ≤ 3 ∧ (e.2.2.1 = true → 0 < i) ∧ e.2.2.2.2.2.length ≤ 1000 ∧ NdsIn e.2.2.2.2.2
theorem eok_one (i : Int) (v : ByteArray) (ts : List ByteArray) (neg : Bool) (p : List Nd) (ht : ts.length ≤ 1000) (hp : p.length ≤ 1000 ∧ NdsIn p) (hn : neg = true → 0 < i) : EOk i (v, ts, neg, 1, 1, p) := ⟨ht, Int.le_refl _, Int.le_refl _, by dsimp only; omega, hn, hp⟩
theorem eok_some (i : Int) (v : ByteArray) (ts : List ByteArray) (neg : Bool) (p : List Nd) (a b : Int) (ht : ts.length ≤ 1000) (hp : p.length ≤ 1000 ∧ NdsIn p) (hn : neg = true → 0 < i) :
  EOk i (v, ts, neg, IntKind.wrap .i64 (IntKind.wrap .i64 (↑(BitVec.toNat (BitVec.ofInt (IntKind.bits .i64) a &&& BitVec.ofInt (IntKind.bits .i64) 1)) : Int) + 1),
   IntKind.wrap .i64 (IntKind.wrap .i64 (IntKind.wrap .i64 (↑(BitVec.toNat (BitVec.ofInt (IntKind.bits .i64) a &&& BitVec.ofInt (IntKind.bits .i64) 1)) : Int) + 1) + IntKind.wrap .i64 (↑(BitVec.toNat (BitVec.ofInt (IntKind.bits .i64) b &&& BitVec.ofInt (IntKind.bits .i64) 1)) : Int)), p) := by
 have h1 := mask_in a 1 (by decide) (by decide)
 have h2 := mask_in b 1 (by decide) (by decide)
 generalize IntKind.wrap IntKind.i64 (↑(BitVec.toNat (BitVec.ofInt (IntKind.bits IntKind.i64) a &&& BitVec.ofInt (IntKind.bits IntKind.i64) 1)) : Int) = x at h1 ⊢
 generalize IntKind.wrap IntKind.i64 (↑(BitVec.toNat (BitVec.ofInt (IntKind.bits IntKind.i64) b &&& BitVec.ofInt (IntKind.bits IntKind.i64) 1)) : Int) = y at h2 ⊢
 have e1 : IntKind.wrap .i64 (x + 1) = x + 1 := Go.PI.wrap_small (by omega) (by omega)
 rw [e1]
 have e2 : IntKind.wrap .i64 (x + 1 + y) = x + 1 + y := Go.PI.wrap_small (by omega) (by omega)
 rw [e2]
 refine ⟨ht, ?_, ?_, ?_, hn, hp⟩ <;> dsimp only <;> omega
theorem predQ_tot2 (x : Int) (v o : ByteArray) : ∃ l, predQ (x, v, o, ()) = some (l, ()) ∧ l.length ≤ 1000 ∧ NdsIn l := by
 unfold predQ predQ_B fieldQ fieldQ_B numQ numQ_B
 try unfold zAn
 try unfold zSh
 simp only [Br.run, cond_false, cond_eq_ite, Bool.false_eq_true, ↓reduceIte]
 have hm := mask_in (Int.fdiv x (2 ^ min (Int.toNat 4) (IntKind.bits IntKind.i64))) 3 (by decide) (by decide)
 generalize IntKind.wrap IntKind.i64 (↑(BitVec.toNat (BitVec.ofInt (IntKind.bits IntKind.i64) (Int.fdiv x (2 ^ min (Int.toNat 4) (IntKind.bits IntKind.i64))) &&& BitVec.ofInt (IntKind.bits IntKind.i64) 3)) : Int) = m at hm ⊢
 repeat' split
 all_goals refine ⟨_, rfl, of_decide_eq_true rfl, fun n hn => ?_⟩
 all_goals simp at hn
 all_goals (rcases hn with rfl | rfl | rfl | rfl | rfl | rfl | rfl | rfl <;> (dsimp only; omega))
def EsOk (l : List Elm) : Prop := ∀ (k : Nat) e, l[k]? = some e → EOk k e
theorem EsOk.snoc {l : List Elm} (h : EsOk l) {e : Elm} (he : EOk (l.length : Int) e) : EsOk (l ++ [e]) := by
 intro k u hu
 rcases Nat.lt_or_ge k l.length with hk | hk
 ·rw [List.getElem?_append_left hk] at hu
  exact h k u hu
 ·rw [List.getElem?_append_right hk] at hu
  have : k = l.length := by
   have := (List.getElem?_eq_some_iff.1 hu).1
   simp at this
   omega
  subst this
  rw [Nat.sub_self] at hu
  obtain rfl : e = u := by simpa using hu
  exact he
theorem EsOk.qok {q : Qry} (h : EsOk q.1) : QOk q := by
 intro e he
 obtain ⟨k, hk⟩ := List.getElem?_of_mem he
 exact (h k e hk).1
end Go.Proofs.YtiblijkhpmemeaaGreat

namespace Go.Proofs.YtiblijkhpmemeaaGreat
open Go.PI Go
abbrev zB1 : Type := (zA10 × ((List zA2) × zA23)) × (Int × ((List Int) × ((List (Int × Int)) × (zA21 × (Int × (Int × Unit))))))
abbrev zB2 : Type := (zA10 × ((List zA2) × zA23)) × (Int × (Int × ((List (Int × Int)) × (zA21 × (Int × (Int × Unit))))))
abbrev zB3 : Type := (zA10 × ((List zA2) × zA23)) × Unit
abbrev zB4 : Type := (List (Int × Int)) × (zA21 × (Int × (Int × ((List zA1) × (Int × (Int × ((List zA2) × (Int × (Int × (zA1 × (zA23 × Unit)))))))))))
abbrev zB5 : Type := (List zA1) × (Int × (Int × ((List zA2) × (zA23 × Unit))))
abbrev zB6 : Type := (List zA1) × (Int × (Int × ((List zA2) × (Int × (Int × (zA23 × Unit))))))
end Go.Proofs.YtiblijkhpmemeaaGreat

namespace Go.Proofs.YtiblijkhpmemeaaGreat
open Go.PI Go
abbrev zT1 : Type := (Option zA11) × (zA10 × ((List zA2) × zA23))
abbrev zT2 : Type := (List (Int × Int)) × (Int × Unit)
abbrev zT3 : Type := Int × ((Option zA11) × ((List zA1) × (Int × (Int × ((List zA2) × ((List (Int × Int)) × (zA23 × Unit)))))))
abbrev zT4 : Type := Int × (Int × (Int × ((List zA2) × Unit)))
abbrev zT6 : Type := Int × (Int × (zA10 × Unit))
abbrev zT5 : Type := (Option zA11) × ((List zA2) × ((List (Int × Int)) × (Int × (Int × (Int × ((List Int) × zT6))))))
abbrev zT7 : Type := Int × (Int × (zA23 × Unit))
abbrev zT8 : Type := (Option zA11) × ((List zA2) × ((List (Int × Int)) × ((List (Int × Int)) × zT6)))
abbrev zT9 : Type := (List zA2) × ((List (Int × Int)) × (zA10 × Unit))
abbrev zT10 : Type := (List zA2) × ((List (Int × Int)) × (Int × (Int × zT6)))
abbrev zT11 : Type := (Option zA11) × ((List zA2) × ((List (Int × Int)) × (Int × (Int × (Int × (Int × (Int × ((List Int) × zT6))))))))
abbrev zT12 : Type := (List zA2) × (Int × ((List (Int × Int)) × (Int × (Int × (zA10 × (zA21 × Unit))))))
end Go.Proofs.YtiblijkhpmemeaaGreat

namespace Go.Proofs.YtiblijkhpmemeaaGreat
open Go.PI Go
noncomputable def cxP1 : Ctx := addO cx_blocksG 6 (ocOrc newS_ins newS_outs newS)
theorem enP1 : EnvFull Tryz.prog cxP1 := env_add en_blocksG newS_oc.callOk
noncomputable def cxP2 : Ctx := addO cxP1 7 (ocOrc typesR_ins typesR_outs typesR)
theorem enP2 : EnvFull Tryz.prog cxP2 := env_add enP1 typesR_oc.callOk
noncomputable def cxP3 : Ctx := addO cxP2 8 (ocOrc queryQ_ins queryQ_outs queryQ)
theorem enP3 : EnvFull Tryz.prog cxP3 := env_add enP2 queryQ_oc.callOk
end Go.Proofs.YtiblijkhpmemeaaGreat

namespace Go.Proofs.YtiblijkhpmemeaaGreat
set_option maxRecDepth 100000
open Go.PI Go
noncomputable def beforeE_B : (zA2 × (zA2 × Unit)) → Br (Bool × Unit) := fun (p0, p1, ()) =>
 (.cond (decide (p0.2.2.1 < p1.2.2.1))
 (.ret (true, ()))
 (.cond (p0.2.2.1 == p1.2.2.1)
 (.ret (decide (p0.2.2.2.1 < p1.2.2.2.1), ()))
 (.ret (false, ()))))
noncomputable def beforeE := fun x => (beforeE_B x).run
theorem beforeE_oc : OC Tryz.prog 46 [(false, .ty true zA9), (false, .ty true zA9)] [.ty false .bool] beforeE := OC.lp ((env_add enP3 holdsR_oc.callOk)) 1024 Tryz.func46 [] (by kernel_rfl) trivial (fun _ => by kernel_rfl)
noncomputable def cx_beforeE : Ctx := ocx (addO cxP3 62 (ocOrc holdsR_ins holdsR_outs holdsR)) beforeE_oc
theorem en_beforeE : EnvFull Tryz.prog cx_beforeE := ocn ((env_add enP3 holdsR_oc.callOk)) beforeE_oc
noncomputable def sortE_l1 : zA28 → Br (zA28 ⊕ zA28) := fun (a, b, c, d, ()) =>
 (.cond (decide (c > 0))
 (.cond (decide (0 ≤ b) && decide (b < (↑(List.length a) : Int)))
 (.cond (decide (0 ≤ IntKind.wrap .i64 (c - 1)) && decide (IntKind.wrap .i64 (c - 1) < (↑(List.length d) : Int)))
 (.opt (beforeE (List.getD a (Int.toNat b) zV1, List.getD d (Int.toNat (IntKind.wrap .i64 (c - 1))) zV1, ())) fun e =>
 (.cond e.1
 (.ret (.inl (a, b, IntKind.wrap .i64 (c - 1), d, ())))
 (.ret (.inr (a, b, c, d, ())))))
 (.no))
 (.no))
 (.ret (.inr (a, b, c, d, ()))))
noncomputable def sortE_w1 := iterO fun x => (sortE_l1 x).run
noncomputable def sortE_l2 : ((List zA2) × zT4) → Br (((List zA2) × zT4) ⊕ zA28) := fun (a, b, c, d, e, ()) =>
 (.cond (decide (d > c))
 (.cond (decide (0 ≤ IntKind.wrap .i64 (d - 1)) && decide (IntKind.wrap .i64 (d - 1) < (↑(List.length e) : Int)))
 (.cond (decide (0 ≤ d) && decide (d < (↑(List.length e) : Int)))
 (.ret (.inl (a, b, c, IntKind.wrap .i64 (d - 1), List.set e (Int.toNat d) (List.getD e (Int.toNat (IntKind.wrap .i64 (d - 1))) zV1), ())))
 (.no))
 (.no))
 (.ret (.inr (a, b, c, e, ()))))
noncomputable def sortE_w2 := iterO fun x => (sortE_l2 x).run
noncomputable def sortE_l0 : ((List zA2) × (Int × ((List zA2) × Unit))) → Br (((List zA2) × (Int × ((List zA2) × Unit))) ⊕ ((List zA2) × Unit)) := fun (a, b, c, ()) =>
 (.cond (decide (b < (↑(List.length a) : Int)))
 (.opt (sortE_w1 (a, b, (↑(List.length c) : Int), c, ())) fun d =>
 (.cond (decide ((List.length d.2.2.2.1 + @List.length (ByteArray × ByteArray × Int × Int × List (Int × Int × ByteArray × Bool)) (List.set (List.replicate 1 zV1) 0 zV1)) * 72 ≤ 140737488355328))
 (.opt (sortE_w2 (d.1, d.2.1, d.2.2.1, IntKind.wrap .i64 ((↑(List.length (d.2.2.2.1 ++ List.set (List.replicate 1 zV1) 0 zV1)) : Int) - 1), d.2.2.2.1 ++ List.set (List.replicate 1 zV1) 0 zV1, ())) fun e =>
 (.cond (decide (0 ≤ e.2.1) && decide (e.2.1 < (↑(List.length e.1) : Int)))
 (.cond (decide (0 ≤ e.2.2.1) && decide (e.2.2.1 < (↑(List.length e.2.2.2.1) : Int)))
 (.ret (.inl (e.1, IntKind.wrap .i64 (e.2.1 + 1), List.set e.2.2.2.1 (Int.toNat e.2.2.1) (List.getD e.1 (Int.toNat e.2.1) zV1), ())))
 (.no))
 (.no)))
 (.no)))
 (.ret (.inr (c, ()))))
noncomputable def sortE_w0 := iterO fun x => (sortE_l0 x).run
noncomputable def sortE_B : ((List zA2) × Unit) → Br ((List zA2) × Unit) := fun (p0, ()) =>
 (.opt (sortE_w0 (p0, 0, [], ())) fun a =>
 (.ret (a.1, ())))
noncomputable def sortE := fun x => (sortE_B x).run
noncomputable def sortE_L : List Lp := [
 .mk 3 (shO 60 [(3, .c (.mfull 1724))] [(1724, [])] [.slot 0 false (.sl zA9), sI 4, .ar 1724 false 52 zA9] [3]) ([exO (.exit 0) 60 [(3, .c (.mfull 1727))] [(1727, [])] [.ar 1727 false 52 zA9] [3]]) sortE_l0,
 .mk 6 (shO 60 [(3, .c (.mfull 1725))] [(1725, [])] [.slot 0 false (.sl zA9), sI 4, sI 5, .ar 1725 false 52 zA9] [3]) ([exO (.exit 2) 60 [(3, .c (.mfull 1726))] [(1726, [])] [.slot 0 false (.sl zA9), sI 4, sI 5, .ar 1726 false 52 zA9] [3]]) sortE_l1,
 .mk 10 (shO 60 [(3, .c (.mfull 1059))] [(1059, [])] [.slot 0 false (.sl zA9), sI 4, sI 5, sI 6, .ar 1059 false 52 zA9] []) ([exO (.exit 4) 60 [(3, .c (.mfull 1059))] [(1059, [])] [.slot 0 false (.sl zA9), sI 4, sI 5, .ar 1059 false 52 zA9] []]) sortE_l2]
theorem sortE_oc : OC Tryz.prog 26 [(false, .ty false (.sl zA9))] [.ty false (.sl zA9)] sortE := OC.lp en_beforeE 1024 Tryz.func26 sortE_L (by kernel_rfl) ⟨fun _ => by kernel_rfl, fun _ => by kernel_rfl, fun _ => by kernel_rfl, trivial⟩ (fun _ => by kernel_rfl)
noncomputable def cx_sortE : Ctx := ocx cx_beforeE sortE_oc
theorem en_sortE : EnvFull Tryz.prog cx_sortE := ocn en_beforeE sortE_oc
noncomputable def events20_B : ((List zA2) × (Int × Unit)) → Br ((List zA2) × Unit) := fun (p0, p1, ()) =>
 (.opt (eventsR (p0, p1, ())) fun y4 =>
 (.opt (sortE (y4.1, ())) fun y5 =>
 (.ret (y5.1, ()))))
noncomputable def events20 := fun x => (events20_B x).run
theorem events20_oc : OC Tryz.prog 9 [(false, .ty true (.sl zA9)), (false, .ty false (.int .i64))] [.ty false (.sl zA9)] events20 := OC.lp en_sortE 1024 Tryz.func9 [] (by kernel_rfl) trivial (fun _ => by kernel_rfl)
noncomputable def cx_events20 : Ctx := ocx cx_sortE events20_oc
theorem en_events20 : EnvFull Tryz.prog cx_events20 := ocn en_sortE events20_oc
noncomputable def ofS_l0 : ((List ByteArray) × (ByteArray × (Int × Unit))) → Br (((List ByteArray) × (ByteArray × (Int × Unit))) ⊕ (Unit ⊕ Unit)) := fun (a, b, c, ()) =>
 (.cond (decide (c < (↑(List.length a) : Int)))
 (.cond (decide (0 ≤ c) && decide (c < (↑(List.length a) : Int)))
 (.cond (bl (List.getD a (Int.toNat c) ByteArray.empty) == bl b)
 (.ret (.inr (.inl (()))))
 (.ret (.inl (a, b, IntKind.wrap .i64 (c + 1), ()))))
 (.no))
 (.ret (.inr (.inr (())))))
noncomputable def ofS_w0 := iterO fun x => (ofS_l0 x).run
noncomputable def ofS_B : ((List ByteArray) × (ByteArray × Unit)) → Br (Bool × Unit) := fun (p0, p1, ()) =>
 (.opt (ofS_w0 (p0, p1, 0, ())) fun a =>
 (.sum a (fun b =>
 (.ret (true, ()))) (fun c =>
 (.ret (false, ())))))
noncomputable def ofS := fun x => (ofS_B x).run
noncomputable def ofS_L : List Lp := [
 .mk 2 (shO 18 [] [] [.slot 0 true (.sl .str), .slot 1 false .str, sI 5] []) ([exO .ret 18 [(4, D.c C.tt)] [] [] [], exO (.exit 0) 18 [] [] [] []]) ofS_l0]
theorem ofS_oc : OC Tryz.prog 61 [(false, .ty true (.sl .str)), (false, .ty false .str)] [.ty false .bool] ofS := OC.lp en_events20 1024 Tryz.func61 ofS_L (by kernel_rfl) ⟨fun _ => by kernel_rfl, trivial⟩ (fun _ => by kernel_rfl)
noncomputable def cx_ofS : Ctx := ocx cx_events20 ofS_oc
theorem en_ofS : EnvFull Tryz.prog cx_ofS := ocn en_events20 ofS_oc
noncomputable def fits20_B : (zA1 × (zA2 × (zA21 × Unit))) → Br (Bool × Unit) := fun (p0, p1, p2, ()) =>
 (.opt (ofS (p0.2.1, p1.1, ())) fun y5 =>
 (.cond y5.1
 (.cond (decide ((@List.length (ByteArray × ByteArray × ByteArray × Int × Int × List (Int × Int × ByteArray × Bool)) (List.replicate 0 zV3) + List.length p2) * 88 ≤ 140737488355328))
 (.cond (decide ((List.length (List.replicate 0 zV3 ++ p2) + List.length (List.set (List.replicate 1 zV3) 0 (p0.1, p1))) * 88 ≤ 140737488355328))
 (.opt (holdsR (p0.2.2.2.2.2, List.replicate 0 zV3 ++ p2 ++ List.set (List.replicate 1 zV3) 0 (p0.1, p1), ())) fun y6 =>
 (.ret (y6.1, ())))
 (.no))
 (.no))
 (.ret (false, ()))))
noncomputable def fits20 := fun x => (fits20_B x).run
theorem fits20_oc : OC Tryz.prog 32 [(false, .ty true zA19), (false, .ty true zA9), (false, .ty true zA35)] [.ty false .bool] fits20 := OC.lp en_ofS 1024 Tryz.func32 [] (by kernel_rfl) trivial (fun _ => by kernel_rfl)
noncomputable def cx_fits20 : Ctx := ocx cx_ofS fits20_oc
theorem en_fits20 : EnvFull Tryz.prog cx_fits20 := ocn en_ofS fits20_oc
noncomputable def nextF_l0 : (Int × ((zA10 × ((List zA2) × zA23)) × ((List Int) × Unit))) → Br ((Int × ((zA10 × ((List zA2) × zA23)) × ((List Int) × Unit))) ⊕ ((Int × ((List Int) × Unit)) ⊕ ((List Int) × Unit))) := fun (a, b, c, ()) =>
 (.cond (decide (a < (↑(List.length b.1.1) : Int)))
 (.cond (decide (0 ≤ a) && decide (a < (↑(List.length b.1.1) : Int)))
 (.cond (!(List.getD b.1.1 (Int.toNat a) zV2).2.2.1)
 (.ret (.inr (.inl (a, c, ()))))
 (.cond (decide ((List.length c + List.length (List.set (List.replicate 1 0) 0 a)) * 8 ≤ 140737488355328))
 (.ret (.inl (IntKind.wrap .i64 (a + 1), b, c ++ List.set (List.replicate 1 0) 0 a, ())))
 (.no)))
 (.no))
 (.ret (.inr (.inr (c, ())))))
noncomputable def nextF_w0 := iterO fun x => (nextF_l0 x).run
noncomputable def nextF_B : ((zA10 × ((List zA2) × zA23)) × (Int × Unit)) → Br ((Int × (List Int)) × Unit) := fun (p0, p1, ()) =>
 (.opt (nextF_w0 (IntKind.wrap .i64 (p1 + 1), p0, [], ())) fun a =>
 (.sum a (fun b =>
 (.ret ((b.1, b.2.1), ()))) (fun c =>
 (.ret ((-1, c.1), ())))))
noncomputable def nextF := fun x => (nextF_B x).run
noncomputable def nextF_L : List Lp := [
 .mk 3 (shO 34 [(2, .c (.ref 1026 0 0)), (6, .c (.mfull 1724))] [(1026, []), (1724, [])] [sI 7, .tv 1026 true (.st (.pair zA5 (.pair (.sl zA9) (.sl (.sl zA16))))), .ar 1724 false 3 (.int .i64)] [6]) ([exO .ret 34 [(5, .c (.mfull 1725))] [(1725, [])] [sI 4, .ar 1725 false 3 (.int .i64)] [5], exO (.exit 0) 34 [(6, .c (.mfull 1726))] [(1726, [])] [.ar 1726 false 3 (.int .i64)] [6]]) nextF_l0]
theorem nextF_oc : OC Tryz.prog 63 [(false, .ty true (.st (.pair zA5 (.pair (.sl zA9) (.sl (.sl zA16)))))), (false, .ty false (.int .i64))] [.ty false (.int .i64), .ty false (.sl (.int .i64))] nextF := OC.lp en_fits20 1024 Tryz.func63 nextF_L (by kernel_rfl) ⟨fun _ => by kernel_rfl, trivial⟩ (fun _ => by kernel_rfl)
noncomputable def cx_nextF : Ctx := ocx cx_fits20 nextF_oc
theorem en_nextF : EnvFull Tryz.prog cx_nextF := ocn en_fits20 nextF_oc
noncomputable def lessP_l0 : ((List (Int × Int)) × zT2) → Br (((List (Int × Int)) × zT2) ⊕ ((Bool × Unit) ⊕ ((List (Int × Int)) × zA31))) := fun (a, b, c, ()) =>
 (.cond (decide (c < (↑(List.length a) : Int)))
 (.cond (decide (c < (↑(List.length b) : Int)))
 (.cond (decide (0 ≤ c) && decide (c < (↑(List.length a) : Int)))
 (.cond (decide (0 ≤ c) && decide (c < (↑(List.length b) : Int)))
 (.cond ((List.getD a (Int.toNat c) (0, 0)).1 != (List.getD b (Int.toNat c) (0, 0)).1)
 (.cond (decide (0 ≤ c) && decide (c < (↑(List.length a) : Int)))
 (.cond (decide (0 ≤ c) && decide (c < (↑(List.length b) : Int)))
 (.ret (.inr (.inl (decide ((List.getD a (Int.toNat c) (0, 0)).1 < (List.getD b (Int.toNat c) (0, 0)).1), ()))))
 (.no))
 (.no))
 (.cond (decide (0 ≤ c) && decide (c < (↑(List.length a) : Int)))
 (.cond (decide (0 ≤ c) && decide (c < (↑(List.length b) : Int)))
 (.cond ((List.getD a (Int.toNat c) (0, 0)).2 != (List.getD b (Int.toNat c) (0, 0)).2)
 (.cond (decide (0 ≤ c) && decide (c < (↑(List.length a) : Int)))
 (.cond (decide (0 ≤ c) && decide (c < (↑(List.length b) : Int)))
 (.ret (.inr (.inl (decide ((List.getD a (Int.toNat c) (0, 0)).2 < (List.getD b (Int.toNat c) (0, 0)).2), ()))))
 (.no))
 (.no))
 (.ret (.inl (a, b, IntKind.wrap .i64 (c + 1), ()))))
 (.no))
 (.no)))
 (.no))
 (.no))
 (.ret (.inr (.inr (a, b, ())))))
 (.ret (.inr (.inr (a, b, ())))))
noncomputable def lessP_w0 := iterO fun x => (lessP_l0 x).run
noncomputable def lessP_B : ((List (Int × Int)) × zA31) → Br (Bool × Unit) := fun (p0, p1, ()) =>
 (.opt (lessP_w0 (p0, p1, 0, ())) fun a =>
 (.sum a (fun b =>
 (.ret (b.1, ()))) (fun c =>
 (.ret (decide ((↑(List.length c.1) : Int) < (↑(List.length c.2.1) : Int)), ())))))
noncomputable def lessP := fun x => (lessP_B x).run
noncomputable def lessP_L : List Lp := [
 .mk 2 (shO 67 [] [] [.slot 0 true (.sl zA16), .slot 1 true (.sl zA16), sI 5] []) ([exO .ret 67 [] [] [.slot 4 false .bool] [], exO (.exit 0) 67 [] [] [.slot 0 true (.sl zA16), .slot 1 true (.sl zA16)] []]) lessP_l0]
theorem lessP_oc : OC Tryz.prog 65 [(false, .ty true (.sl zA16)), (false, .ty true (.sl zA16))] [.ty false .bool] lessP := OC.lp en_nextF 1024 Tryz.func65 lessP_L (by kernel_rfl) ⟨fun _ => by kernel_rfl, trivial⟩ (fun _ => by kernel_rfl)
noncomputable def cx_lessP : Ctx := ocx cx_nextF lessP_oc
theorem en_lessP : EnvFull Tryz.prog cx_lessP := ocn en_nextF lessP_oc
noncomputable def sortP_l1 : (zA23 × zT7) → Br ((zA23 × zT7) ⊕ (zA23 × zT7)) := fun (a, b, c, d, ()) =>
 (.cond (decide (c > 0))
 (.cond (decide (0 ≤ b) && decide (b < (↑(List.length a) : Int)))
 (.cond (decide (0 ≤ IntKind.wrap .i64 (c - 1)) && decide (IntKind.wrap .i64 (c - 1) < (↑(List.length d) : Int)))
 (.opt (lessP (List.getD a (Int.toNat b) [], List.getD d (Int.toNat (IntKind.wrap .i64 (c - 1))) [], ())) fun e =>
 (.cond e.1
 (.ret (.inl (a, b, IntKind.wrap .i64 (c - 1), d, ())))
 (.ret (.inr (a, b, c, d, ())))))
 (.no))
 (.no))
 (.ret (.inr (a, b, c, d, ()))))
noncomputable def sortP_w1 := iterO fun x => (sortP_l1 x).run
noncomputable def sortP_l2 : (zA23 × (Int × zT7)) → Br ((zA23 × (Int × zT7)) ⊕ (zA23 × zT7)) := fun (a, b, c, d, e, ()) =>
 (.cond (decide (d > c))
 (.cond (decide (0 ≤ IntKind.wrap .i64 (d - 1)) && decide (IntKind.wrap .i64 (d - 1) < (↑(List.length e) : Int)))
 (.cond (decide (0 ≤ d) && decide (d < (↑(List.length e) : Int)))
 (.ret (.inl (a, b, c, IntKind.wrap .i64 (d - 1), List.set e (Int.toNat d) (List.getD e (Int.toNat (IntKind.wrap .i64 (d - 1))) []), ())))
 (.no))
 (.no))
 (.ret (.inr (a, b, c, e, ()))))
noncomputable def sortP_w2 := iterO fun x => (sortP_l2 x).run
noncomputable def sortP_l0 : (zA23 × (Int × (zA23 × Unit))) → Br ((zA23 × (Int × (zA23 × Unit))) ⊕ (zA23 × Unit)) := fun (a, b, c, ()) =>
 (.cond (decide (b < (↑(List.length a) : Int)))
 (.opt (sortP_w1 (a, b, (↑(List.length c) : Int), c, ())) fun d =>
 (.cond (decide ((List.length d.2.2.2.1 + @List.length (List (Int × Int)) (List.set (List.replicate 1 []) 0 [])) * 24 ≤ 140737488355328))
 (.opt (sortP_w2 (d.1, d.2.1, d.2.2.1, IntKind.wrap .i64 ((↑(List.length (d.2.2.2.1 ++ List.set (List.replicate 1 []) 0 [])) : Int) - 1), d.2.2.2.1 ++ List.set (List.replicate 1 []) 0 [], ())) fun e =>
 (.cond (decide (0 ≤ e.2.1) && decide (e.2.1 < (↑(List.length e.1) : Int)))
 (.cond (decide (0 ≤ e.2.2.1) && decide (e.2.2.1 < (↑(List.length e.2.2.2.1) : Int)))
 (.ret (.inl (e.1, IntKind.wrap .i64 (e.2.1 + 1), List.set e.2.2.2.1 (Int.toNat e.2.2.1) (List.getD e.1 (Int.toNat e.2.1) []), ())))
 (.no))
 (.no)))
 (.no)))
 (.ret (.inr (c, ()))))
noncomputable def sortP_w0 := iterO fun x => (sortP_l0 x).run
noncomputable def sortP_B : (zA23 × Unit) → Br (zA23 × Unit) := fun (p0, ()) =>
 (.opt (sortP_w0 (p0, 0, [], ())) fun a =>
 (.ret (a.1, ())))
noncomputable def sortP := fun x => (sortP_B x).run
noncomputable def sortP_L : List Lp := [
 .mk 3 (shO 59 [(3, .c (.mfull 1724))] [(1724, [])] [.slot 0 false (.sl (.sl zA16)), sI 4, .ar 1724 false 41 (.sl zA16)] [3]) ([exO (.exit 0) 59 [(3, .c (.mfull 1727))] [(1727, [])] [.ar 1727 false 41 (.sl zA16)] [3]]) sortP_l0,
 .mk 6 (shO 59 [(3, .c (.mfull 1725))] [(1725, [])] [.slot 0 false (.sl (.sl zA16)), sI 4, sI 5, .ar 1725 false 41 (.sl zA16)] [3]) ([exO (.exit 2) 59 [(3, .c (.mfull 1726))] [(1726, [])] [.slot 0 false (.sl (.sl zA16)), sI 4, sI 5, .ar 1726 false 41 (.sl zA16)] [3]]) sortP_l1,
 .mk 10 (shO 59 [(3, .c (.mfull 1058))] [(1058, [])] [.slot 0 false (.sl (.sl zA16)), sI 4, sI 5, sI 6, .ar 1058 false 41 (.sl zA16)] []) ([exO (.exit 4) 59 [(3, .c (.mfull 1058))] [(1058, [])] [.slot 0 false (.sl (.sl zA16)), sI 4, sI 5, .ar 1058 false 41 (.sl zA16)] []]) sortP_l2]
theorem sortP_oc : OC Tryz.prog 34 [(false, .ty false (.sl (.sl zA16)))] [.ty false (.sl (.sl zA16))] sortP := OC.lp en_lessP 1024 Tryz.func34 sortP_L (by kernel_rfl) ⟨fun _ => by kernel_rfl, fun _ => by kernel_rfl, fun _ => by kernel_rfl, trivial⟩ (fun _ => by kernel_rfl)
noncomputable def cx_sortP : Ctx := ocx cx_lessP sortP_oc
theorem en_sortP : EnvFull Tryz.prog cx_sortP := ocn en_lessP sortP_oc
noncomputable def cx_again1 : Ctx := cx_sortP
theorem en_again1 : EnvFull Tryz.prog cx_again1 := (en_sortP)
noncomputable def cx_idxEvA : Ctx := cx_again1
theorem en_idxEvA : EnvFull Tryz.prog cx_idxEvA := (en_again1)
noncomputable def cx_againR : Ctx := cx_idxEvA
theorem en_againR : EnvFull Tryz.prog cx_againR := (en_idxEvA)
end Go.Proofs.YtiblijkhpmemeaaGreat
