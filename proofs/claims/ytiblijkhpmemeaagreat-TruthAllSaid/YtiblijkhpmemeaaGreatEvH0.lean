/- The schema of three types; events that are made; fields of variables: whatever is asked, an answer. -/
import Derived.Test.YtiblijkhpmemeaaGreatHc
import Derived.Test.YtiblijkhpmemeaaGreatHa
import Derived.Test.YtiblijkhpmemeaaGreatRb
import Derived.Test.YtiblijkhpmemeaaGreatHb
import Derived.KernelRfl
namespace Go.Proofs.YtiblijkhpmemeaaGreat
open Go.PI Go
abbrev T3 : List (ByteArray × Flds) := [({ data := #[65] }, [({ data := #[120] }, 1), ({ data := #[115] }, 2)]), ({ data := #[66] }, [({ data := #[120] }, 1), ({ data := #[115] }, 2)]), ({ data := #[67] }, [({ data := #[115] }, 2), ({ data := #[120] }, 1), ({ data := #[98] }, 3)])]
abbrev sch3 : Sch := some T3
theorem typesR_at : typesR () = some (T3, ()) := by kernel_rfl
theorem newS_T3 : newS (T3, ()) = some ((sch3, 0), ()) := by kernel_rfl
theorem mask_in (x m : Int) (hm : 0 ≤ m) (hm2 : m < 9223372036854775808) : 0 ≤ IntKind.wrap .i64 (↑(BitVec.toNat (BitVec.ofInt (IntKind.bits .i64) x &&& BitVec.ofInt (IntKind.bits .i64) m)) : Int) ∧ IntKind.wrap .i64 (↑(BitVec.toNat (BitVec.ofInt (IntKind.bits .i64) x &&& BitVec.ofInt (IntKind.bits .i64) m)) : Int) ≤ m := by
 have h1 : BitVec.toNat (BitVec.ofInt (IntKind.bits .i64) x &&& BitVec.ofInt (IntKind.bits .i64) m) ≤ m.toNat := by
  rw [BitVec.toNat_and]
  refine Nat.le_trans Nat.and_le_right ?_
  rw [BitVec.toNat_ofInt]
  have : (m % ((2 ^ IntKind.bits .i64 : Nat) : Int)) = m := Int.emod_eq_of_lt hm (by
   have : ((2 ^ IntKind.bits .i64 : Nat) : Int) = 18446744073709551616 := by decide
   rw [this]; omega)
  rw [this]
  exact Nat.le_refl _
 rw [Go.PI.wrap_small (by omega) (by omega)]
 omega
theorem tmod3 (x : Int) (h : 0 ≤ x) : Int.tmod x 3 = 0 ∨ Int.tmod x 3 = 1 ∨ Int.tmod x 3 = 2 := by
 have h1 := Int.tmod_nonneg 3 h
 have h2 := Int.tmod_lt_of_pos x (show (0 : Int) < 3 by decide)
 omega
def typK (k : Int) : ByteArray := if k = 0 then { data := #[65] } else if k = 1 then { data := #[66] } else { data := #[67] }
abbrev sU : ByteArray := { data := #[117] }
abbrev sVv : ByteArray := { data := #[118] }
def keyK (k : Int) : ByteArray := if k = 0 then { data := #[107] } else if k = 1 then { data := #[108] } else { data := #[109] }
def mkE (k : Int) (key : ByteArray) (t n : Int) (s : ByteArray) (b : Bool) : Evt := (typK k, key, t, 0, if k = 2 then [sV s, iV n, bV b] else [iV n, sV s])
theorem idxBnd_tot (env : List Bnd) (he : env.length ≤ 64) (n : Nd) : ∃ r, idxBnd (env, n, ()) = some (r, ()) ∧ (r < 0 ∨ 0 ≤ r ∧ r < (env.length : Int)) := by
 unfold idxBnd idxBnd_B
 obtain ⟨z, hz, hq⟩ : ∃ z, idxBnd_w0 (env, (n, ()), (↑(List.length env) : Int), 0, ()) = some z ∧ ∀ u, z = .inl u → 0 ≤ u.1 ∧ u.1 < (env.length : Int) := by
  refine iterO_rec (step := fun x => (idxBnd_l0 x).run) (Q := fun _ z => ∀ u, z = .inl u → 0 ≤ u.1 ∧ u.1 < (env.length : Int)) (fun x => x.1 = env ∧ x.2.1 = (n, ()) ∧ x.2.2.1 = (env.length : Int) ∧ 0 ≤ x.2.2.2.1 ∧ x.2.2.2.1 ≤ (env.length : Int)) (fun x => ((env.length : Int) - x.2.2.2.1).toNat) ?_ _ ⟨rfl, rfl, rfl, by dsimp only; omega, by dsimp only; omega⟩
  rintro ⟨l, n', m, i, ⟨⟩⟩ hx
  dsimp only at hx ⊢
  obtain ⟨rfl, rfl, rfl, h0, h1⟩ := hx
  unfold idxBnd_l0 bndEq bndEq_B
  by_cases hi : i < (l.length : Int)
  ·have hw : IntKind.wrap .i64 (i + 1) = i + 1 := Go.PI.wrap_small (by omega) (by omega)
   simp only [Br.run, decide_eq_true hi, decide_eq_true h0, Bool.and_self, cond_true, hw, cond_eq_ite]
   by_cases hc : (bl (l.getD i.toNat (ByteArray.empty, ByteArray.empty, ByteArray.empty, 0, 0, [])).fst == bl ([n].getD 0 (0, (0, 0, ByteArray.empty, false), ByteArray.empty, ByteArray.empty)).snd.snd.fst) = true <;> simp only [hc, ↓reduceIte, Bool.false_eq_true]
   ·refine .inr ⟨_, rfl, ?_⟩
    intro u hu
    cases hu
    exact ⟨h0, hi⟩
   ·refine .inl ⟨_, rfl, ?_, ?_, fun z hz => hz⟩
    ·exact ⟨rfl, rfl, rfl, by dsimp only; omega, by dsimp only; omega⟩
    ·dsimp only; omega
  ·simp only [Br.run, decide_eq_false hi, cond_false]
   refine .inr ⟨_, rfl, ?_⟩
   intro u hu
   cases hu
 simp only [Br.run, hz]
 cases z with
 | inl u => exact ⟨u.1, rfl, .inr (hq u rfl)⟩
 | inr u => exact ⟨-1, rfl, .inl (by omega)⟩
theorem T3_len (i : Nat) : (T3.getD i (ByteArray.empty, [])).2.length ≤ 3 := by
 match i with
 | 0 => decide
 | 1 => decide
 | 2 => decide
 | n + 3 => exact Nat.zero_le _
theorem findF_tot (name : ByteArray) : ∃ t b, findF (sch3, name, ()) = some ((t, b), ()) ∧ t.2.length ≤ 3 := by
 unfold findF findF_B
 obtain ⟨z, hz, hq⟩ : ∃ z, findF_w0 (name, T3, ((3 : Nat) : Int), 0, ByteArray.empty, ()) = some z ∧ ∀ u, z = .inl u → u.1.2.length ≤ 3 := by
  refine iterO_rec (step := fun x => (findF_l0 x).run) (Q := fun _ z => ∀ u, z = .inl u → u.1.2.length ≤ 3) (fun x => x.1 = name ∧ x.2.1 = T3 ∧ x.2.2.1 = ((3 : Nat) : Int) ∧ 0 ≤ x.2.2.2.1 ∧ x.2.2.2.1 ≤ 3) (fun x => ((3 : Int) - x.2.2.2.1).toNat) ?_ _ ⟨rfl, rfl, rfl, by dsimp only; omega, by dsimp only; omega⟩
  rintro ⟨nm, l, m, i, c, ⟨⟩⟩ hx
  dsimp only at hx ⊢
  obtain ⟨rfl, rfl, rfl, h0, h1⟩ := hx
  unfold findF_l0 cloneField
  by_cases hi : i < ((3 : Nat) : Int)
  ·have hw : IntKind.wrap .i64 (i + 1) = i + 1 := Go.PI.wrap_small (by omega) (by omega)
   have h2 : i < ((List.length T3 : Nat) : Int) := hi
   have hb : bound (0 + List.length (Prod.snd (List.getD T3 (Int.toNat i) (ByteArray.empty, [])))) 24 = true := by
    have := T3_len i.toNat
    unfold bound
    exact decide_eq_true (by omega)
   simp only [Br.run, decide_eq_true hi, decide_eq_true h0, decide_eq_true h2, Bool.and_self, cond_true, hw, cond_eq_ite, hb, ↓reduceIte]
   split
   ·refine .inr ⟨_, rfl, ?_⟩
    intro u hu
    cases hu
    exact T3_len _
   ·refine .inl ⟨_, rfl, ?_, ?_, fun z hz => hz⟩
    ·exact ⟨rfl, rfl, rfl, by dsimp only; omega, by dsimp only; omega⟩
    ·dsimp only; omega
  ·simp only [Br.run, decide_eq_false hi, cond_false]
   refine .inr ⟨_, rfl, ?_⟩
   intro u hu
   cases hu
 show ∃ (t : ByteArray × Flds) (b : Bool), Br.run (.opt (findF_w0 (name, T3, ((3 : Nat) : Int), 0, ByteArray.empty, ())) _) = some ((t, b), ()) ∧ t.2.length ≤ 3
 rw [hz]
 cases z with
 | inl u => exact ⟨u.1, true, rfl, hq u rfl⟩
 | inr u => exact ⟨(ByteArray.empty, []), false, rfl, by decide⟩
theorem fieldF_tot (name f : ByteArray) : ∃ i k, fieldF (sch3, name, f, ()) = some ((i, k), ()) := by
 unfold fieldF fieldF_B
 obtain ⟨t, b, h, hl⟩ := findF_tot name
 simp only [Br.run, h]
 obtain ⟨z, hz, -⟩ : ∃ z, fieldF_w0 (f, t.2, (↑(List.length t.2) : Int), 0, ()) = some z ∧ True := by
  refine iterO_rec (step := fun x => (fieldF_l0 x).run) (Q := fun _ z => True) (fun x => x.1 = f ∧ x.2.1 = t.2 ∧ x.2.2.1 = (t.2.length : Int) ∧ 0 ≤ x.2.2.2.1 ∧ x.2.2.2.1 ≤ (t.2.length : Int)) (fun x => ((t.2.length : Int) - x.2.2.2.1).toNat) ?_ _ ⟨rfl, rfl, rfl, by dsimp only; omega, by dsimp only; omega⟩
  rintro ⟨nm, l, m, i, ⟨⟩⟩ hx
  dsimp only at hx ⊢
  obtain ⟨rfl, rfl, rfl, h0, h1⟩ := hx
  unfold fieldF_l0
  by_cases hi : i < (t.2.length : Int)
  ·have hw : IntKind.wrap .i64 (i + 1) = i + 1 := Go.PI.wrap_small (by omega) (by omega)
   simp only [Br.run, decide_eq_true hi, decide_eq_true h0, Bool.and_self, cond_true, hw, cond_eq_ite]
   by_cases hc : (bl (t.2.getD i.toNat (ByteArray.empty, 0)).fst == bl nm) = true <;> simp only [hc, ↓reduceIte, Bool.false_eq_true]
   ·exact .inr ⟨_, rfl, trivial⟩
   ·refine .inl ⟨_, rfl, ?_, ?_, fun z hz => hz⟩
    ·exact ⟨rfl, rfl, rfl, by dsimp only; omega, by dsimp only; omega⟩
    ·dsimp only; omega
  ·simp only [Br.run, decide_eq_false hi, cond_false]
   exact .inr ⟨_, rfl, trivial⟩
 simp only [hz, Br.run]
 cases z <;> exact ⟨_, _, rfl⟩
theorem getF_tot (e : Evt) (f : ByteArray) : ∃ v b, getF (sch3, e, f, ()) = some ((v, b), ()) := by
 unfold getF getF_B
 obtain ⟨i, k, h⟩ := fieldF_tot e.1 f
 simp only [Br.run, h, cond_eq_ite, decide_eq_true_eq]
 split
 ·exact ⟨_, _, rfl⟩
 ·split
  ·exact ⟨_, _, rfl⟩
  ·have h1 : 0 ≤ i := by omega
   have h2 : i < (↑(List.length (Prod.snd (Prod.snd (Prod.snd (Prod.snd e))))) : Int) := by omega
   simp only [decide_eq_true h1, decide_eq_true h2, Bool.and_self, ↓reduceIte]
   exact ⟨_, _, rfl⟩
theorem fv_tot (env : List Bnd) (he : env.length ≤ 64) : FvTot sch3 env := by
 intro n
 unfold fieldV fieldV_B
 obtain ⟨r, h, hr⟩ := idxBnd_tot env he n
 simp only [Br.run, h, cond_eq_ite, decide_eq_true_eq]
 split
 ·exact ⟨_, _, rfl⟩
 ·obtain ⟨v, b, hg⟩ := getF_tot (Prod.snd (List.getD env (Int.toNat r) (ByteArray.empty, ByteArray.empty, ByteArray.empty, 0, 0, []))) (Prod.snd (Prod.snd (Prod.snd n)))
  have h1 : 0 ≤ r := by omega
  have h2 : r < (↑(List.length env) : Int) := by omega
  simp only [decide_eq_true h1, decide_eq_true h2, Bool.and_self, ↓reduceIte, hg, Br.run]
  exact ⟨_, _, rfl⟩
end Go.Proofs.YtiblijkhpmemeaaGreat
