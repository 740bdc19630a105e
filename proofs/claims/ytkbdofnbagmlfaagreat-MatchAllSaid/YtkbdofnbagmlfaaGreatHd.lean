/- Contracts of functions. Printed by auto.py. The schema of three types; events that are made; fields of variables: whatever is asked, an answer. Contracts of functions. Printed by auto.py. Chains of pairs and of bound events: one more. A context: events made, beside the chains. Contracts of functions. Printed by auto.py. Contracts of functions. Printed by auto.py. -/
import Derived.Test.YtkbdofnbagmlfaaGreatGe
import Derived.Test.YtkbdofnbagmlfaaGreatHa
import Derived.Test.YtkbdofnbagmlfaaGreatHb
import Derived.Test.YtkbdofnbagmlfaaGreatHc
import Derived.KernelRfl
namespace Go.Proofs.YtkbdofnbagmlfaaGreat
set_option maxRecDepth 100000
open Go.PI Go
noncomputable def Zpp : (zA2 × Unit) -> Br (zA2 × Unit) := fun (p0, ()) =>
 (.cond (false)
 (.no)
 (.cond (decide ((p0.2.2.2.2.length : Int) > 0))
 (.cond (decide (0 <= 0) && decide (0 < (p0.2.2.2.2.length : Int)))
 (.cond (decide (0 <= 0) && decide (0 < (p0.2.2.2.2.length : Int)))
 (.cond (List.getD p0.2.2.2.2 (Int.toNat 0) zV0).2.2.2
 (.cond (decide (0 <= Int.tmod (IntKind.wrap .i64 (↑(BitVec.toNat (BitVec.ofInt (IntKind.bits .i64) p0.2.2.2.1 &&& BitVec.ofInt (IntKind.bits .i64) 255)) : Int)) 3) && decide (Int.tmod (IntKind.wrap .i64 (↑(BitVec.toNat (BitVec.ofInt (IntKind.bits .i64) p0.2.2.2.1 &&& BitVec.ofInt (IntKind.bits .i64) 255)) : Int)) 3 < (↑(List.length (List.set (List.set (List.set (List.replicate 3 ByteArray.empty) 0 { data := #[65] }) 1 { data := #[66] }) 2 { data := #[67] })) : Int)))
 (.cond (false)
 (.no)
 (.cond (decide (0 <= Int.tmod (↑(ByteArray.size p0.2.1) : Int) 3) && decide (Int.tmod (↑(ByteArray.size p0.2.1) : Int) 3 < (↑(List.length (List.set (List.set (List.set (List.replicate 3 ByteArray.empty) 0 { data := #[107] }) 1 { data := #[108] }) 2 { data := #[109] })) : Int)))
 (.cond (Int.tmod (IntKind.wrap .i64 (↑(BitVec.toNat (BitVec.ofInt (IntKind.bits .i64) p0.2.2.2.1 &&& BitVec.ofInt (IntKind.bits .i64) 255)) : Int)) 3 == 2)
 (.ret ((List.getD (List.set (List.set (List.set (List.replicate 3 ByteArray.empty) 0 { data := #[65] }) 1 { data := #[66] }) 2 { data := #[67] }) (Int.toNat (Int.tmod (IntKind.wrap .i64 (↑(BitVec.toNat (BitVec.ofInt (IntKind.bits .i64) p0.2.2.2.1 &&& BitVec.ofInt (IntKind.bits .i64) 255)) : Int)) 3)) ByteArray.empty, List.getD (List.set (List.set (List.set (List.replicate 3 ByteArray.empty) 0 { data := #[107] }) 1 { data := #[108] }) 2 { data := #[109] }) (Int.toNat (Int.tmod (↑(ByteArray.size p0.2.1) : Int) 3)) ByteArray.empty, IntKind.wrap .i64 (↑(BitVec.toNat (BitVec.ofInt (IntKind.bits .i64) p0.2.2.1 &&& BitVec.ofInt (IntKind.bits .i64) 15)) : Int), 0, [(2, 0, { data := #[118] }, false), (1, IntKind.wrap .i64 (↑(BitVec.toNat (BitVec.ofInt (IntKind.bits .i64) (List.getD p0.2.2.2.2 (Int.toNat 0) zV0).2.1 &&& BitVec.ofInt (IntKind.bits .i64) 3)) : Int), ByteArray.empty, false), (3, 0, ByteArray.empty, decide (IntKind.wrap .i64 (↑(BitVec.toNat (BitVec.ofInt (IntKind.bits .i64) p0.2.2.1 &&& BitVec.ofInt (IntKind.bits .i64) 64)) : Int) > 0))]), ()))
 (.ret ((List.getD (List.set (List.set (List.set (List.replicate 3 ByteArray.empty) 0 { data := #[65] }) 1 { data := #[66] }) 2 { data := #[67] }) (Int.toNat (Int.tmod (IntKind.wrap .i64 (↑(BitVec.toNat (BitVec.ofInt (IntKind.bits .i64) p0.2.2.2.1 &&& BitVec.ofInt (IntKind.bits .i64) 255)) : Int)) 3)) ByteArray.empty, List.getD (List.set (List.set (List.set (List.replicate 3 ByteArray.empty) 0 { data := #[107] }) 1 { data := #[108] }) 2 { data := #[109] }) (Int.toNat (Int.tmod (↑(ByteArray.size p0.2.1) : Int) 3)) ByteArray.empty, IntKind.wrap .i64 (↑(BitVec.toNat (BitVec.ofInt (IntKind.bits .i64) p0.2.2.1 &&& BitVec.ofInt (IntKind.bits .i64) 15)) : Int), 0, [(1, IntKind.wrap .i64 (↑(BitVec.toNat (BitVec.ofInt (IntKind.bits .i64) (List.getD p0.2.2.2.2 (Int.toNat 0) zV0).2.1 &&& BitVec.ofInt (IntKind.bits .i64) 3)) : Int), ByteArray.empty, false), (2, 0, { data := #[118] }, false)]), ())))
 (.no)))
 (.no))
 (.cond (decide (0 <= Int.tmod (IntKind.wrap .i64 (↑(BitVec.toNat (BitVec.ofInt (IntKind.bits .i64) p0.2.2.2.1 &&& BitVec.ofInt (IntKind.bits .i64) 255)) : Int)) 3) && decide (Int.tmod (IntKind.wrap .i64 (↑(BitVec.toNat (BitVec.ofInt (IntKind.bits .i64) p0.2.2.2.1 &&& BitVec.ofInt (IntKind.bits .i64) 255)) : Int)) 3 < (↑(List.length (List.set (List.set (List.set (List.replicate 3 ByteArray.empty) 0 { data := #[65] }) 1 { data := #[66] }) 2 { data := #[67] })) : Int)))
 (.cond (false)
 (.no)
 (.cond (decide (0 <= Int.tmod (↑(ByteArray.size p0.2.1) : Int) 3) && decide (Int.tmod (↑(ByteArray.size p0.2.1) : Int) 3 < (↑(List.length (List.set (List.set (List.set (List.replicate 3 ByteArray.empty) 0 { data := #[107] }) 1 { data := #[108] }) 2 { data := #[109] })) : Int)))
 (.cond (Int.tmod (IntKind.wrap .i64 (↑(BitVec.toNat (BitVec.ofInt (IntKind.bits .i64) p0.2.2.2.1 &&& BitVec.ofInt (IntKind.bits .i64) 255)) : Int)) 3 == 2)
 (.ret ((List.getD (List.set (List.set (List.set (List.replicate 3 ByteArray.empty) 0 { data := #[65] }) 1 { data := #[66] }) 2 { data := #[67] }) (Int.toNat (Int.tmod (IntKind.wrap .i64 (↑(BitVec.toNat (BitVec.ofInt (IntKind.bits .i64) p0.2.2.2.1 &&& BitVec.ofInt (IntKind.bits .i64) 255)) : Int)) 3)) ByteArray.empty, List.getD (List.set (List.set (List.set (List.replicate 3 ByteArray.empty) 0 { data := #[107] }) 1 { data := #[108] }) 2 { data := #[109] }) (Int.toNat (Int.tmod (↑(ByteArray.size p0.2.1) : Int) 3)) ByteArray.empty, IntKind.wrap .i64 (↑(BitVec.toNat (BitVec.ofInt (IntKind.bits .i64) p0.2.2.1 &&& BitVec.ofInt (IntKind.bits .i64) 15)) : Int), 0, [(2, 0, { data := #[117] }, false), (1, IntKind.wrap .i64 (↑(BitVec.toNat (BitVec.ofInt (IntKind.bits .i64) (List.getD p0.2.2.2.2 (Int.toNat 0) zV0).2.1 &&& BitVec.ofInt (IntKind.bits .i64) 3)) : Int), ByteArray.empty, false), (3, 0, ByteArray.empty, decide (IntKind.wrap .i64 (↑(BitVec.toNat (BitVec.ofInt (IntKind.bits .i64) p0.2.2.1 &&& BitVec.ofInt (IntKind.bits .i64) 64)) : Int) > 0))]), ()))
 (.ret ((List.getD (List.set (List.set (List.set (List.replicate 3 ByteArray.empty) 0 { data := #[65] }) 1 { data := #[66] }) 2 { data := #[67] }) (Int.toNat (Int.tmod (IntKind.wrap .i64 (↑(BitVec.toNat (BitVec.ofInt (IntKind.bits .i64) p0.2.2.2.1 &&& BitVec.ofInt (IntKind.bits .i64) 255)) : Int)) 3)) ByteArray.empty, List.getD (List.set (List.set (List.set (List.replicate 3 ByteArray.empty) 0 { data := #[107] }) 1 { data := #[108] }) 2 { data := #[109] }) (Int.toNat (Int.tmod (↑(ByteArray.size p0.2.1) : Int) 3)) ByteArray.empty, IntKind.wrap .i64 (↑(BitVec.toNat (BitVec.ofInt (IntKind.bits .i64) p0.2.2.1 &&& BitVec.ofInt (IntKind.bits .i64) 15)) : Int), 0, [(1, IntKind.wrap .i64 (↑(BitVec.toNat (BitVec.ofInt (IntKind.bits .i64) (List.getD p0.2.2.2.2 (Int.toNat 0) zV0).2.1 &&& BitVec.ofInt (IntKind.bits .i64) 3)) : Int), ByteArray.empty, false), (2, 0, { data := #[117] }, false)]), ())))
 (.no)))
 (.no)))
 (.no))
 (.no))
 (.cond (decide (0 <= Int.tmod (IntKind.wrap .i64 (↑(BitVec.toNat (BitVec.ofInt (IntKind.bits .i64) p0.2.2.2.1 &&& BitVec.ofInt (IntKind.bits .i64) 255)) : Int)) 3) && decide (Int.tmod (IntKind.wrap .i64 (↑(BitVec.toNat (BitVec.ofInt (IntKind.bits .i64) p0.2.2.2.1 &&& BitVec.ofInt (IntKind.bits .i64) 255)) : Int)) 3 < (↑(List.length (List.set (List.set (List.set (List.replicate 3 ByteArray.empty) 0 { data := #[65] }) 1 { data := #[66] }) 2 { data := #[67] })) : Int)))
 (.cond (false)
 (.no)
 (.cond (decide (0 <= Int.tmod (↑(ByteArray.size p0.2.1) : Int) 3) && decide (Int.tmod (↑(ByteArray.size p0.2.1) : Int) 3 < (↑(List.length (List.set (List.set (List.set (List.replicate 3 ByteArray.empty) 0 { data := #[107] }) 1 { data := #[108] }) 2 { data := #[109] })) : Int)))
 (.cond (Int.tmod (IntKind.wrap .i64 (↑(BitVec.toNat (BitVec.ofInt (IntKind.bits .i64) p0.2.2.2.1 &&& BitVec.ofInt (IntKind.bits .i64) 255)) : Int)) 3 == 2)
 (.ret ((List.getD (List.set (List.set (List.set (List.replicate 3 ByteArray.empty) 0 { data := #[65] }) 1 { data := #[66] }) 2 { data := #[67] }) (Int.toNat (Int.tmod (IntKind.wrap .i64 (↑(BitVec.toNat (BitVec.ofInt (IntKind.bits .i64) p0.2.2.2.1 &&& BitVec.ofInt (IntKind.bits .i64) 255)) : Int)) 3)) ByteArray.empty, List.getD (List.set (List.set (List.set (List.replicate 3 ByteArray.empty) 0 { data := #[107] }) 1 { data := #[108] }) 2 { data := #[109] }) (Int.toNat (Int.tmod (↑(ByteArray.size p0.2.1) : Int) 3)) ByteArray.empty, IntKind.wrap .i64 (↑(BitVec.toNat (BitVec.ofInt (IntKind.bits .i64) p0.2.2.1 &&& BitVec.ofInt (IntKind.bits .i64) 15)) : Int), 0, [(2, 0, { data := #[117] }, false), (1, 0, ByteArray.empty, false), (3, 0, ByteArray.empty, decide (IntKind.wrap .i64 (↑(BitVec.toNat (BitVec.ofInt (IntKind.bits .i64) p0.2.2.1 &&& BitVec.ofInt (IntKind.bits .i64) 64)) : Int) > 0))]), ()))
 (.ret ((List.getD (List.set (List.set (List.set (List.replicate 3 ByteArray.empty) 0 { data := #[65] }) 1 { data := #[66] }) 2 { data := #[67] }) (Int.toNat (Int.tmod (IntKind.wrap .i64 (↑(BitVec.toNat (BitVec.ofInt (IntKind.bits .i64) p0.2.2.2.1 &&& BitVec.ofInt (IntKind.bits .i64) 255)) : Int)) 3)) ByteArray.empty, List.getD (List.set (List.set (List.set (List.replicate 3 ByteArray.empty) 0 { data := #[107] }) 1 { data := #[108] }) 2 { data := #[109] }) (Int.toNat (Int.tmod (↑(ByteArray.size p0.2.1) : Int) 3)) ByteArray.empty, IntKind.wrap .i64 (↑(BitVec.toNat (BitVec.ofInt (IntKind.bits .i64) p0.2.2.1 &&& BitVec.ofInt (IntKind.bits .i64) 15)) : Int), 0, [(1, 0, ByteArray.empty, false), (2, 0, { data := #[117] }, false)]), ())))
 (.no)))
 (.no))))
noncomputable def eventR := fun x => (Zpp x).run
abbrev ZkA : List (Bool × Pat) := [(false, .ty true zA9)]
abbrev Zi7 : List Pat := [.ty false zA9]
theorem ZuW : OC Tryz.prog 50 ZkA Zi7 eventR := OC.lp ZcI 1024 Tryz.func50 [] (by kernel_rfl) trivial (fun _ => by kernel_rfl)
end Go.Proofs.YtkbdofnbagmlfaaGreat

namespace Go.Proofs.YtkbdofnbagmlfaaGreat
open Go.PI Go
abbrev T3 : List (ByteArray × Flds) := [({ data := #[65] }, [({ data := #[120] }, 1), ({ data := #[115] }, 2)]), ({ data := #[66] }, [({ data := #[120] }, 1), ({ data := #[115] }, 2)]), ({ data := #[67] }, [({ data := #[115] }, 2), ({ data := #[120] }, 1), ({ data := #[98] }, 3)])]
abbrev ZaJ : Sch := some T3
theorem Zua : typesR () = some (T3, ()) := by kernel_rfl
theorem newS_T3 : newS (T3, ()) = some ((ZaJ, 0), ()) := by kernel_rfl
theorem ZbM (x m : Int) (hm : 0 <= m) (hm2 : m < 9223372036854775808) : 0 <= IntKind.wrap .i64 (↑(BitVec.toNat (BitVec.ofInt (IntKind.bits .i64) x &&& BitVec.ofInt (IntKind.bits .i64) m)) : Int) /\ IntKind.wrap .i64 (↑(BitVec.toNat (BitVec.ofInt (IntKind.bits .i64) x &&& BitVec.ofInt (IntKind.bits .i64) m)) : Int) <= m := by
 have h1 : BitVec.toNat (BitVec.ofInt (IntKind.bits .i64) x &&& BitVec.ofInt (IntKind.bits .i64) m) <= m.toNat := by
  rw [BitVec.toNat_and]
  refine Nat.le_trans Nat.and_le_right ?_
  rw [BitVec.toNat_ofInt]
  have : (m % ((2 ^ IntKind.bits .i64 : Nat) : Int)) = m := Int.emod_eq_of_lt hm (by
   have : ((2 ^ IntKind.bits .i64 : Nat) : Int) = 18446744073709551616 := by decide
   rw [this]; omega)
  rw [this]
  exact Nat.le_refl _
 rw [Go.PI.wrap_small (by omega) (by omega)]
 omega
theorem tmod3 (x : Int) (h : 0 <= x) : Int.tmod x 3 = 0 \/ Int.tmod x 3 = 1 \/ Int.tmod x 3 = 2 := by
 have h1 := Int.tmod_nonneg 3 h
 have h2 := Int.tmod_lt_of_pos x (show (0 : Int) < 3 by decide)
 omega
def typK (k : Int) : ByteArray := if k = 0 then { data := #[65] } else if k = 1 then { data := #[66] } else { data := #[67] }
abbrev sU : ByteArray := { data := #[117] }
abbrev sVv : ByteArray := { data := #[118] }
def keyK (k : Int) : ByteArray := if k = 0 then { data := #[107] } else if k = 1 then { data := #[108] } else { data := #[109] }
def mkE (k : Int) (key : ByteArray) (t n : Int) (s : ByteArray) (b : Bool) : Evt := (typK k, key, t, 0, if k = 2 then [sV s, iV n, bV b] else [iV n, sV s])
theorem ZtE (env : List Bnd) (he : env.length <= 64) (n : Nd) : ∃ r, idxBnd (env, n, ()) = some (r, ()) /\ (r < 0 \/ 0 <= r /\ r < (env.length : Int)) := by
 unfold idxBnd ZjH
 obtain ⟨z, hz, hq⟩ : ∃ z, idxBnd_w0 (env, (n, ()), (↑(List.length env) : Int), 0, ()) = some z /\ ∀ u, z = .inl u -> 0 <= u.1 /\ u.1 < (env.length : Int) := by
  refine Zao (step := fun x => (Zdj x).run) (Q := fun _ z => ∀ u, z = .inl u -> 0 <= u.1 /\ u.1 < (env.length : Int)) (fun x => x.1 = env /\ x.2.1 = (n, ()) /\ x.2.2.1 = (env.length : Int) /\ 0 <= x.2.2.2.1 /\ x.2.2.2.1 <= (env.length : Int)) (fun x => ((env.length : Int) - x.2.2.2.1).toNat) ?_ _ ⟨rfl, rfl, rfl, by dsimp only; omega, by dsimp only; omega⟩
  rintro ⟨l, n', m, i, ⟨⟩⟩ hx
  dsimp only at hx ⊢
  obtain ⟨rfl, rfl, rfl, h0, h1⟩ := hx
  unfold Zdj bndEq ZrA
  by_cases hi : i < (l.length : Int)
  ·have hw : IntKind.wrap .i64 (i + 1) = i + 1 := Go.PI.wrap_small (by omega) (by omega)
   simp only [Br.run, decide_eq_true hi, decide_eq_true h0, Bool.and_self, cond_true, hw, cond_eq_ite]
   by_cases hc : (bl (l.getD i.toNat (ByteArray.empty, ByteArray.empty, ByteArray.empty, 0, 0, [])).fst == bl ([n].getD 0 (0, (0, 0, ByteArray.empty, false), ByteArray.empty, ByteArray.empty)).snd.snd.fst) = true <;> simp only [hc, ↓reduceIte, Bool.false_eq_true]
   ·refine .inr ⟨_, rfl, ?_⟩
    intro u hu
    cases hu
    exact ⟨h0, hi⟩
   ·refine .inl ⟨_, rfl, ?_, ?_, fun z hz => hz⟩
    ·exact ⟨rfl, rfl, rfl, by dsimp only; omega, by dsimp only; omega⟩
    ·dsimp only; omega
  ·simp only [Br.run, decide_eq_false hi, cond_false]
   refine .inr ⟨_, rfl, ?_⟩
   intro u hu
   cases hu
 simp only [Br.run, hz]
 cases z with
 | inl u => exact ⟨u.1, rfl, .inr (hq u rfl)⟩
 | inr u => exact ⟨-1, rfl, .inl (by omega)⟩
theorem T3_len (i : Nat) : (T3.getD i (ByteArray.empty, [])).2.length <= 3 := by
 match i with
 | 0 => decide
 | 1 => decide
 | 2 => decide
 | n + 3 => exact Nat.zero_le _
theorem Zt0 (name : ByteArray) : ∃ t b, findF (ZaJ, name, ()) = some ((t, b), ()) /\ t.2.length <= 3 := by
 unfold findF Zrz
 obtain ⟨z, hz, hq⟩ : ∃ z, findF_w0 (name, T3, ((3 : Nat) : Int), 0, ByteArray.empty, ()) = some z /\ ∀ u, z = .inl u -> u.1.2.length <= 3 := by
  refine Zao (step := fun x => (Zg1 x).run) (Q := fun _ z => ∀ u, z = .inl u -> u.1.2.length <= 3) (fun x => x.1 = name /\ x.2.1 = T3 /\ x.2.2.1 = ((3 : Nat) : Int) /\ 0 <= x.2.2.2.1 /\ x.2.2.2.1 <= 3) (fun x => ((3 : Int) - x.2.2.2.1).toNat) ?_ _ ⟨rfl, rfl, rfl, by dsimp only; omega, by dsimp only; omega⟩
  rintro ⟨nm, l, m, i, c, ⟨⟩⟩ hx
  dsimp only at hx ⊢
  obtain ⟨rfl, rfl, rfl, h0, h1⟩ := hx
  unfold Zg1 cloneField
  by_cases hi : i < ((3 : Nat) : Int)
  ·have hw : IntKind.wrap .i64 (i + 1) = i + 1 := Go.PI.wrap_small (by omega) (by omega)
   have h2 : i < ((List.length T3 : Nat) : Int) := hi
   have hb : bound (0 + List.length (Prod.snd (List.getD T3 (Int.toNat i) (ByteArray.empty, [])))) 24 = true := by
    have := T3_len i.toNat
    unfold bound
    exact decide_eq_true (by omega)
   simp only [Br.run, decide_eq_true hi, decide_eq_true h0, decide_eq_true h2, Bool.and_self, cond_true, hw, cond_eq_ite, hb, ↓reduceIte]
   split
   ·refine .inr ⟨_, rfl, ?_⟩
    intro u hu
    cases hu
    exact T3_len _
   ·refine .inl ⟨_, rfl, ?_, ?_, fun z hz => hz⟩
    ·exact ⟨rfl, rfl, rfl, by dsimp only; omega, by dsimp only; omega⟩
    ·dsimp only; omega
  ·simp only [Br.run, decide_eq_false hi, cond_false]
   refine .inr ⟨_, rfl, ?_⟩
   intro u hu
   cases hu
 show ∃ (t : ByteArray × Flds) (b : Bool), Br.run (.opt (findF_w0 (name, T3, ((3 : Nat) : Int), 0, ByteArray.empty, ())) _) = some ((t, b), ()) /\ t.2.length <= 3
 rw [hz]
 cases z with
 | inl u => exact ⟨u.1, true, rfl, hq u rfl⟩
 | inr u => exact ⟨(ByteArray.empty, []), false, rfl, by decide⟩
theorem ZtB (name f : ByteArray) : ∃ i k, fieldF (ZaJ, name, f, ()) = some ((i, k), ()) := by
 unfold fieldF Zn9
 obtain ⟨t, b, h, hl⟩ := Zt0 name
 simp only [Br.run, h]
 obtain ⟨z, hz, -⟩ : ∃ z, fieldF_w0 (f, t.2, (↑(List.length t.2) : Int), 0, ()) = some z /\ True := by
  refine Zao (step := fun x => (ZfJ x).run) (Q := fun _ z => True) (fun x => x.1 = f /\ x.2.1 = t.2 /\ x.2.2.1 = (t.2.length : Int) /\ 0 <= x.2.2.2.1 /\ x.2.2.2.1 <= (t.2.length : Int)) (fun x => ((t.2.length : Int) - x.2.2.2.1).toNat) ?_ _ ⟨rfl, rfl, rfl, by dsimp only; omega, by dsimp only; omega⟩
  rintro ⟨nm, l, m, i, ⟨⟩⟩ hx
  dsimp only at hx ⊢
  obtain ⟨rfl, rfl, rfl, h0, h1⟩ := hx
  unfold ZfJ
  by_cases hi : i < (t.2.length : Int)
  ·have hw : IntKind.wrap .i64 (i + 1) = i + 1 := Go.PI.wrap_small (by omega) (by omega)
   simp only [Br.run, decide_eq_true hi, decide_eq_true h0, Bool.and_self, cond_true, hw, cond_eq_ite]
   by_cases hc : (bl (t.2.getD i.toNat (ByteArray.empty, 0)).fst == bl nm) = true <;> simp only [hc, ↓reduceIte, Bool.false_eq_true]
   ·exact .inr ⟨_, rfl, trivial⟩
   ·refine .inl ⟨_, rfl, ?_, ?_, fun z hz => hz⟩
    ·exact ⟨rfl, rfl, rfl, by dsimp only; omega, by dsimp only; omega⟩
    ·dsimp only; omega
  ·simp only [Br.run, decide_eq_false hi, cond_false]
   exact .inr ⟨_, rfl, trivial⟩
 simp only [hz, Br.run]
 cases z <;> exact ⟨_, _, rfl⟩
theorem getF_tot (e : Evt) (f : ByteArray) : ∃ v b, getF (ZaJ, e, f, ()) = some ((v, b), ()) := by
 unfold getF getF_B
 obtain ⟨i, k, h⟩ := ZtB e.1 f
 simp only [Br.run, h, cond_eq_ite, decide_eq_true_eq]
 split
 ·exact ⟨_, _, rfl⟩
 ·split
  ·exact ⟨_, _, rfl⟩
  ·have h1 : 0 <= i := by omega
   have h2 : i < (↑(List.length (Prod.snd (Prod.snd (Prod.snd (Prod.snd e))))) : Int) := by omega
   simp only [decide_eq_true h1, decide_eq_true h2, Bool.and_self, ↓reduceIte]
   exact ⟨_, _, rfl⟩
theorem fv_tot (env : List Bnd) (he : env.length <= 64) : FvTot ZaJ env := by
 intro n
 unfold fieldV Zhf
 obtain ⟨r, h, hr⟩ := ZtE env he n
 simp only [Br.run, h, cond_eq_ite, decide_eq_true_eq]
 split
 ·exact ⟨_, _, rfl⟩
 ·obtain ⟨v, b, hg⟩ := getF_tot (Prod.snd (List.getD env (Int.toNat r) (ByteArray.empty, ByteArray.empty, ByteArray.empty, 0, 0, []))) (Prod.snd (Prod.snd (Prod.snd n)))
  have h1 : 0 <= r := by omega
  have h2 : r < (↑(List.length env) : Int) := by omega
  simp only [decide_eq_true h1, decide_eq_true h2, Bool.and_self, ↓reduceIte, hg, Br.run]
  exact ⟨_, _, rfl⟩
end Go.Proofs.YtkbdofnbagmlfaaGreat

namespace Go.Proofs.YtkbdofnbagmlfaaGreat
set_option maxRecDepth 100000
open Go.PI Go
noncomputable section
def lenP_B : zA31 -> Br (Int × Unit) := fun (p0, ()) =>
 (.cond (List.isEmpty p0)
 (.ret (0, ()))
 (.cond (!List.isEmpty p0)
 (.ret ((p0.length : Int), ()))
 (.no)))
def lenP := fun x => (lenP_B x).run
theorem Zsv : OC Tryz.prog 101 [(false, .ty true (.chain Zad))] [.ty false (.int .i64)] lenP := OC.lp Zny 1024 Tryz.func101 [] (by kernel_rfl) trivial (fun _ => by kernel_rfl)
def cx_lenP : Ctx := ocx cx_holdsF Zsv
theorem ZsL : EnvFull Tryz.prog cx_lenP := ocn Zny Zsv
def lenB_B : (ZaK × Unit) -> Br (Int × Unit) := fun (p0, ()) =>
 (.cond (List.isEmpty p0)
 (.ret (0, ()))
 (.cond (!List.isEmpty p0)
 (.ret ((p0.length : Int), ()))
 (.no)))
def lenB := fun x => (lenB_B x).run
theorem Zsu : OC Tryz.prog 126 [(false, .ty true (.chain (.st (.pair .str zA9))))] [.ty false (.int .i64)] lenB := OC.lp ZsL 1024 Tryz.func126 [] (by kernel_rfl) trivial (fun _ => by kernel_rfl)
def cx_lenB : Ctx := ocx cx_lenP Zsu
theorem Zr7 : EnvFull Tryz.prog cx_lenB := ocn ZsL Zsu
def ZmD : zA31 -> Br (((Int × Int) × Bool) × Unit) := fun (p0, ()) =>
 (.opt (lenP (p0, ())) fun y2 =>
 (.cond (y2.1 == 0)
 (.ret (((0, 0), false), ()))
 (.cond (!List.isEmpty p0)
 (.ret ((List.headD p0 (0, 0), true), ()))
 (.no))))
def newestP := fun x => (ZmD x).run
theorem Zke : OC Tryz.prog 92 [(false, .ty true (.chain Zad))] [.ty false Zad, .ty false .bool] newestP := OC.lp Zr7 1024 Tryz.func92 [] (by kernel_rfl) trivial (fun _ => by kernel_rfl)
def cx_newestP : Ctx := ocx cx_lenB Zke
theorem ZkM : EnvFull Tryz.prog cx_newestP := ocn Zr7 Zke
def Zsp : ((List (Int × Int)) × ((Int × Int) × Unit)) -> Br (((Int × Int) × ((List (Int × Int)) × Int)) × Unit) := fun (p0, p1, ()) =>
 (.opt (lenP (p0, ())) fun y3 =>
 (.ret (((p1.1, p1.2), p0, IntKind.wrap .i64 (y3.1 + 1)), ())))
def linkP := fun x => (Zsp x).run
abbrev ZhE : List (Bool × Pat) := [(false, .ty false (.chain Zad)), (false, .ty false Zad)]
theorem ZjA : OC Tryz.prog 95 ZhE [.obj (.two (.ty false Zad) (.two (.ty false (.chain Zad)) (.ty false (.int .i64))))] linkP := OC.lp ZkM 1024 Tryz.func95 [] (by kernel_rfl) trivial (fun _ => by kernel_rfl)
def cx_linkP : Ctx := ocx cx_newestP ZjA
theorem Zpu : EnvFull Tryz.prog cx_linkP := ocn ZkM ZjA
def ZrK : (ZaK × ((ByteArray × zA2) × Unit)) -> Br (((ByteArray × zA2) × (ZaK × Int)) × Unit) := fun (p0, p1, ()) =>
 (.opt (lenB (p0, ())) fun y3 =>
 (.ret (((p1.1, p1.2.1, p1.2.2.1, p1.2.2.2.1, p1.2.2.2.2.1, p1.2.2.2.2.2), p0, IntKind.wrap .i64 (y3.1 + 1)), ())))
def linkB := fun x => (ZrK x).run
abbrev ZhR : List (Bool × Pat) := [(false, .ty false (.chain (.st (.pair .str zA9)))), (false, .ty false (.st (.pair .str zA9)))]
theorem Zju : OC Tryz.prog 97 ZhR [.obj (.two (.ty false (.st (.pair .str zA9))) (.two (.ty false (.chain (.st (.pair .str zA9)))) (.ty false (.int .i64))))] linkB := OC.lp Zpu 1024 Tryz.func97 [] (by kernel_rfl) trivial (fun _ => by kernel_rfl)
def cx_linkB : Ctx := ocx cx_linkP Zju
theorem en_linkB : EnvFull Tryz.prog cx_linkB := ocn Zpu Zju
end
end Go.Proofs.YtkbdofnbagmlfaaGreat

namespace Go.Proofs.YtkbdofnbagmlfaaGreat
open Go.PI Go
abbrev Zch : Ty := .st (.pair (.int .i64) (.int .i64))
abbrev Zcm : Ty := .st (.pair .str zA9)
theorem ZbW (l : List (Int × Int)) : lenP (l, ()) = some ((l.length : Int), ()) := by
 cases l <;> rfl
theorem lenB_at (l : List Zcm.T) : lenB (l, ()) = some ((l.length : Int), ()) := by
 cases l <;> rfl
noncomputable def withP : List (Int × Int) × ((Int × Int) × Unit) -> Option (List (Int × Int) × Unit) := fun x => bif decide (x.1.length < 9223372036854775807) then some (x.2.1 :: x.1, ()) else none
theorem withP_oc : OC Tryz.prog 95 ZhE [.ty false (.chain Zch)] withP := OC.chain ZjA (by
 rintro ⟨l, x, ⟨⟩⟩ y hy
 unfold withP at hy
 by_cases h : l.length < 9223372036854775807
 ·simp only [h, decide_true, cond_true, Option.some.injEq] at hy
  subst hy
  refine ⟨x, l, ?_, rfl, h⟩
  show linkP (l, x, ()) = _
  unfold linkP Zsp
  have hw : IntKind.wrap .i64 ((l.length : Int) + 1) = ((l.length + 1 : Nat) : Int) := by rw [Go.PI.wrap_small (by omega) (by omega)]; omega
  simp only [Br.run, ZbW, hw]
 ·simp only [h, decide_false, cond_false] at hy
  cases hy)
noncomputable def cx_withP : Ctx := Zba cx_linkB 95 (ZaV ZhE [.ty false (.chain Zch)] withP)
theorem en_withP : EnvFull Tryz.prog cx_withP := Zas en_linkB withP_oc.callOk
noncomputable def withB : List Zcm.T × (Zcm.T × Unit) -> Option (List Zcm.T × Unit) := fun x => bif decide (x.1.length < 9223372036854775807) then some (x.2.1 :: x.1, ()) else none
theorem withB_oc : OC Tryz.prog 97 ZhR [.ty false (.chain Zcm)] withB := OC.chain Zju (by
 rintro ⟨l, x, ⟨⟩⟩ y hy
 unfold withB at hy
 by_cases h : l.length < 9223372036854775807
 ·simp only [h, decide_true, cond_true, Option.some.injEq] at hy
  subst hy
  refine ⟨x, l, ?_, rfl, h⟩
  show linkB (l, x, ()) = _
  unfold linkB ZrK
  have hw : IntKind.wrap .i64 ((l.length : Int) + 1) = ((l.length + 1 : Nat) : Int) := by rw [Go.PI.wrap_small (by omega) (by omega)]; omega
  simp only [Br.run, lenB_at, hw]
 ·simp only [h, decide_false, cond_false] at hy
  cases hy)
noncomputable def cx_withB : Ctx := Zba cx_withP 97 (ZaV ZhR [.ty false (.chain Zcm)] withB)
theorem en_withB : EnvFull Tryz.prog cx_withB := Zas en_withP withB_oc.callOk
end Go.Proofs.YtkbdofnbagmlfaaGreat

namespace Go.Proofs.YtkbdofnbagmlfaaGreat
open Go.PI Go
noncomputable def cxM1 : Ctx := Zba cx_withB 50 (ZaV ZkA Zi7 eventR)
theorem enM1 : EnvFull Tryz.prog cxM1 := Zas en_withB ZuW.callOk
end Go.Proofs.YtkbdofnbagmlfaaGreat

namespace Go.Proofs.YtkbdofnbagmlfaaGreat
open Go.PI Go
noncomputable section
def ZeU : zA28 -> Br (zA28 ⊕ ((List zA2) × Unit)) := fun (a, b, c, d, ()) =>
 (.cond (decide (c < (a.length : Int)))
 (.cond (decide (c < b))
 (.cond (decide (0 <= c) && decide (c < (a.length : Int)))
 (.opt (eventR (a.getD c.toNat zV1, ())) fun e =>
 (.cond (decide ((List.length d + List.length (List.set (List.replicate 1 zV1) 0 (e.1.1, { data := #[107] }, e.1.2.2.1, IntKind.wrap .i64 (c + 1), e.1.2.2.2.2))) * 72 <= 140737488355328))
 (.ret (.inl (a, b, IntKind.wrap .i64 (c + 1), d ++ List.set (List.replicate 1 zV1) 0 (e.1.1, { data := #[107] }, e.1.2.2.1, IntKind.wrap .i64 (c + 1), e.1.2.2.2.2), ())))
 (.no)))
 (.no))
 (.ret (.inr (d, ()))))
 (.ret (.inr (d, ()))))
def eventsR_w0 := Zag fun x => (ZeU x).run
def ZmF : ((List zA2) × (Int × Unit)) -> Br ((List zA2) × Unit) := fun (p0, p1, ()) =>
 (.opt (eventsR_w0 (p0, p1, 0, [], ())) fun a =>
 (.ret (a.1, ())))
def eventsR := fun x => (ZmF x).run
abbrev ZiM : List (Bool × Pat) := [(false, .ty true (.sl zA9)), (false, .ty false (.int .i64))]
abbrev ZhJ : List Pat := [.ty false (.sl zA9)]
def Zvd : List Lp := [
 .mk 3 (shO 34 [(5, .c (.mfull 1724))] [(1724, [])] [.slot 0 true (.sl zA9), sI 1, sI 6, .ar 1724 false 43 zA9] [5]) ([exO (.exit 0) 34 [(5, .c (.mfull 1725))] [(1725, [])] [.ar 1725 false 43 zA9] [5]]) ZeU]
theorem Ztw : OC Tryz.prog 27 ZiM ZhJ eventsR := OC.lp enM1 1024 Tryz.func27 Zvd (by kernel_rfl) ⟨fun _ => by kernel_rfl, trivial⟩ (fun _ => by kernel_rfl)
end
end Go.Proofs.YtkbdofnbagmlfaaGreat

namespace Go.Proofs.YtkbdofnbagmlfaaGreat
set_option maxRecDepth 100000
open Go.PI Go
noncomputable section
def Zoe : (zA2 × (Int × Unit)) -> Br ((Int × (Int × Int)) × Unit) := fun (p0, p1, ()) =>
 (.ret ((p0.2.2.1, p0.2.2.2.1, p1), ()))
def stampE := fun x => (Zoe x).run
theorem Zmu : OC Tryz.prog 96 [(false, .ty true zA9), (false, .ty false (.int .i64))] [.ty false (.st (.pair (.int .i64) (.pair (.int .i64) (.int .i64))))] stampE := OC.lp enM1 1024 Tryz.func96 [] (by kernel_rfl) trivial (fun _ => by kernel_rfl)
def cx_stampE : Ctx := ocx cxM1 Zmu
theorem ZnO : EnvFull Tryz.prog cx_stampE := ocn enM1 Zmu
def cloneVal : ((List zA8) × Unit) -> Option ((List zA8) × Unit) := fun x => bif bound (0 + List.length x.1) 40 then some (x.1, ()) else none
theorem Zq3 : OC Tryz.prog 127 [(false, .ty true (.sl zA4))] [.ty false (.sl zA4)] cloneVal := OC.clone (k := false) (Zeg (t := 41) (e := 150) (by_ := 24) (b2 := 40) (ZnO) Tryz.func127 (by kernel_rfl) (by kernel_rfl) (by kernel_rfl) (by kernel_rfl) (by kernel_rfl) true rfl fun l => ⟨.c .bad, [1031, 1029, 1029], by kernel_rfl⟩)
def cx_cloneVal : Ctx := Zba cx_stampE 127 (ZaV [(false, .ty true (.sl zA4))] [.ty false (.sl zA4)] cloneVal)
theorem Zi2 : EnvFull Tryz.prog cx_cloneVal := Zas (ZnO) Zq3.callOk
def ZrN : (zA2 × Unit) -> Br (zA2 × Unit) := fun (p0, ()) =>
 (.opt (cloneVal (p0.2.2.2.2, ())) fun y2 =>
 (.ret ((p0.1, p0.2.1, p0.2.2.1, p0.2.2.2.1, y2.1), ())))
def copyE := fun x => (ZrN x).run
theorem ZqC : OC Tryz.prog 98 [(false, .ty false zA9)] [.ty false zA9] copyE := OC.lp Zi2 1024 Tryz.func98 [] (by kernel_rfl) trivial (fun _ => by kernel_rfl)
def cx_copyE : Ctx := ocx cx_cloneVal ZqC
theorem Zoy : EnvFull Tryz.prog cx_copyE := ocn Zi2 ZqC
def ZjO : (zA6 × Unit) -> Br (Int × Unit) := fun (p0, ()) =>
 (.opt (lenP (p0.2.1, ())) fun y2 =>
 (.ret (y2.1, ())))
def runLen := fun x => (ZjO x).run
theorem Znw : OC Tryz.prog 89 [(false, .ty true zA7)] [.ty false (.int .i64)] runLen := OC.lp Zoy 1024 Tryz.func89 [] (by kernel_rfl) trivial (fun _ => by kernel_rfl)
def cx_runLen : Ctx := ocx cx_copyE Znw
theorem Zmc : EnvFull Tryz.prog cx_runLen := ocn Zoy Znw
def ZmG : (zA6 × (Za5 × (Int × (Int × (zA2 × Unit))))) -> Br (zA6 × Unit) := fun (p0, p1, p2, p3, p4, ()) =>
 (.opt (withP (p0.2.1, (p3, p4.2.2.2.1), ())) fun a =>
 (.opt (stampE (p4, 0, ())) fun b =>
 (.opt (runLen (p0, ())) fun c =>
 (.cond (c.1 == 0)
 (.cond (decide (p3 >= 0))
 (.cond (decide (p3 < (p1.1.length : Int)))
 (.cond (decide (0 <= p3) && decide (p3 < (p1.1.length : Int)))
 (.cond ((p1.1.getD p3.toNat zV2).2.2.2.2.1 == 1)
 (.cond (decide (0 <= p3) && decide (p3 < (p1.1.length : Int)))
 (.opt (copyE (p4, ())) fun d =>
 (.opt (withB (p0.2.2.1, ((p1.1.getD p3.toNat zV2).1, d.1), ())) fun e =>
 (.ret ((p2, a.1, e.1, p4.2.2.1, (b.1.1, b.1.2.1, b.1.2.2), false), ()))))
 (.no))
 (.ret ((p2, a.1, p0.2.2.1, p4.2.2.1, (b.1.1, b.1.2.1, b.1.2.2), false), ())))
 (.no))
 (.ret ((p2, a.1, p0.2.2.1, p4.2.2.1, (b.1.1, b.1.2.1, b.1.2.2), false), ())))
 (.ret ((p2, a.1, p0.2.2.1, p4.2.2.1, (b.1.1, b.1.2.1, b.1.2.2), false), ())))
 (.cond (decide (p3 >= 0))
 (.cond (decide (p3 < (p1.1.length : Int)))
 (.cond (decide (0 <= p3) && decide (p3 < (p1.1.length : Int)))
 (.cond ((p1.1.getD p3.toNat zV2).2.2.2.2.1 == 1)
 (.cond (decide (0 <= p3) && decide (p3 < (p1.1.length : Int)))
 (.opt (copyE (p4, ())) fun f =>
 (.opt (withB (p0.2.2.1, ((p1.1.getD p3.toNat zV2).1, f.1), ())) fun g =>
 (.ret ((p2, a.1, g.1, p0.2.2.2.1, (b.1.1, b.1.2.1, b.1.2.2), false), ()))))
 (.no))
 (.ret ((p2, a.1, p0.2.2.1, p0.2.2.2.1, (b.1.1, b.1.2.1, b.1.2.2), false), ())))
 (.no))
 (.ret ((p2, a.1, p0.2.2.1, p0.2.2.2.1, (b.1.1, b.1.2.1, b.1.2.2), false), ())))
 (.ret ((p2, a.1, p0.2.2.1, p0.2.2.2.1, (b.1.1, b.1.2.1, b.1.2.2), false), ())))))))
def runWith := fun x => (ZmG x).run
theorem Zlc : OC Tryz.prog 67 [(false, .ty false zA7), (false, .ty true zA5), (false, .ty false (.int .i64)), (false, .ty false (.int .i64)), (false, .ty false zA9)] [.ty false zA7] runWith := OC.lp Zmc 1024 Tryz.func67 [] (by kernel_rfl) trivial (fun _ => by kernel_rfl)
def cx_runWith : Ctx := ocx cx_runLen Zlc
theorem Zlx : EnvFull Tryz.prog cx_runWith := ocn Zmc Zlc
def Zmz : (zA6 × Unit) -> Br (Int × Unit) := fun (p0, ()) =>
 (.opt (newestP (p0.2.1, ())) fun y2 =>
 (.cond (!y2.1.2)
 (.ret (-1, ()))
 (.ret (y2.1.1.1, ()))))
def runElem := fun x => (Zmz x).run
theorem Zlm : OC Tryz.prog 64 [(false, .ty true zA7)] [.ty false (.int .i64)] runElem := OC.lp Zlx 1024 Tryz.func64 [] (by kernel_rfl) trivial (fun _ => by kernel_rfl)
def cx_runElem : Ctx := ocx cx_runWith Zlm
theorem Zj3 : EnvFull Tryz.prog cx_runElem := ocn Zlx Zlm
def Zdt : ((List ByteArray) × (ByteArray × (Int × (Int × Unit)))) -> Br (((List ByteArray) × (ByteArray × (Int × (Int × Unit)))) ⊕ ((Int × Unit) ⊕ Unit)) := fun (a, b, c, d, ()) =>
 (.cond (decide (d < c))
 (.cond (decide (0 <= d) && decide (d < (a.length : Int)))
 (.cond (bl b == bl (List.getD a d.toNat ByteArray.empty))
 (.ret (.inr (.inl (d, ()))))
 (.ret (.inl (a, b, c, IntKind.wrap .i64 (d + 1), ()))))
 (.no))
 (.ret (.inr (.inr (())))))
def idxStr_w0 := Zag fun x => (Zdt x).run
def Zjt : ((List ByteArray) × (ByteArray × Unit)) -> Br (Int × Unit) := fun (p0, p1, ()) =>
 (.opt (idxStr_w0 (p0, p1, (p0.length : Int), 0, ())) fun a =>
 (.sum a (fun b =>
 (.ret (b.1, ()))) (fun c =>
 (.ret (-1, ())))))
def idxStr := fun x => (Zjt x).run
def idxStr_L : List Lp := [
 .mk 2 (shO 19 [] [] [.slot 0 true (.sl .str), .slot 1 false .str, sI 7, sI 8] []) ([exO .ret 19 [] [] [sI 4] [], exO (.exit 0) 19 [] [] [] []]) Zdt]
theorem Zmn : OC Tryz.prog 123 [(false, .ty true (.sl .str)), (false, .ty false .str)] [.ty false (.int .i64)] idxStr := OC.lp Zj3 1024 Tryz.func123 idxStr_L (by kernel_rfl) ⟨fun _ => by kernel_rfl, trivial⟩ (fun _ => by kernel_rfl)
def cx_idxStr : Ctx := ocx cx_runElem Zmn
theorem Zng : EnvFull Tryz.prog cx_idxStr := ocn Zj3 Zmn
def ZjT : ((List ByteArray) × (ByteArray × Unit)) -> Br (Bool × Unit) := fun (p0, p1, ()) =>
 (.opt (idxStr (p0, p1, ())) fun y3 =>
 (.ret (decide (y3.1 >= 0), ())))
def hasStr := fun x => (ZjT x).run
theorem Zm9 : OC Tryz.prog 93 [(false, .ty true (.sl .str)), (false, .ty false .str)] [.ty false .bool] hasStr := OC.lp Zng 1024 Tryz.func93 [] (by kernel_rfl) trivial (fun _ => by kernel_rfl)
def cx_hasStr : Ctx := ocx cx_idxStr Zm9
theorem Zne : EnvFull Tryz.prog cx_hasStr := ocn Zng Zm9
def Zhk : (Int × (Int × (Za5 × ((List Int) × Unit)))) -> Br ((Int × (Int × (Za5 × ((List Int) × Unit)))) ⊕ ((List Int) × Unit)) := fun (a, b, c, d, ()) =>
 (.cond (decide (b < (c.1.length : Int)))
 (.cond (decide (a < (c.1.length : Int)))
 (.cond (decide (0 <= b) && decide (b < (c.1.length : Int)))
 (.cond (c.1.getD b.toNat zV2).2.2.1
 (.cond (decide ((List.length d + List.length (List.set (List.replicate 1 0) 0 b)) * 8 <= 140737488355328))
 (.ret (.inl (a, IntKind.wrap .i64 (b + 1), c, d ++ List.set (List.replicate 1 0) 0 b, ())))
 (.no))
 (.ret (.inr (d, ()))))
 (.no))
 (.ret (.inr (d, ()))))
 (.ret (.inr (d, ()))))
def betwQ_w0 := Zag fun x => (Zhk x).run
def ZrX : (Za5 × (Int × Unit)) -> Br ((List Int) × Unit) := fun (p0, p1, ()) =>
 (.opt (betwQ_w0 (p1, if IntKind.wrap .i64 (p1 + 1) < 0 then 0 else IntKind.wrap .i64 (p1 + 1), p0, [], ())) fun a =>
 (.ret (a.1, ())))
def betwQ := fun x => (ZrX x).run
def betwQ_L : List Lp := [
 .mk 3 (shO 37 [(2, .c (.ref 1026 0 0)), (5, .c (.mfull 1724))] [(1026, []), (1724, [])] [sI 1, sI 6, .tv 1026 true zA5, .ar 1724 false 3 (.int .i64)] [5]) ([exO (.exit 0) 37 [(5, .c (.mfull 1725))] [(1725, [])] [.ar 1725 false 3 (.int .i64)] [5]]) Zhk]
theorem ZpK : OC Tryz.prog 99 [(false, .ty true zA5), (false, .ty false (.int .i64))] [.ty false (.sl (.int .i64))] betwQ := OC.lp Zne 1024 Tryz.func99 betwQ_L (by kernel_rfl) ⟨fun _ => by kernel_rfl, trivial⟩ (fun _ => by kernel_rfl)
def cx_betwQ : Ctx := ocx cx_hasStr ZpK
theorem en_betwQ : EnvFull Tryz.prog cx_betwQ := ocn Zne ZpK
end
end Go.Proofs.YtkbdofnbagmlfaaGreat
