/- The schema of the three types, by the kernel. Contracts of functions. Printed by auto.py. The schema of three types; events that are made; fields of variables: whatever is asked, an answer. Contracts of functions. Printed by auto.py. Chains of pairs and of bound events: one more. A context: events made, beside the chains. Contracts of functions. Printed by auto.py. -/
import Derived.Test.YtnhiplibodkciaaW1
import Derived.KernelRfl
import Derived.Test.YtnhiplibodkciaaHa
import Derived.Test.YtnhiplibodkciaaHb
import Derived.Test.YtnhiplibodkciaaHc
import Derived.Test.YtnhiplibodkciaaGe
namespace Go.Proofs.Ytnhiplibodkciaa
open Go.PI Go
end Go.Proofs.Ytnhiplibodkciaa

namespace Go.Proofs.Ytnhiplibodkciaa
open Go.PI Go
noncomputable def eventR_B : (zA2 × Unit) → Br (zA2 × Unit) := fun (p0, ()) =>
 (.cond (false)
 (.no)
 (.cond (decide ((↑(List.length p0.2.2.2.2) : Int) > 0))
 (.cond (decide (0 ≤ 0) && decide (0 < (↑(List.length p0.2.2.2.2) : Int)))
 (.cond (decide (0 ≤ 0) && decide (0 < (↑(List.length p0.2.2.2.2) : Int)))
 (.cond (Prod.snd (Prod.snd (Prod.snd (List.getD p0.2.2.2.2 (Int.toNat 0) (0, 0, ByteArray.empty, false)))))
 (.cond (decide (0 ≤ Int.tmod (IntKind.wrap .i64 (↑(BitVec.toNat (BitVec.ofInt (IntKind.bits .i64) p0.2.2.2.1 &&& BitVec.ofInt (IntKind.bits .i64) 255)) : Int)) 3) && decide (Int.tmod (IntKind.wrap .i64 (↑(BitVec.toNat (BitVec.ofInt (IntKind.bits .i64) p0.2.2.2.1 &&& BitVec.ofInt (IntKind.bits .i64) 255)) : Int)) 3 < (↑(List.length (List.set (List.set (List.set (List.replicate 3 ByteArray.empty) 0 { data := #[65] }) 1 { data := #[66] }) 2 { data := #[67] })) : Int)))
 (.cond (false)
 (.no)
 (.cond (decide (0 ≤ Int.tmod (↑(ByteArray.size p0.2.1) : Int) 3) && decide (Int.tmod (↑(ByteArray.size p0.2.1) : Int) 3 < (↑(List.length (List.set (List.set (List.set (List.replicate 3 ByteArray.empty) 0 { data := #[107] }) 1 { data := #[108] }) 2 { data := #[109] })) : Int)))
 (.cond (Int.tmod (IntKind.wrap .i64 (↑(BitVec.toNat (BitVec.ofInt (IntKind.bits .i64) p0.2.2.2.1 &&& BitVec.ofInt (IntKind.bits .i64) 255)) : Int)) 3 == 2)
 (.ret ((List.getD (List.set (List.set (List.set (List.replicate 3 ByteArray.empty) 0 { data := #[65] }) 1 { data := #[66] }) 2 { data := #[67] }) (Int.toNat (Int.tmod (IntKind.wrap .i64 (↑(BitVec.toNat (BitVec.ofInt (IntKind.bits .i64) p0.2.2.2.1 &&& BitVec.ofInt (IntKind.bits .i64) 255)) : Int)) 3)) ByteArray.empty, List.getD (List.set (List.set (List.set (List.replicate 3 ByteArray.empty) 0 { data := #[107] }) 1 { data := #[108] }) 2 { data := #[109] }) (Int.toNat (Int.tmod (↑(ByteArray.size p0.2.1) : Int) 3)) ByteArray.empty, IntKind.wrap .i64 (↑(BitVec.toNat (BitVec.ofInt (IntKind.bits .i64) p0.2.2.1 &&& BitVec.ofInt (IntKind.bits .i64) 15)) : Int), 0, [(2, 0, { data := #[118] }, false), (1, IntKind.wrap .i64 (↑(BitVec.toNat (BitVec.ofInt (IntKind.bits .i64) (Prod.fst (Prod.snd (List.getD p0.2.2.2.2 (Int.toNat 0) (0, 0, ByteArray.empty, false)))) &&& BitVec.ofInt (IntKind.bits .i64) 3)) : Int), ByteArray.empty, false), (3, 0, ByteArray.empty, decide (IntKind.wrap .i64 (↑(BitVec.toNat (BitVec.ofInt (IntKind.bits .i64) p0.2.2.1 &&& BitVec.ofInt (IntKind.bits .i64) 64)) : Int) > 0))]), ()))
 (.ret ((List.getD (List.set (List.set (List.set (List.replicate 3 ByteArray.empty) 0 { data := #[65] }) 1 { data := #[66] }) 2 { data := #[67] }) (Int.toNat (Int.tmod (IntKind.wrap .i64 (↑(BitVec.toNat (BitVec.ofInt (IntKind.bits .i64) p0.2.2.2.1 &&& BitVec.ofInt (IntKind.bits .i64) 255)) : Int)) 3)) ByteArray.empty, List.getD (List.set (List.set (List.set (List.replicate 3 ByteArray.empty) 0 { data := #[107] }) 1 { data := #[108] }) 2 { data := #[109] }) (Int.toNat (Int.tmod (↑(ByteArray.size p0.2.1) : Int) 3)) ByteArray.empty, IntKind.wrap .i64 (↑(BitVec.toNat (BitVec.ofInt (IntKind.bits .i64) p0.2.2.1 &&& BitVec.ofInt (IntKind.bits .i64) 15)) : Int), 0, [(1, IntKind.wrap .i64 (↑(BitVec.toNat (BitVec.ofInt (IntKind.bits .i64) (Prod.fst (Prod.snd (List.getD p0.2.2.2.2 (Int.toNat 0) (0, 0, ByteArray.empty, false)))) &&& BitVec.ofInt (IntKind.bits .i64) 3)) : Int), ByteArray.empty, false), (2, 0, { data := #[118] }, false)]), ())))
 (.no)))
 (.no))
 (.cond (decide (0 ≤ Int.tmod (IntKind.wrap .i64 (↑(BitVec.toNat (BitVec.ofInt (IntKind.bits .i64) p0.2.2.2.1 &&& BitVec.ofInt (IntKind.bits .i64) 255)) : Int)) 3) && decide (Int.tmod (IntKind.wrap .i64 (↑(BitVec.toNat (BitVec.ofInt (IntKind.bits .i64) p0.2.2.2.1 &&& BitVec.ofInt (IntKind.bits .i64) 255)) : Int)) 3 < (↑(List.length (List.set (List.set (List.set (List.replicate 3 ByteArray.empty) 0 { data := #[65] }) 1 { data := #[66] }) 2 { data := #[67] })) : Int)))
 (.cond (false)
 (.no)
 (.cond (decide (0 ≤ Int.tmod (↑(ByteArray.size p0.2.1) : Int) 3) && decide (Int.tmod (↑(ByteArray.size p0.2.1) : Int) 3 < (↑(List.length (List.set (List.set (List.set (List.replicate 3 ByteArray.empty) 0 { data := #[107] }) 1 { data := #[108] }) 2 { data := #[109] })) : Int)))
 (.cond (Int.tmod (IntKind.wrap .i64 (↑(BitVec.toNat (BitVec.ofInt (IntKind.bits .i64) p0.2.2.2.1 &&& BitVec.ofInt (IntKind.bits .i64) 255)) : Int)) 3 == 2)
 (.ret ((List.getD (List.set (List.set (List.set (List.replicate 3 ByteArray.empty) 0 { data := #[65] }) 1 { data := #[66] }) 2 { data := #[67] }) (Int.toNat (Int.tmod (IntKind.wrap .i64 (↑(BitVec.toNat (BitVec.ofInt (IntKind.bits .i64) p0.2.2.2.1 &&& BitVec.ofInt (IntKind.bits .i64) 255)) : Int)) 3)) ByteArray.empty, List.getD (List.set (List.set (List.set (List.replicate 3 ByteArray.empty) 0 { data := #[107] }) 1 { data := #[108] }) 2 { data := #[109] }) (Int.toNat (Int.tmod (↑(ByteArray.size p0.2.1) : Int) 3)) ByteArray.empty, IntKind.wrap .i64 (↑(BitVec.toNat (BitVec.ofInt (IntKind.bits .i64) p0.2.2.1 &&& BitVec.ofInt (IntKind.bits .i64) 15)) : Int), 0, [(2, 0, { data := #[117] }, false), (1, IntKind.wrap .i64 (↑(BitVec.toNat (BitVec.ofInt (IntKind.bits .i64) (Prod.fst (Prod.snd (List.getD p0.2.2.2.2 (Int.toNat 0) (0, 0, ByteArray.empty, false)))) &&& BitVec.ofInt (IntKind.bits .i64) 3)) : Int), ByteArray.empty, false), (3, 0, ByteArray.empty, decide (IntKind.wrap .i64 (↑(BitVec.toNat (BitVec.ofInt (IntKind.bits .i64) p0.2.2.1 &&& BitVec.ofInt (IntKind.bits .i64) 64)) : Int) > 0))]), ()))
 (.ret ((List.getD (List.set (List.set (List.set (List.replicate 3 ByteArray.empty) 0 { data := #[65] }) 1 { data := #[66] }) 2 { data := #[67] }) (Int.toNat (Int.tmod (IntKind.wrap .i64 (↑(BitVec.toNat (BitVec.ofInt (IntKind.bits .i64) p0.2.2.2.1 &&& BitVec.ofInt (IntKind.bits .i64) 255)) : Int)) 3)) ByteArray.empty, List.getD (List.set (List.set (List.set (List.replicate 3 ByteArray.empty) 0 { data := #[107] }) 1 { data := #[108] }) 2 { data := #[109] }) (Int.toNat (Int.tmod (↑(ByteArray.size p0.2.1) : Int) 3)) ByteArray.empty, IntKind.wrap .i64 (↑(BitVec.toNat (BitVec.ofInt (IntKind.bits .i64) p0.2.2.1 &&& BitVec.ofInt (IntKind.bits .i64) 15)) : Int), 0, [(1, IntKind.wrap .i64 (↑(BitVec.toNat (BitVec.ofInt (IntKind.bits .i64) (Prod.fst (Prod.snd (List.getD p0.2.2.2.2 (Int.toNat 0) (0, 0, ByteArray.empty, false)))) &&& BitVec.ofInt (IntKind.bits .i64) 3)) : Int), ByteArray.empty, false), (2, 0, { data := #[117] }, false)]), ())))
 (.no)))
 (.no)))
 (.no))
 (.no))
 (.cond (decide (0 ≤ Int.tmod (IntKind.wrap .i64 (↑(BitVec.toNat (BitVec.ofInt (IntKind.bits .i64) p0.2.2.2.1 &&& BitVec.ofInt (IntKind.bits .i64) 255)) : Int)) 3) && decide (Int.tmod (IntKind.wrap .i64 (↑(BitVec.toNat (BitVec.ofInt (IntKind.bits .i64) p0.2.2.2.1 &&& BitVec.ofInt (IntKind.bits .i64) 255)) : Int)) 3 < (↑(List.length (List.set (List.set (List.set (List.replicate 3 ByteArray.empty) 0 { data := #[65] }) 1 { data := #[66] }) 2 { data := #[67] })) : Int)))
 (.cond (false)
 (.no)
 (.cond (decide (0 ≤ Int.tmod (↑(ByteArray.size p0.2.1) : Int) 3) && decide (Int.tmod (↑(ByteArray.size p0.2.1) : Int) 3 < (↑(List.length (List.set (List.set (List.set (List.replicate 3 ByteArray.empty) 0 { data := #[107] }) 1 { data := #[108] }) 2 { data := #[109] })) : Int)))
 (.cond (Int.tmod (IntKind.wrap .i64 (↑(BitVec.toNat (BitVec.ofInt (IntKind.bits .i64) p0.2.2.2.1 &&& BitVec.ofInt (IntKind.bits .i64) 255)) : Int)) 3 == 2)
 (.ret ((List.getD (List.set (List.set (List.set (List.replicate 3 ByteArray.empty) 0 { data := #[65] }) 1 { data := #[66] }) 2 { data := #[67] }) (Int.toNat (Int.tmod (IntKind.wrap .i64 (↑(BitVec.toNat (BitVec.ofInt (IntKind.bits .i64) p0.2.2.2.1 &&& BitVec.ofInt (IntKind.bits .i64) 255)) : Int)) 3)) ByteArray.empty, List.getD (List.set (List.set (List.set (List.replicate 3 ByteArray.empty) 0 { data := #[107] }) 1 { data := #[108] }) 2 { data := #[109] }) (Int.toNat (Int.tmod (↑(ByteArray.size p0.2.1) : Int) 3)) ByteArray.empty, IntKind.wrap .i64 (↑(BitVec.toNat (BitVec.ofInt (IntKind.bits .i64) p0.2.2.1 &&& BitVec.ofInt (IntKind.bits .i64) 15)) : Int), 0, [(2, 0, { data := #[117] }, false), (1, 0, ByteArray.empty, false), (3, 0, ByteArray.empty, decide (IntKind.wrap .i64 (↑(BitVec.toNat (BitVec.ofInt (IntKind.bits .i64) p0.2.2.1 &&& BitVec.ofInt (IntKind.bits .i64) 64)) : Int) > 0))]), ()))
 (.ret ((List.getD (List.set (List.set (List.set (List.replicate 3 ByteArray.empty) 0 { data := #[65] }) 1 { data := #[66] }) 2 { data := #[67] }) (Int.toNat (Int.tmod (IntKind.wrap .i64 (↑(BitVec.toNat (BitVec.ofInt (IntKind.bits .i64) p0.2.2.2.1 &&& BitVec.ofInt (IntKind.bits .i64) 255)) : Int)) 3)) ByteArray.empty, List.getD (List.set (List.set (List.set (List.replicate 3 ByteArray.empty) 0 { data := #[107] }) 1 { data := #[108] }) 2 { data := #[109] }) (Int.toNat (Int.tmod (↑(ByteArray.size p0.2.1) : Int) 3)) ByteArray.empty, IntKind.wrap .i64 (↑(BitVec.toNat (BitVec.ofInt (IntKind.bits .i64) p0.2.2.1 &&& BitVec.ofInt (IntKind.bits .i64) 15)) : Int), 0, [(1, 0, ByteArray.empty, false), (2, 0, { data := #[117] }, false)]), ())))
 (.no)))
 (.no))))
noncomputable def eventR : (zA2 × Unit) → Option (zA2 × Unit) := fun x => (eventR_B x).run
abbrev eventR_ins : List (Bool × Pat) := [(false, .ty true zA9)]
abbrev eventR_outs : List Pat := [.ty false zA9]
noncomputable abbrev eventR_f : Func := Try.f30
noncomputable abbrev eventR_P : Program := Try.prog
noncomputable def eventR_c : Ctx := { cx_cmpStr with base := 1024 }
set_option maxRecDepth 100000 in
theorem eventR_env : EnvFull eventR_P eventR_c := env_base (en_cmpStr) 1024
noncomputable def eventR_p : Par := { sh := fun _ => none, k := 0, lo := fun _ => none }
set_option maxRecDepth 100000 in
theorem eventR_eq (p0 : zA2) : ocRun eventR_c eventR_p eventR_f eventR_ins eventR_outs (p0, ()) = eventR_B (p0, ()) := by kernel_rfl
set_option maxRecDepth 100000 in
theorem eventR_oc : OC eventR_P 30 eventR_ins eventR_outs eventR := OC.of_tree eventR_env Try.func30 (by kernel_rfl) (by kernel_rfl) (p := eventR_p) (fun g hg => LoOk.of (l := []) (by kernel_rfl) .nil) (fun (p0, ()) => eventR_eq p0)
end Go.Proofs.Ytnhiplibodkciaa

namespace Go.Proofs.Ytnhiplibodkciaa
open Go.PI Go

abbrev T3 : List (ByteArray × Flds) := [({ data := #[65] }, [({ data := #[120] }, 1), ({ data := #[115] }, 2)]), ({ data := #[66] }, [({ data := #[120] }, 1), ({ data := #[115] }, 2)]), ({ data := #[67] }, [({ data := #[115] }, 2), ({ data := #[120] }, 1), ({ data := #[98] }, 3)])]
abbrev sch3 : Sch := some T3
theorem typesR_at : typesR () = some (T3, ()) := by kernel_rfl
theorem newS_T3 : newS (T3, ()) = some ((sch3, 0), ()) := newS_le 100 _ _ (by kernel_rfl)

theorem mask_in (x m : Int) (hm : 0 ≤ m) (hm2 : m < 9223372036854775808) : 0 ≤ IntKind.wrap .i64 (↑(BitVec.toNat (BitVec.ofInt (IntKind.bits .i64) x &&& BitVec.ofInt (IntKind.bits .i64) m)) : Int) ∧ IntKind.wrap .i64 (↑(BitVec.toNat (BitVec.ofInt (IntKind.bits .i64) x &&& BitVec.ofInt (IntKind.bits .i64) m)) : Int) ≤ m := by
  have h1 : BitVec.toNat (BitVec.ofInt (IntKind.bits .i64) x &&& BitVec.ofInt (IntKind.bits .i64) m) ≤ m.toNat := by
    rw [BitVec.toNat_and]
    refine Nat.le_trans Nat.and_le_right ?_
    rw [BitVec.toNat_ofInt]
    have : (m % ((2 ^ IntKind.bits .i64 : Nat) : Int)) = m := Int.emod_eq_of_lt hm (by
      have : ((2 ^ IntKind.bits .i64 : Nat) : Int) = 18446744073709551616 := by decide
      rw [this]; omega)
    rw [this]
    exact Nat.le_refl _
  rw [wrap_small (by omega) (by omega)]
  omega

theorem tmod3 (x : Int) (h : 0 ≤ x) : Int.tmod x 3 = 0 ∨ Int.tmod x 3 = 1 ∨ Int.tmod x 3 = 2 := by
  have h1 := Int.tmod_nonneg 3 h
  have h2 := Int.tmod_lt_of_pos x (show (0 : Int) < 3 by decide)
  omega

def typK (k : Int) : ByteArray := if k = 0 then { data := #[65] } else if k = 1 then { data := #[66] } else { data := #[67] }
abbrev sU : ByteArray := { data := #[117] }
abbrev sVv : ByteArray := { data := #[118] }
def keyK (k : Int) : ByteArray := if k = 0 then { data := #[107] } else if k = 1 then { data := #[108] } else { data := #[109] }
def mkE (k : Int) (key : ByteArray) (t n : Int) (s : ByteArray) (b : Bool) : Evt := (typK k, key, t, 0, if k = 2 then [sV s, iV n, bV b] else [iV n, sV s])

theorem eventR_at (e : Evt) : ∃ k key t n s b, (k = 0 ∨ k = 1 ∨ k = 2) ∧ (n = 0 ∨ n = 1 ∨ n = 2 ∨ n = 3) ∧ (s = sU ∨ s = sVv) ∧ eventR (e, ()) = some (mkE k key t n s b, ()) := by
  obtain ⟨ty, key, tm, sq, vals⟩ := e
  unfold eventR eventR_B
  dsimp only
  have hK := tmod3 _ (mask_in sq 255 (by decide) (by decide)).1
  have hY := tmod3 (↑(ByteArray.size key) : Int) (by omega)
  have hN := mask_in (Prod.fst (Prod.snd (List.getD vals (Int.toNat 0) (0, 0, ByteArray.empty, false)))) 3 (by decide) (by decide)
  generalize Int.tmod (IntKind.wrap IntKind.i64 (↑(BitVec.toNat (BitVec.ofInt (IntKind.bits IntKind.i64) sq &&& BitVec.ofInt (IntKind.bits IntKind.i64) 255)) : Int)) 3 = K at hK ⊢
  generalize Int.tmod (↑(ByteArray.size key) : Int) 3 = Y at hY ⊢
  generalize IntKind.wrap IntKind.i64 (↑(BitVec.toNat (BitVec.ofInt (IntKind.bits IntKind.i64) (Prod.fst (Prod.snd (List.getD vals (Int.toNat 0) (0, 0, ByteArray.empty, false)))) &&& BitVec.ofInt (IntKind.bits IntKind.i64) 3)) : Int) = N at hN ⊢
  generalize IntKind.wrap IntKind.i64 (↑(BitVec.toNat (BitVec.ofInt (IntKind.bits IntKind.i64) tm &&& BitVec.ofInt (IntKind.bits IntKind.i64) 15)) : Int) = M
  generalize decide (IntKind.wrap IntKind.i64 (↑(BitVec.toNat (BitVec.ofInt (IntKind.bits IntKind.i64) tm &&& BitVec.ofInt (IntKind.bits IntKind.i64) 64)) : Int) > 0) = B
  have hN' : N = 0 ∨ N = 1 ∨ N = 2 ∨ N = 3 := by omega
  cases vals with
  | nil =>
    refine ⟨K, keyK Y, M, 0, sU, B, hK, .inl rfl, .inl rfl, ?_⟩
    rcases hK with rfl | rfl | rfl <;> rcases hY with rfl | rfl | rfl <;> rfl
  | cons v r =>
    have e1 : (decide ((↑(List.length (v :: r)) : Int) > 0)) = true := by simp
    rw [e1]
    obtain ⟨v1, v2, v3, vb⟩ := v
    cases vb
    · refine ⟨K, keyK Y, M, N, sU, B, hK, hN', .inl rfl, ?_⟩
      rcases hK with rfl | rfl | rfl <;> rcases hY with rfl | rfl | rfl <;> rfl
    · refine ⟨K, keyK Y, M, N, sVv, B, hK, hN', .inr rfl, ?_⟩
      rcases hK with rfl | rfl | rfl <;> rcases hY with rfl | rfl | rfl <;> rfl

theorem idxBnd_tot (env : List Bnd) (he : env.length ≤ 64) (n : Nd) : ∃ r, idxBnd (env, n, ()) = some (r, ()) ∧ (r < 0 ∨ 0 ≤ r ∧ r < (env.length : Int)) := by
  unfold idxBnd idxBnd_B
  obtain ⟨z, hz, hq⟩ : ∃ z, idxBnd_w0 (env, (n, ()), (↑(List.length env) : Int), 0, ()) = some z ∧ ∀ u, z = .inl u → 0 ≤ u.1 ∧ u.1 < (env.length : Int) := by
    refine iterO_rec (step := fun x => (idxBnd_l0 x).run) (Q := fun _ z => ∀ u, z = .inl u → 0 ≤ u.1 ∧ u.1 < (env.length : Int)) (fun x => x.1 = env ∧ x.2.1 = (n, ()) ∧ x.2.2.1 = (env.length : Int) ∧ 0 ≤ x.2.2.2.1 ∧ x.2.2.2.1 ≤ (env.length : Int)) (fun x => ((env.length : Int) - x.2.2.2.1).toNat) ?_ _ ⟨rfl, rfl, rfl, by dsimp only; omega, by dsimp only; omega⟩
    rintro ⟨l, n', m, i, ⟨⟩⟩ hx
    dsimp only at hx ⊢
    obtain ⟨rfl, rfl, rfl, h0, h1⟩ := hx
    unfold idxBnd_l0 bndEq bndEq_B
    by_cases hi : i < (l.length : Int)
    · have hw : IntKind.wrap .i64 (i + 1) = i + 1 := wrap_small (by omega) (by omega)
      simp only [Br.run, decide_eq_true hi, decide_eq_true h0, Bool.and_self, cond_true, hw, cond_eq_ite]
      by_cases hc : (bl (l.getD i.toNat (ByteArray.empty, ByteArray.empty, ByteArray.empty, 0, 0, [])).fst == bl ([n].getD 0 (0, (0, 0, ByteArray.empty, false), ByteArray.empty, ByteArray.empty)).snd.snd.fst) = true <;> simp only [hc, ↓reduceIte, Bool.false_eq_true]
      · refine .inr ⟨_, rfl, ?_⟩
        intro u hu
        cases hu
        exact ⟨h0, hi⟩
      · refine .inl ⟨_, rfl, ?_, ?_, fun z hz => hz⟩
        · exact ⟨rfl, rfl, rfl, by dsimp only; omega, by dsimp only; omega⟩
        · dsimp only; omega
    · simp only [Br.run, decide_eq_false hi, cond_false]
      refine .inr ⟨_, rfl, ?_⟩
      intro u hu
      cases hu
  simp only [Br.run, hz]
  cases z with
  | inl u => exact ⟨u.1, rfl, .inr (hq u rfl)⟩
  | inr u => exact ⟨-1, rfl, .inl (by omega)⟩

theorem T3_len (i : Nat) : (T3.getD i (ByteArray.empty, [])).2.length ≤ 3 := by
  match i with
  | 0 => decide
  | 1 => decide
  | 2 => decide
  | n + 3 => exact Nat.zero_le _

theorem findF_tot (name : ByteArray) : ∃ t b, findF (sch3, name, ()) = some ((t, b), ()) ∧ t.2.length ≤ 3 := by
  unfold findF findF_B
  obtain ⟨z, hz, hq⟩ : ∃ z, findF_w0 (name, T3, ((3 : Nat) : Int), 0, ByteArray.empty, ()) = some z ∧ ∀ u, z = .inl u → u.1.2.length ≤ 3 := by
    refine iterO_rec (step := fun x => (findF_l0 x).run) (Q := fun _ z => ∀ u, z = .inl u → u.1.2.length ≤ 3) (fun x => x.1 = name ∧ x.2.1 = T3 ∧ x.2.2.1 = ((3 : Nat) : Int) ∧ 0 ≤ x.2.2.2.1 ∧ x.2.2.2.1 ≤ 3) (fun x => ((3 : Int) - x.2.2.2.1).toNat) ?_ _ ⟨rfl, rfl, rfl, by dsimp only; omega, by dsimp only; omega⟩
    rintro ⟨nm, l, m, i, c, ⟨⟩⟩ hx
    dsimp only at hx ⊢
    obtain ⟨rfl, rfl, rfl, h0, h1⟩ := hx
    unfold findF_l0 cloneField
    by_cases hi : i < ((3 : Nat) : Int)
    · have hw : IntKind.wrap .i64 (i + 1) = i + 1 := wrap_small (by omega) (by omega)
      have h2 : i < ((List.length T3 : Nat) : Int) := hi
      have hb : bound (0 + List.length (Prod.snd (List.getD T3 (Int.toNat i) (ByteArray.empty, [])))) 24 = true := by
        have := T3_len i.toNat
        unfold bound
        exact decide_eq_true (by omega)
      simp only [Br.run, decide_eq_true hi, decide_eq_true h0, decide_eq_true h2, Bool.and_self, cond_true, hw, cond_eq_ite, hb, ↓reduceIte]
      split
      · refine .inr ⟨_, rfl, ?_⟩
        intro u hu
        cases hu
        exact T3_len _
      · refine .inl ⟨_, rfl, ?_, ?_, fun z hz => hz⟩
        · exact ⟨rfl, rfl, rfl, by dsimp only; omega, by dsimp only; omega⟩
        · dsimp only; omega
    · simp only [Br.run, decide_eq_false hi, cond_false]
      refine .inr ⟨_, rfl, ?_⟩
      intro u hu
      cases hu
  show ∃ (t : ByteArray × Flds) (b : Bool), Br.run (.opt (findF_w0 (name, T3, ((3 : Nat) : Int), 0, ByteArray.empty, ())) _) = some ((t, b), ()) ∧ t.2.length ≤ 3
  rw [hz]
  cases z with
  | inl u => exact ⟨u.1, true, rfl, hq u rfl⟩
  | inr u => exact ⟨(ByteArray.empty, []), false, rfl, by decide⟩

theorem fieldF_tot (name f : ByteArray) : ∃ i k, fieldF (sch3, name, f, ()) = some ((i, k), ()) := by
  unfold fieldF fieldF_B
  obtain ⟨t, b, h, hl⟩ := findF_tot name
  simp only [Br.run, h]
  obtain ⟨z, hz, -⟩ : ∃ z, fieldF_w0 (f, t.2, (↑(List.length t.2) : Int), 0, ()) = some z ∧ True := by
    refine iterO_rec (step := fun x => (fieldF_l0 x).run) (Q := fun _ z => True) (fun x => x.1 = f ∧ x.2.1 = t.2 ∧ x.2.2.1 = (t.2.length : Int) ∧ 0 ≤ x.2.2.2.1 ∧ x.2.2.2.1 ≤ (t.2.length : Int)) (fun x => ((t.2.length : Int) - x.2.2.2.1).toNat) ?_ _ ⟨rfl, rfl, rfl, by dsimp only; omega, by dsimp only; omega⟩
    rintro ⟨nm, l, m, i, ⟨⟩⟩ hx
    dsimp only at hx ⊢
    obtain ⟨rfl, rfl, rfl, h0, h1⟩ := hx
    unfold fieldF_l0
    by_cases hi : i < (t.2.length : Int)
    · have hw : IntKind.wrap .i64 (i + 1) = i + 1 := wrap_small (by omega) (by omega)
      simp only [Br.run, decide_eq_true hi, decide_eq_true h0, Bool.and_self, cond_true, hw, cond_eq_ite]
      by_cases hc : (bl (t.2.getD i.toNat (ByteArray.empty, 0)).fst == bl nm) = true <;> simp only [hc, ↓reduceIte, Bool.false_eq_true]
      · exact .inr ⟨_, rfl, trivial⟩
      · refine .inl ⟨_, rfl, ?_, ?_, fun z hz => hz⟩
        · exact ⟨rfl, rfl, rfl, by dsimp only; omega, by dsimp only; omega⟩
        · dsimp only; omega
    · simp only [Br.run, decide_eq_false hi, cond_false]
      exact .inr ⟨_, rfl, trivial⟩
  simp only [hz, Br.run]
  cases z <;> exact ⟨_, _, rfl⟩

theorem getF_tot (e : Evt) (f : ByteArray) : ∃ v b, getF (sch3, e, f, ()) = some ((v, b), ()) := by
  unfold getF getF_B
  obtain ⟨i, k, h⟩ := fieldF_tot e.1 f
  simp only [Br.run, h, cond_eq_ite, decide_eq_true_eq]
  split
  · exact ⟨_, _, rfl⟩
  · split
    · exact ⟨_, _, rfl⟩
    · have h1 : 0 ≤ i := by omega
      have h2 : i < (↑(List.length (Prod.snd (Prod.snd (Prod.snd (Prod.snd e))))) : Int) := by omega
      simp only [decide_eq_true h1, decide_eq_true h2, Bool.and_self, ↓reduceIte]
      exact ⟨_, _, rfl⟩

theorem fv_tot (env : List Bnd) (he : env.length ≤ 64) : FvTot sch3 env := by
  intro n
  unfold fieldV fieldV_B
  obtain ⟨r, h, hr⟩ := idxBnd_tot env he n
  simp only [Br.run, h, cond_eq_ite, decide_eq_true_eq]
  split
  · exact ⟨_, _, rfl⟩
  · obtain ⟨v, b, hg⟩ := getF_tot (Prod.snd (List.getD env (Int.toNat r) (ByteArray.empty, ByteArray.empty, ByteArray.empty, 0, 0, []))) (Prod.snd (Prod.snd (Prod.snd n)))
    have h1 : 0 ≤ r := by omega
    have h2 : r < (↑(List.length env) : Int) := by omega
    simp only [decide_eq_true h1, decide_eq_true h2, Bool.and_self, ↓reduceIte, hg, Br.run]
    exact ⟨_, _, rfl⟩

end Go.Proofs.Ytnhiplibodkciaa

namespace Go.Proofs.Ytnhiplibodkciaa
open Go.PI Go
noncomputable def lenP_B : zA31 → Br (Int × Unit) := fun (p0, ()) =>
 (.cond (List.isEmpty p0)
 (.ret (0, ()))
 (.cond (!List.isEmpty p0)
 (.ret ((↑(List.length p0) : Int), ()))
 (.no)))
noncomputable def lenP : zA31 → Option (Int × Unit) := fun x => (lenP_B x).run
abbrev lenP_ins : List (Bool × Pat) := [(false, .ty true (.chain zA16))]
abbrev lenP_outs : List Pat := [.ty false (.int .i64)]
noncomputable abbrev lenP_f : Func := Try.f108
noncomputable abbrev lenP_P : Program := Try.prog
noncomputable def lenP_c : Ctx := { cx_holdsF with base := 1024 }
set_option maxRecDepth 100000 in
theorem lenP_env : EnvFull lenP_P lenP_c := env_base (en_holdsF) 1024
noncomputable def lenP_p : Par := { sh := fun _ => none, k := 0, lo := fun _ => none }
set_option maxRecDepth 100000 in
theorem lenP_eq (p0 : (List (Int × Int))) : ocRun lenP_c lenP_p lenP_f lenP_ins lenP_outs (p0, ()) = lenP_B (p0, ()) := by kernel_rfl
set_option maxRecDepth 100000 in
theorem lenP_oc : OC lenP_P 108 lenP_ins lenP_outs lenP := OC.of_tree lenP_env Try.func108 (by kernel_rfl) (by kernel_rfl) (p := lenP_p) (fun g hg => LoOk.of (l := []) (by kernel_rfl) .nil) (fun (p0, ()) => lenP_eq p0)
noncomputable def cx_lenP : Ctx := addO cx_holdsF 108 (ocOrc lenP_ins lenP_outs lenP)
theorem en_lenP : EnvFull Try.prog cx_lenP := env_add (en_holdsF) lenP_oc.callOk
noncomputable def lenB_B : (zA21 × Unit) → Br (Int × Unit) := fun (p0, ()) =>
 (.cond (List.isEmpty p0)
 (.ret (0, ()))
 (.cond (!List.isEmpty p0)
 (.ret ((↑(List.length p0) : Int), ()))
 (.no)))
noncomputable def lenB : (zA21 × Unit) → Option (Int × Unit) := fun x => (lenB_B x).run
abbrev lenB_ins : List (Bool × Pat) := [(false, .ty true (.chain (.st (.pair .str zA9))))]
abbrev lenB_outs : List Pat := [.ty false (.int .i64)]
noncomputable abbrev lenB_f : Func := Try.f132
noncomputable abbrev lenB_P : Program := Try.prog
noncomputable def lenB_c : Ctx := { cx_lenP with base := 1024 }
set_option maxRecDepth 100000 in
theorem lenB_env : EnvFull lenB_P lenB_c := env_base (en_lenP) 1024
noncomputable def lenB_p : Par := { sh := fun _ => none, k := 0, lo := fun _ => none }
set_option maxRecDepth 100000 in
theorem lenB_eq (p0 : zA21) : ocRun lenB_c lenB_p lenB_f lenB_ins lenB_outs (p0, ()) = lenB_B (p0, ()) := by kernel_rfl
set_option maxRecDepth 100000 in
theorem lenB_oc : OC lenB_P 132 lenB_ins lenB_outs lenB := OC.of_tree lenB_env Try.func132 (by kernel_rfl) (by kernel_rfl) (p := lenB_p) (fun g hg => LoOk.of (l := []) (by kernel_rfl) .nil) (fun (p0, ()) => lenB_eq p0)
noncomputable def cx_lenB : Ctx := addO cx_lenP 132 (ocOrc lenB_ins lenB_outs lenB)
theorem en_lenB : EnvFull Try.prog cx_lenB := env_add (en_lenP) lenB_oc.callOk
noncomputable def newestP_B : zA31 → Br (((Int × Int) × Bool) × Unit) := fun (p0, ()) =>
 (.opt (lenP (p0, ())) fun y2 =>
 (.cond (y2.1 == 0)
 (.ret (((0, 0), false), ()))
 (.cond (!List.isEmpty p0)
 (.ret ((List.headD p0 (0, 0), true), ()))
 (.no))))
noncomputable def newestP : zA31 → Option (((Int × Int) × Bool) × Unit) := fun x => (newestP_B x).run
abbrev newestP_ins : List (Bool × Pat) := [(false, .ty true (.chain zA16))]
abbrev newestP_outs : List Pat := [.ty false zA16, .ty false .bool]
noncomputable abbrev newestP_f : Func := Try.f101
noncomputable abbrev newestP_P : Program := Try.prog
noncomputable def newestP_c : Ctx := { cx_lenB with base := 1024 }
set_option maxRecDepth 100000 in
theorem newestP_env : EnvFull newestP_P newestP_c := env_base (en_lenB) 1024
noncomputable def newestP_p : Par := { sh := fun _ => none, k := 0, lo := fun _ => none }
set_option maxRecDepth 100000 in
theorem newestP_eq (p0 : (List (Int × Int))) : ocRun newestP_c newestP_p newestP_f newestP_ins newestP_outs (p0, ()) = newestP_B (p0, ()) := by kernel_rfl
set_option maxRecDepth 100000 in
theorem newestP_oc : OC newestP_P 101 newestP_ins newestP_outs newestP := OC.of_tree newestP_env Try.func101 (by kernel_rfl) (by kernel_rfl) (p := newestP_p) (fun g hg => LoOk.of (l := []) (by kernel_rfl) .nil) (fun (p0, ()) => newestP_eq p0)
noncomputable def cx_newestP : Ctx := addO cx_lenB 101 (ocOrc newestP_ins newestP_outs newestP)
theorem en_newestP : EnvFull Try.prog cx_newestP := env_add (en_lenB) newestP_oc.callOk
noncomputable def linkP_B : ((List (Int × Int)) × ((Int × Int) × Unit)) → Br (((Int × Int) × ((List (Int × Int)) × Int)) × Unit) := fun (p0, p1, ()) =>
 (.opt (lenP (p0, ())) fun y3 =>
 (.ret (((p1.1, p1.2), p0, IntKind.wrap .i64 (y3.1 + 1)), ())))
noncomputable def linkP : ((List (Int × Int)) × ((Int × Int) × Unit)) → Option (((Int × Int) × ((List (Int × Int)) × Int)) × Unit) := fun x => (linkP_B x).run
abbrev linkP_ins : List (Bool × Pat) := [(false, .ty false (.chain zA16)), (false, .ty false zA16)]
abbrev linkP_outs : List Pat := [.obj (.two (.ty false zA16) (.two (.ty false (.chain zA16)) (.ty false (.int .i64))))]
noncomputable abbrev linkP_f : Func := Try.f88
noncomputable abbrev linkP_P : Program := Try.prog
noncomputable def linkP_c : Ctx := { cx_newestP with base := 1024 }
set_option maxRecDepth 100000 in
theorem linkP_env : EnvFull linkP_P linkP_c := env_base (en_newestP) 1024
noncomputable def linkP_p : Par := { sh := fun _ => none, k := 0, lo := fun _ => none }
set_option maxRecDepth 100000 in
theorem linkP_eq (p0 : (List (Int × Int))) (p1 : (Int × Int)) : ocRun linkP_c linkP_p linkP_f linkP_ins linkP_outs (p0, p1, ()) = linkP_B (p0, p1, ()) := by kernel_rfl
set_option maxRecDepth 100000 in
theorem linkP_oc : OC linkP_P 88 linkP_ins linkP_outs linkP := OC.of_tree linkP_env Try.func88 (by kernel_rfl) (by kernel_rfl) (p := linkP_p) (fun g hg => LoOk.of (l := []) (by kernel_rfl) .nil) (fun (p0, p1, ()) => linkP_eq p0 p1)
noncomputable def cx_linkP : Ctx := addO cx_newestP 88 (ocOrc linkP_ins linkP_outs linkP)
theorem en_linkP : EnvFull Try.prog cx_linkP := env_add (en_newestP) linkP_oc.callOk
noncomputable def linkB_B : (zA21 × ((ByteArray × zA2) × Unit)) → Br (((ByteArray × zA2) × (zA21 × Int)) × Unit) := fun (p0, p1, ()) =>
 (.opt (lenB (p0, ())) fun y3 =>
 (.ret (((p1.1, p1.2.1, p1.2.2.1, p1.2.2.2.1, p1.2.2.2.2.1, p1.2.2.2.2.2), p0, IntKind.wrap .i64 (y3.1 + 1)), ())))
noncomputable def linkB : (zA21 × ((ByteArray × zA2) × Unit)) → Option (((ByteArray × zA2) × (zA21 × Int)) × Unit) := fun x => (linkB_B x).run
abbrev linkB_ins : List (Bool × Pat) := [(false, .ty false (.chain (.st (.pair .str zA9)))), (false, .ty false (.st (.pair .str zA9)))]
abbrev linkB_outs : List Pat := [.obj (.two (.ty false (.st (.pair .str zA9))) (.two (.ty false (.chain (.st (.pair .str zA9)))) (.ty false (.int .i64))))]
noncomputable abbrev linkB_f : Func := Try.f90
noncomputable abbrev linkB_P : Program := Try.prog
noncomputable def linkB_c : Ctx := { cx_linkP with base := 1024 }
set_option maxRecDepth 100000 in
theorem linkB_env : EnvFull linkB_P linkB_c := env_base (en_linkP) 1024
noncomputable def linkB_p : Par := { sh := fun _ => none, k := 0, lo := fun _ => none }
set_option maxRecDepth 100000 in
theorem linkB_eq (p0 : zA21) (p1 : (ByteArray × zA2)) : ocRun linkB_c linkB_p linkB_f linkB_ins linkB_outs (p0, p1, ()) = linkB_B (p0, p1, ()) := by kernel_rfl
set_option maxRecDepth 100000 in
theorem linkB_oc : OC linkB_P 90 linkB_ins linkB_outs linkB := OC.of_tree linkB_env Try.func90 (by kernel_rfl) (by kernel_rfl) (p := linkB_p) (fun g hg => LoOk.of (l := []) (by kernel_rfl) .nil) (fun (p0, p1, ()) => linkB_eq p0 p1)
noncomputable def cx_linkB : Ctx := addO cx_linkP 90 (ocOrc linkB_ins linkB_outs linkB)
theorem en_linkB : EnvFull Try.prog cx_linkB := env_add (en_linkP) linkB_oc.callOk
end Go.Proofs.Ytnhiplibodkciaa

namespace Go.Proofs.Ytnhiplibodkciaa
open Go.PI Go

abbrev pairT : Ty := .st (.pair (.int .i64) (.int .i64))
abbrev bndT : Ty := .st (.pair .str zA9)

theorem lenP_at (l : List (Int × Int)) : lenP (l, ()) = some ((l.length : Int), ()) := by
  cases l <;> rfl
theorem lenB_at (l : List bndT.T) : lenB (l, ()) = some ((l.length : Int), ()) := by
  cases l <;> rfl

noncomputable def withP : List (Int × Int) × ((Int × Int) × Unit) → Option (List (Int × Int) × Unit) := fun x => bif decide (x.1.length < 9223372036854775807) then some (x.2.1 :: x.1, ()) else none
theorem withP_oc : OC Try.prog 88 linkP_ins [.ty false (.chain pairT)] withP := OC.chain linkP_oc (by
  rintro ⟨l, x, ⟨⟩⟩ y hy
  unfold withP at hy
  by_cases h : l.length < 9223372036854775807
  · simp only [h, decide_true, cond_true, Option.some.injEq] at hy
    subst hy
    refine ⟨x, l, ?_, rfl, h⟩
    show linkP (l, x, ()) = _
    unfold linkP linkP_B
    have hw : IntKind.wrap .i64 ((l.length : Int) + 1) = ((l.length + 1 : Nat) : Int) := by rw [wrap_small (by omega) (by omega)]; omega
    simp only [Br.run, lenP_at, hw]
  · simp only [h, decide_false, cond_false] at hy
    cases hy)
noncomputable def withB : List bndT.T × (bndT.T × Unit) → Option (List bndT.T × Unit) := fun x => bif decide (x.1.length < 9223372036854775807) then some (x.2.1 :: x.1, ()) else none
theorem withB_oc : OC Try.prog 90 linkB_ins [.ty false (.chain bndT)] withB := OC.chain linkB_oc (by
  rintro ⟨l, x, ⟨⟩⟩ y hy
  unfold withB at hy
  by_cases h : l.length < 9223372036854775807
  · simp only [h, decide_true, cond_true, Option.some.injEq] at hy
    subst hy
    refine ⟨x, l, ?_, rfl, h⟩
    show linkB (l, x, ()) = _
    unfold linkB linkB_B
    have hw : IntKind.wrap .i64 ((l.length : Int) + 1) = ((l.length + 1 : Nat) : Int) := by rw [wrap_small (by omega) (by omega)]; omega
    simp only [Br.run, lenB_at, hw]
  · simp only [h, decide_false, cond_false] at hy
    cases hy)
noncomputable def cx_withP : Ctx := addO cx_linkB 88 (ocOrc linkP_ins [.ty false (.chain pairT)] withP)
theorem en_withP : EnvFull Try.prog cx_withP := env_add en_linkB withP_oc.callOk
noncomputable def cx_withB : Ctx := addO cx_withP 90 (ocOrc linkB_ins [.ty false (.chain bndT)] withB)
theorem en_withB : EnvFull Try.prog cx_withB := env_add en_withP withB_oc.callOk
end Go.Proofs.Ytnhiplibodkciaa

namespace Go.Proofs.Ytnhiplibodkciaa
open Go.PI Go
noncomputable def cxM1 : Ctx := addO cx_withB 30 (ocOrc eventR_ins eventR_outs eventR)
theorem enM1 : EnvFull Try.prog cxM1 := env_add en_withB eventR_oc.callOk
end Go.Proofs.Ytnhiplibodkciaa

namespace Go.Proofs.Ytnhiplibodkciaa
open Go.PI Go
noncomputable def eventsR_l0 : zA28 → Br (zA28 ⊕ ((List zA2) × Unit)) := fun (s0_26, s1_27, s6_28, r1724_29, ()) =>
 (.cond (decide (s6_28 < (↑(List.length s0_26) : Int)))
 (.cond (decide (s6_28 < s1_27))
 (.cond (decide (0 ≤ s6_28) && decide (s6_28 < (↑(List.length s0_26) : Int)))
 (.opt (eventR (List.getD s0_26 (Int.toNat s6_28) (ByteArray.empty, ByteArray.empty, 0, 0, []), ())) fun y30 =>
 (.cond (decide ((List.length r1724_29 + List.length (List.set (List.replicate 1 (ByteArray.empty, ByteArray.empty, 0, 0, [])) 0 (y30.1.1, { data := #[107] }, y30.1.2.2.1, IntKind.wrap .i64 (s6_28 + 1), y30.1.2.2.2.2))) * 72 ≤ 140737488355328))
 (.ret (.inl (s0_26, s1_27, IntKind.wrap .i64 (s6_28 + 1), r1724_29 ++ List.set (List.replicate 1 (ByteArray.empty, ByteArray.empty, 0, 0, [])) 0 (y30.1.1, { data := #[107] }, y30.1.2.2.1, IntKind.wrap .i64 (s6_28 + 1), y30.1.2.2.2.2), ())))
 (.no)))
 (.no))
 (.ret (.inr (r1724_29, ()))))
 (.ret (.inr (r1724_29, ()))))
noncomputable def eventsR_w0 : zA28 → Option ((List zA2) × Unit) := iterO fun x => (eventsR_l0 x).run
noncomputable def eventsR_B : ((List zA2) × (Int × Unit)) → Br ((List zA2) × Unit) := fun (p0, p1, ()) =>
 (.opt (eventsR_w0 (p0, p1, 0, [], ())) fun z32 =>
 (.ret (z32.1, ())))
noncomputable def eventsR : ((List zA2) × (Int × Unit)) → Option ((List zA2) × Unit) := fun x => (eventsR_B x).run
abbrev eventsR_ins : List (Bool × Pat) := [(false, .ty true (.sl zA9)), (false, .ty false (.int .i64))]
abbrev eventsR_outs : List Pat := [.ty false (.sl zA9)]
noncomputable abbrev eventsR_f : Func := Try.f45
noncomputable abbrev eventsR_P : Program := Try.prog
abbrev eventsR_kp : List Nat := kpOf eventsR_ins
abbrev eventsR_kf : List Nat := kfOf eventsR_ins
noncomputable def eventsR_c : Ctx := { cxM1 with base := 1024 }
set_option maxRecDepth 100000 in
theorem eventsR_env : EnvFull eventsR_P eventsR_c := env_base (enM1) 1024
abbrev eventsR_H0 : List Hole := [.slot 0 true (.sl zA9), .slot 1 false (.int .i64), .slot 6 false (.int .i64), .ar 1724 false 50 zA9]
def eventsR_S0 : Skel := ⟨34, [(5, .c (.mfull 1724))], [(1724, [])]⟩
abbrev eventsR_H0e0 : List Hole := [.ar 1725 false 50 zA9]
def eventsR_S0e0 : Skel := ⟨34, [(5, .c (.mfull 1725))], [(1725, [])]⟩
def eventsR_h0 : Exit → Shape
  | .normal => ⟨[(0, .as true (.sl zA9)), (1, .as false (.int .i64)), (5, .row 700 false 50 zA9), (6, .as false (.int .i64))], [], [(700, false)]⟩
  | .exit 0 => ⟨[(5, .row 701 false 50 zA9)], [], [(701, false)]⟩
  | _ => ⟨[], [], []⟩
def eventsR_e0 : ((List zA2) × Unit) → Exit × St
  | u => (.exit 0, eventsR_S0e0.fillK eventsR_kf eventsR_H0e0 u)
def eventsR_t0 : ((List zA2) × Unit) → Br (Exit × St) := fun u => .ret (.exit 0, eventsR_S0e0.fillK eventsR_kf eventsR_H0e0 u)
noncomputable def eventsR_C0 : Code := loopAt 0 (bodyOf eventsR_f)
noncomputable def eventsR_o0 : St → Br (Exit × St) := loopF eventsR_kp eventsR_kf 1024 (eventsR_h0 .normal) (eventsR_S0.parseK eventsR_kf eventsR_H0) fun x => .opt (eventsR_w0 x) eventsR_t0
noncomputable def eventsR_p : Par := { sh := fun _ => none, k := 0, lo := fun i => bif Nat.beq i 3 then some eventsR_o0 else none }
set_option maxRecDepth 100000 in
theorem eventsR_r0 (s0_26 : (List zA2)) (s1_27 : Int) (s6_28 : Int) (r1724_29 : (List zA2)) : roundF eventsR_kp eventsR_kf eventsR_c eventsR_p eventsR_h0 eventsR_C0 (eventsR_S0.fillK eventsR_kf eventsR_H0 (s0_26, s1_27, s6_28, r1724_29, ())) = (eventsR_l0 (s0_26, s1_27, s6_28, r1724_29, ())).bind (loopLeaf (fun x => eventsR_S0.fillK eventsR_kf eventsR_H0 x) eventsR_e0) := by kernel_rfl
set_option maxRecDepth 100000 in
theorem eventsR_ok0 (g : Cfg) (hg : ∀ n, Go.PI.look n g.m0 ≠ Option.none → n ∈ eventsR_kp) : LoopOk eventsR_P g eventsR_o0 eventsR_C0 := LoopOk.auto eventsR_env hg eventsR_p (LoOk.of (l := []) (by kernel_rfl) .nil) eventsR_h0 (fun x => eventsR_S0.fillK eventsR_kf eventsR_H0 x) (fun s x h => Skel.parseK_ok s x h) eventsR_l0 eventsR_e0 (fun _ h => by cases h) eventsR_t0 (fun _ => rfl) (fun (s0_26, s1_27, s6_28, r1724_29, ()) => eventsR_r0 s0_26 s1_27 s6_28 r1724_29)
set_option maxRecDepth 100000 in
theorem eventsR_eq (p0 : (List zA2)) (p1 : Int) : ocRun eventsR_c eventsR_p eventsR_f eventsR_ins eventsR_outs (p0, p1, ()) = eventsR_B (p0, p1, ()) := by kernel_rfl
set_option maxRecDepth 100000 in
theorem eventsR_oc : OC eventsR_P 45 eventsR_ins eventsR_outs eventsR := OC.of_tree eventsR_env Try.func45 (by kernel_rfl) (by kernel_rfl) (p := eventsR_p) (fun g hg => LoOk.of (l := [eventsR_C0]) (by kernel_rfl) (.cons (eventsR_ok0 g hg) (by kernel_rfl) .nil)) (fun (p0, p1, ()) => eventsR_eq p0 p1)
end Go.Proofs.Ytnhiplibodkciaa
