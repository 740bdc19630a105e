/- Contracts of functions. Printed by auto.py. -/
import Derived.Test.YtnhiplibodkciaaAbA
import Derived.Test.YtnhiplibodkciaaEx
namespace Go.Proofs.Ytnhiplibodkciaa
open Go.PI Go
noncomputable def eventR_B : (zA2 × Unit) → Br (zA2 × Unit) := fun (p0, ()) =>
 (.cond (false)
 (.no)
 (.cond (decide ((↑(List.length p0.2.2.2.2) : Int) > 0))
 (.cond (decide (0 ≤ 0) && decide (0 < (↑(List.length p0.2.2.2.2) : Int)))
 (.cond (decide (0 ≤ 0) && decide (0 < (↑(List.length p0.2.2.2.2) : Int)))
 (.cond (Prod.snd (Prod.snd (Prod.snd (List.getD p0.2.2.2.2 (Int.toNat 0) (0, 0, ByteArray.empty, false)))))
 (.cond (decide (0 ≤ Int.tmod (IntKind.wrap .i64 (↑(BitVec.toNat (BitVec.ofInt (IntKind.bits .i64) p0.2.2.2.1 &&& BitVec.ofInt (IntKind.bits .i64) 255)) : Int)) 3) && decide (Int.tmod (IntKind.wrap .i64 (↑(BitVec.toNat (BitVec.ofInt (IntKind.bits .i64) p0.2.2.2.1 &&& BitVec.ofInt (IntKind.bits .i64) 255)) : Int)) 3 < (↑(List.length (List.set (List.set (List.set (List.replicate 3 ByteArray.empty) 0 { data := #[65] }) 1 { data := #[66] }) 2 { data := #[67] })) : Int)))
 (.cond (false)
 (.no)
 (.cond (decide (0 ≤ Int.tmod (↑(ByteArray.size p0.2.1) : Int) 3) && decide (Int.tmod (↑(ByteArray.size p0.2.1) : Int) 3 < (↑(List.length (List.set (List.set (List.set (List.replicate 3 ByteArray.empty) 0 { data := #[107] }) 1 { data := #[108] }) 2 { data := #[109] })) : Int)))
 (.cond (Int.tmod (IntKind.wrap .i64 (↑(BitVec.toNat (BitVec.ofInt (IntKind.bits .i64) p0.2.2.2.1 &&& BitVec.ofInt (IntKind.bits .i64) 255)) : Int)) 3 == 2)
 (.ret ((List.getD (List.set (List.set (List.set (List.replicate 3 ByteArray.empty) 0 { data := #[65] }) 1 { data := #[66] }) 2 { data := #[67] }) (Int.toNat (Int.tmod (IntKind.wrap .i64 (↑(BitVec.toNat (BitVec.ofInt (IntKind.bits .i64) p0.2.2.2.1 &&& BitVec.ofInt (IntKind.bits .i64) 255)) : Int)) 3)) ByteArray.empty, List.getD (List.set (List.set (List.set (List.replicate 3 ByteArray.empty) 0 { data := #[107] }) 1 { data := #[108] }) 2 { data := #[109] }) (Int.toNat (Int.tmod (↑(ByteArray.size p0.2.1) : Int) 3)) ByteArray.empty, IntKind.wrap .i64 (↑(BitVec.toNat (BitVec.ofInt (IntKind.bits .i64) p0.2.2.1 &&& BitVec.ofInt (IntKind.bits .i64) 15)) : Int), 0, [(2, 0, { data := #[118] }, false), (1, IntKind.wrap .i64 (↑(BitVec.toNat (BitVec.ofInt (IntKind.bits .i64) (Prod.fst (Prod.snd (List.getD p0.2.2.2.2 (Int.toNat 0) (0, 0, ByteArray.empty, false)))) &&& BitVec.ofInt (IntKind.bits .i64) 3)) : Int), ByteArray.empty, false), (3, 0, ByteArray.empty, decide (IntKind.wrap .i64 (↑(BitVec.toNat (BitVec.ofInt (IntKind.bits .i64) p0.2.2.1 &&& BitVec.ofInt (IntKind.bits .i64) 64)) : Int) > 0))]), ()))
 (.ret ((List.getD (List.set (List.set (List.set (List.replicate 3 ByteArray.empty) 0 { data := #[65] }) 1 { data := #[66] }) 2 { data := #[67] }) (Int.toNat (Int.tmod (IntKind.wrap .i64 (↑(BitVec.toNat (BitVec.ofInt (IntKind.bits .i64) p0.2.2.2.1 &&& BitVec.ofInt (IntKind.bits .i64) 255)) : Int)) 3)) ByteArray.empty, List.getD (List.set (List.set (List.set (List.replicate 3 ByteArray.empty) 0 { data := #[107] }) 1 { data := #[108] }) 2 { data := #[109] }) (Int.toNat (Int.tmod (↑(ByteArray.size p0.2.1) : Int) 3)) ByteArray.empty, IntKind.wrap .i64 (↑(BitVec.toNat (BitVec.ofInt (IntKind.bits .i64) p0.2.2.1 &&& BitVec.ofInt (IntKind.bits .i64) 15)) : Int), 0, [(1, IntKind.wrap .i64 (↑(BitVec.toNat (BitVec.ofInt (IntKind.bits .i64) (Prod.fst (Prod.snd (List.getD p0.2.2.2.2 (Int.toNat 0) (0, 0, ByteArray.empty, false)))) &&& BitVec.ofInt (IntKind.bits .i64) 3)) : Int), ByteArray.empty, false), (2, 0, { data := #[118] }, false)]), ())))
 (.no)))
 (.no))
 (.cond (decide (0 ≤ Int.tmod (IntKind.wrap .i64 (↑(BitVec.toNat (BitVec.ofInt (IntKind.bits .i64) p0.2.2.2.1 &&& BitVec.ofInt (IntKind.bits .i64) 255)) : Int)) 3) && decide (Int.tmod (IntKind.wrap .i64 (↑(BitVec.toNat (BitVec.ofInt (IntKind.bits .i64) p0.2.2.2.1 &&& BitVec.ofInt (IntKind.bits .i64) 255)) : Int)) 3 < (↑(List.length (List.set (List.set (List.set (List.replicate 3 ByteArray.empty) 0 { data := #[65] }) 1 { data := #[66] }) 2 { data := #[67] })) : Int)))
 (.cond (false)
 (.no)
 (.cond (decide (0 ≤ Int.tmod (↑(ByteArray.size p0.2.1) : Int) 3) && decide (Int.tmod (↑(ByteArray.size p0.2.1) : Int) 3 < (↑(List.length (List.set (List.set (List.set (List.replicate 3 ByteArray.empty) 0 { data := #[107] }) 1 { data := #[108] }) 2 { data := #[109] })) : Int)))
 (.cond (Int.tmod (IntKind.wrap .i64 (↑(BitVec.toNat (BitVec.ofInt (IntKind.bits .i64) p0.2.2.2.1 &&& BitVec.ofInt (IntKind.bits .i64) 255)) : Int)) 3 == 2)
 (.ret ((List.getD (List.set (List.set (List.set (List.replicate 3 ByteArray.empty) 0 { data := #[65] }) 1 { data := #[66] }) 2 { data := #[67] }) (Int.toNat (Int.tmod (IntKind.wrap .i64 (↑(BitVec.toNat (BitVec.ofInt (IntKind.bits .i64) p0.2.2.2.1 &&& BitVec.ofInt (IntKind.bits .i64) 255)) : Int)) 3)) ByteArray.empty, List.getD (List.set (List.set (List.set (List.replicate 3 ByteArray.empty) 0 { data := #[107] }) 1 { data := #[108] }) 2 { data := #[109] }) (Int.toNat (Int.tmod (↑(ByteArray.size p0.2.1) : Int) 3)) ByteArray.empty, IntKind.wrap .i64 (↑(BitVec.toNat (BitVec.ofInt (IntKind.bits .i64) p0.2.2.1 &&& BitVec.ofInt (IntKind.bits .i64) 15)) : Int), 0, [(2, 0, { data := #[117] }, false), (1, IntKind.wrap .i64 (↑(BitVec.toNat (BitVec.ofInt (IntKind.bits .i64) (Prod.fst (Prod.snd (List.getD p0.2.2.2.2 (Int.toNat 0) (0, 0, ByteArray.empty, false)))) &&& BitVec.ofInt (IntKind.bits .i64) 3)) : Int), ByteArray.empty, false), (3, 0, ByteArray.empty, decide (IntKind.wrap .i64 (↑(BitVec.toNat (BitVec.ofInt (IntKind.bits .i64) p0.2.2.1 &&& BitVec.ofInt (IntKind.bits .i64) 64)) : Int) > 0))]), ()))
 (.ret ((List.getD (List.set (List.set (List.set (List.replicate 3 ByteArray.empty) 0 { data := #[65] }) 1 { data := #[66] }) 2 { data := #[67] }) (Int.toNat (Int.tmod (IntKind.wrap .i64 (↑(BitVec.toNat (BitVec.ofInt (IntKind.bits .i64) p0.2.2.2.1 &&& BitVec.ofInt (IntKind.bits .i64) 255)) : Int)) 3)) ByteArray.empty, List.getD (List.set (List.set (List.set (List.replicate 3 ByteArray.empty) 0 { data := #[107] }) 1 { data := #[108] }) 2 { data := #[109] }) (Int.toNat (Int.tmod (↑(ByteArray.size p0.2.1) : Int) 3)) ByteArray.empty, IntKind.wrap .i64 (↑(BitVec.toNat (BitVec.ofInt (IntKind.bits .i64) p0.2.2.1 &&& BitVec.ofInt (IntKind.bits .i64) 15)) : Int), 0, [(1, IntKind.wrap .i64 (↑(BitVec.toNat (BitVec.ofInt (IntKind.bits .i64) (Prod.fst (Prod.snd (List.getD p0.2.2.2.2 (Int.toNat 0) (0, 0, ByteArray.empty, false)))) &&& BitVec.ofInt (IntKind.bits .i64) 3)) : Int), ByteArray.empty, false), (2, 0, { data := #[117] }, false)]), ())))
 (.no)))
 (.no)))
 (.no))
 (.no))
 (.cond (decide (0 ≤ Int.tmod (IntKind.wrap .i64 (↑(BitVec.toNat (BitVec.ofInt (IntKind.bits .i64) p0.2.2.2.1 &&& BitVec.ofInt (IntKind.bits .i64) 255)) : Int)) 3) && decide (Int.tmod (IntKind.wrap .i64 (↑(BitVec.toNat (BitVec.ofInt (IntKind.bits .i64) p0.2.2.2.1 &&& BitVec.ofInt (IntKind.bits .i64) 255)) : Int)) 3 < (↑(List.length (List.set (List.set (List.set (List.replicate 3 ByteArray.empty) 0 { data := #[65] }) 1 { data := #[66] }) 2 { data := #[67] })) : Int)))
 (.cond (false)
 (.no)
 (.cond (decide (0 ≤ Int.tmod (↑(ByteArray.size p0.2.1) : Int) 3) && decide (Int.tmod (↑(ByteArray.size p0.2.1) : Int) 3 < (↑(List.length (List.set (List.set (List.set (List.replicate 3 ByteArray.empty) 0 { data := #[107] }) 1 { data := #[108] }) 2 { data := #[109] })) : Int)))
 (.cond (Int.tmod (IntKind.wrap .i64 (↑(BitVec.toNat (BitVec.ofInt (IntKind.bits .i64) p0.2.2.2.1 &&& BitVec.ofInt (IntKind.bits .i64) 255)) : Int)) 3 == 2)
 (.ret ((List.getD (List.set (List.set (List.set (List.replicate 3 ByteArray.empty) 0 { data := #[65] }) 1 { data := #[66] }) 2 { data := #[67] }) (Int.toNat (Int.tmod (IntKind.wrap .i64 (↑(BitVec.toNat (BitVec.ofInt (IntKind.bits .i64) p0.2.2.2.1 &&& BitVec.ofInt (IntKind.bits .i64) 255)) : Int)) 3)) ByteArray.empty, List.getD (List.set (List.set (List.set (List.replicate 3 ByteArray.empty) 0 { data := #[107] }) 1 { data := #[108] }) 2 { data := #[109] }) (Int.toNat (Int.tmod (↑(ByteArray.size p0.2.1) : Int) 3)) ByteArray.empty, IntKind.wrap .i64 (↑(BitVec.toNat (BitVec.ofInt (IntKind.bits .i64) p0.2.2.1 &&& BitVec.ofInt (IntKind.bits .i64) 15)) : Int), 0, [(2, 0, { data := #[117] }, false), (1, 0, ByteArray.empty, false), (3, 0, ByteArray.empty, decide (IntKind.wrap .i64 (↑(BitVec.toNat (BitVec.ofInt (IntKind.bits .i64) p0.2.2.1 &&& BitVec.ofInt (IntKind.bits .i64) 64)) : Int) > 0))]), ()))
 (.ret ((List.getD (List.set (List.set (List.set (List.replicate 3 ByteArray.empty) 0 { data := #[65] }) 1 { data := #[66] }) 2 { data := #[67] }) (Int.toNat (Int.tmod (IntKind.wrap .i64 (↑(BitVec.toNat (BitVec.ofInt (IntKind.bits .i64) p0.2.2.2.1 &&& BitVec.ofInt (IntKind.bits .i64) 255)) : Int)) 3)) ByteArray.empty, List.getD (List.set (List.set (List.set (List.replicate 3 ByteArray.empty) 0 { data := #[107] }) 1 { data := #[108] }) 2 { data := #[109] }) (Int.toNat (Int.tmod (↑(ByteArray.size p0.2.1) : Int) 3)) ByteArray.empty, IntKind.wrap .i64 (↑(BitVec.toNat (BitVec.ofInt (IntKind.bits .i64) p0.2.2.1 &&& BitVec.ofInt (IntKind.bits .i64) 15)) : Int), 0, [(1, 0, ByteArray.empty, false), (2, 0, { data := #[117] }, false)]), ())))
 (.no)))
 (.no))))
noncomputable def eventR : (zA2 × Unit) → Option (zA2 × Unit) := fun x => (eventR_B x).run
abbrev eventR_ins : List (Bool × Pat) := [(false, .ty true zA9)]
abbrev eventR_outs : List Pat := [.ty false zA9]
noncomputable abbrev eventR_f : Func := Try.f30
noncomputable abbrev eventR_P : Program := Try.prog
abbrev eventR_kp : List Nat := kpOf eventR_ins
abbrev eventR_kf : List Nat := kfOf eventR_ins
noncomputable def eventR_c : Ctx := { cx_cmpStr with base := 1024 }
set_option maxRecDepth 100000 in
theorem eventR_env : EnvFull eventR_P eventR_c := env_base (en_cmpStr) 1024
noncomputable def eventR_p : Par := { sh := fun _ => none, k := 0, lo := fun _ => none }
set_option maxRecDepth 100000 in
theorem eventR_eq (p0 : zA2) : ocRun eventR_c eventR_p eventR_f eventR_ins eventR_outs (p0, ()) = eventR_B (p0, ()) := by kernel_rfl
set_option maxRecDepth 100000 in
theorem eventR_oc : OC eventR_P 30 eventR_ins eventR_outs eventR := OC.of_tree eventR_env Try.func30 (by kernel_rfl) (by kernel_rfl) (p := eventR_p) (fun g hg => LoOk.of (l := []) (by kernel_rfl) .nil) (fun (p0, ()) => eventR_eq p0)
noncomputable def cx_eventR : Ctx := addO cx_cmpStr 30 (ocOrc eventR_ins eventR_outs eventR)
theorem en_eventR : EnvFull Try.prog cx_eventR := env_add (en_cmpStr) eventR_oc.callOk
noncomputable def valueL_B : (zA8 × Unit) → Br (zA8 × Unit) := fun (p0, ()) =>
 (.cond (IntKind.wrap .i64 (↑(BitVec.toNat (BitVec.ofInt (IntKind.bits .i64) p0.2.1 &&& BitVec.ofInt (IntKind.bits .i64) 3)) : Int) == 0)
 (.cond (decide (0 ≤ 0) && decide (0 ≤ if 4 < (↑(ByteArray.size p0.2.2.1) : Int) then 4 else (↑(ByteArray.size p0.2.2.1) : Int)) && decide ((if 4 < (↑(ByteArray.size p0.2.2.1) : Int) then 4 else (↑(ByteArray.size p0.2.2.1) : Int)) ≤ (↑(ByteArray.size p0.2.2.1) : Int)))
 (.ret ((2, 0, bsub p0.2.2.1 (Int.toNat 0) (Int.toNat (if 4 < (↑(ByteArray.size p0.2.2.1) : Int) then 4 else (↑(ByteArray.size p0.2.2.1) : Int))), false), ()))
 (.no))
 (.cond (IntKind.wrap .i64 (↑(BitVec.toNat (BitVec.ofInt (IntKind.bits .i64) p0.2.1 &&& BitVec.ofInt (IntKind.bits .i64) 3)) : Int) == 1)
 (.ret ((3, 0, ByteArray.empty, p0.2.2.2), ()))
 (.cond (p0.2.1 == -9223372036854775808)
 (.ret ((1, 5, ByteArray.empty, false), ()))
 (.ret ((1, p0.2.1, ByteArray.empty, false), ())))))
noncomputable def valueL : (zA8 × Unit) → Option (zA8 × Unit) := fun x => (valueL_B x).run
abbrev valueL_ins : List (Bool × Pat) := [(false, .ty false zA4)]
abbrev valueL_outs : List Pat := [.ty false zA4]
noncomputable abbrev valueL_f : Func := Try.f38
noncomputable abbrev valueL_P : Program := Try.prog
abbrev valueL_kp : List Nat := kpOf valueL_ins
abbrev valueL_kf : List Nat := kfOf valueL_ins
noncomputable def valueL_c : Ctx := { cx_eventR with base := 1024 }
set_option maxRecDepth 100000 in
theorem valueL_env : EnvFull valueL_P valueL_c := env_base (en_eventR) 1024
noncomputable def valueL_p : Par := { sh := fun _ => none, k := 0, lo := fun _ => none }
set_option maxRecDepth 100000 in
theorem valueL_eq (p0 : zA8) : ocRun valueL_c valueL_p valueL_f valueL_ins valueL_outs (p0, ()) = valueL_B (p0, ()) := by kernel_rfl
set_option maxRecDepth 100000 in
theorem valueL_oc : OC valueL_P 38 valueL_ins valueL_outs valueL := OC.of_tree valueL_env Try.func38 (by kernel_rfl) (by kernel_rfl) (p := valueL_p) (fun g hg => LoOk.of (l := []) (by kernel_rfl) .nil) (fun (p0, ()) => valueL_eq p0)
noncomputable def cx_valueL : Ctx := addO cx_eventR 38 (ocOrc valueL_ins valueL_outs valueL)
theorem en_valueL : EnvFull Try.prog cx_valueL := env_add (en_eventR) valueL_oc.callOk
noncomputable def fieldL_B : (ByteArray × (ByteArray × Unit)) → Br (zA12 × Unit) := fun (p0, p1, ()) =>
 (.ret ((2, (0, 0, ByteArray.empty, false), p0, p1), ()))
noncomputable def fieldL : (ByteArray × (ByteArray × Unit)) → Option (zA12 × Unit) := fun x => (fieldL_B x).run
abbrev fieldL_ins : List (Bool × Pat) := [(false, .ty false .str), (false, .ty false .str)]
abbrev fieldL_outs : List Pat := [.ty false zA13]
noncomputable abbrev fieldL_f : Func := Try.f40
noncomputable abbrev fieldL_P : Program := Try.prog
abbrev fieldL_kp : List Nat := kpOf fieldL_ins
abbrev fieldL_kf : List Nat := kfOf fieldL_ins
noncomputable def fieldL_c : Ctx := { cx_valueL with base := 1024 }
set_option maxRecDepth 100000 in
theorem fieldL_env : EnvFull fieldL_P fieldL_c := env_base (en_valueL) 1024
noncomputable def fieldL_p : Par := { sh := fun _ => none, k := 0, lo := fun _ => none }
set_option maxRecDepth 100000 in
theorem fieldL_eq (p0 : ByteArray) (p1 : ByteArray) : ocRun fieldL_c fieldL_p fieldL_f fieldL_ins fieldL_outs (p0, p1, ()) = fieldL_B (p0, p1, ()) := by kernel_rfl
set_option maxRecDepth 100000 in
theorem fieldL_oc : OC fieldL_P 40 fieldL_ins fieldL_outs fieldL := OC.of_tree fieldL_env Try.func40 (by kernel_rfl) (by kernel_rfl) (p := fieldL_p) (fun g hg => LoOk.of (l := []) (by kernel_rfl) .nil) (fun (p0, p1, ()) => fieldL_eq p0 p1)
noncomputable def cx_fieldL : Ctx := addO cx_valueL 40 (ocOrc fieldL_ins fieldL_outs fieldL)
theorem en_fieldL : EnvFull Try.prog cx_fieldL := env_add (en_valueL) fieldL_oc.callOk
noncomputable def numberR_B (G_numberR : zA29 → Option zA32) : zA29 → Br zA32 := fun (p0, p1, p2, ()) =>
 (.cond (decide (p1 < (↑(List.length p0) : Int)))
 (.cond (decide (0 ≤ p1) && decide (p1 < (↑(List.length p0) : Int)))
 (.cond (p2 == 0)
 (.cond (false)
 (.no)
 (.cond (Int.tmod (IntKind.wrap .i64 (↑(BitVec.toNat (BitVec.ofInt (IntKind.bits .i64) (List.getD p0 (Int.toNat p1) 0) &&& BitVec.ofInt (IntKind.bits .i64) 65535)) : Int)) 6 == 0)
 (.cond (false)
 (.no)
 (.ret (([(1, (1, IntKind.wrap .i64 (IntKind.wrap .i64 (↑(BitVec.toNat (BitVec.ofInt (IntKind.bits .i64) (Int.fdiv (IntKind.wrap .i64 (↑(BitVec.toNat (BitVec.ofInt (IntKind.bits .i64) (List.getD p0 (Int.toNat p1) 0) &&& BitVec.ofInt (IntKind.bits .i64) 65535)) : Int)) (2 ^ min (Int.toNat 4) (IntKind.bits .i64))) &&& BitVec.ofInt (IntKind.bits .i64) 31)) : Int) - 8), ByteArray.empty, false), ByteArray.empty, ByteArray.empty)], IntKind.wrap .i64 (p1 + 1)), ())))
 (.cond (false)
 (.no)
 (.cond (false)
 (.no)
 (.cond (decide (0 ≤ Int.tmod (Int.fdiv (IntKind.wrap .i64 (↑(BitVec.toNat (BitVec.ofInt (IntKind.bits .i64) (List.getD p0 (Int.toNat p1) 0) &&& BitVec.ofInt (IntKind.bits .i64) 65535)) : Int)) (2 ^ min (Int.toNat 4) (IntKind.bits .i64))) 3) && decide (Int.tmod (Int.fdiv (IntKind.wrap .i64 (↑(BitVec.toNat (BitVec.ofInt (IntKind.bits .i64) (List.getD p0 (Int.toNat p1) 0) &&& BitVec.ofInt (IntKind.bits .i64) 65535)) : Int)) (2 ^ min (Int.toNat 4) (IntKind.bits .i64))) 3 < (↑(List.length (List.set (List.set (List.set (List.replicate 3 ByteArray.empty) 0 { data := #[97] }) 1 { data := #[98] }) 2 { data := #[99] })) : Int)))
 (.ret (([(2, (0, 0, ByteArray.empty, false), List.getD (List.set (List.set (List.set (List.replicate 3 ByteArray.empty) 0 { data := #[97] }) 1 { data := #[98] }) 2 { data := #[99] }) (Int.toNat (Int.tmod (Int.fdiv (IntKind.wrap .i64 (↑(BitVec.toNat (BitVec.ofInt (IntKind.bits .i64) (List.getD p0 (Int.toNat p1) 0) &&& BitVec.ofInt (IntKind.bits .i64) 65535)) : Int)) (2 ^ min (Int.toNat 4) (IntKind.bits .i64))) 3)) ByteArray.empty, { data := #[120] })], IntKind.wrap .i64 (p1 + 1)), ()))
 (.no))))))
 (.cond (false)
 (.no)
 (.cond (decide (Int.tmod (IntKind.wrap .i64 (↑(BitVec.toNat (BitVec.ofInt (IntKind.bits .i64) (List.getD p0 (Int.toNat p1) 0) &&& BitVec.ofInt (IntKind.bits .i64) 65535)) : Int)) 6 < 2))
 (.cond (false)
 (.no)
 (.cond (Int.tmod (IntKind.wrap .i64 (↑(BitVec.toNat (BitVec.ofInt (IntKind.bits .i64) (List.getD p0 (Int.toNat p1) 0) &&& BitVec.ofInt (IntKind.bits .i64) 65535)) : Int)) 6 == 0)
 (.cond (false)
 (.no)
 (.ret (([(1, (1, IntKind.wrap .i64 (IntKind.wrap .i64 (↑(BitVec.toNat (BitVec.ofInt (IntKind.bits .i64) (Int.fdiv (IntKind.wrap .i64 (↑(BitVec.toNat (BitVec.ofInt (IntKind.bits .i64) (List.getD p0 (Int.toNat p1) 0) &&& BitVec.ofInt (IntKind.bits .i64) 65535)) : Int)) (2 ^ min (Int.toNat 4) (IntKind.bits .i64))) &&& BitVec.ofInt (IntKind.bits .i64) 31)) : Int) - 8), ByteArray.empty, false), ByteArray.empty, ByteArray.empty)], IntKind.wrap .i64 (p1 + 1)), ())))
 (.cond (false)
 (.no)
 (.cond (false)
 (.no)
 (.cond (decide (0 ≤ Int.tmod (Int.fdiv (IntKind.wrap .i64 (↑(BitVec.toNat (BitVec.ofInt (IntKind.bits .i64) (List.getD p0 (Int.toNat p1) 0) &&& BitVec.ofInt (IntKind.bits .i64) 65535)) : Int)) (2 ^ min (Int.toNat 4) (IntKind.bits .i64))) 3) && decide (Int.tmod (Int.fdiv (IntKind.wrap .i64 (↑(BitVec.toNat (BitVec.ofInt (IntKind.bits .i64) (List.getD p0 (Int.toNat p1) 0) &&& BitVec.ofInt (IntKind.bits .i64) 65535)) : Int)) (2 ^ min (Int.toNat 4) (IntKind.bits .i64))) 3 < (↑(List.length (List.set (List.set (List.set (List.replicate 3 ByteArray.empty) 0 { data := #[97] }) 1 { data := #[98] }) 2 { data := #[99] })) : Int)))
 (.ret (([(2, (0, 0, ByteArray.empty, false), List.getD (List.set (List.set (List.set (List.replicate 3 ByteArray.empty) 0 { data := #[97] }) 1 { data := #[98] }) 2 { data := #[99] }) (Int.toNat (Int.tmod (Int.fdiv (IntKind.wrap .i64 (↑(BitVec.toNat (BitVec.ofInt (IntKind.bits .i64) (List.getD p0 (Int.toNat p1) 0) &&& BitVec.ofInt (IntKind.bits .i64) 65535)) : Int)) (2 ^ min (Int.toNat 4) (IntKind.bits .i64))) 3)) ByteArray.empty, { data := #[120] })], IntKind.wrap .i64 (p1 + 1)), ()))
 (.no))))))
 (.opt (G_numberR (p0, IntKind.wrap .i64 (p1 + 1), IntKind.wrap .i64 (p2 - 1), ())) fun y8 =>
 (.cond (false)
 (.no)
 (.cond (Int.tmod (IntKind.wrap .i64 (↑(BitVec.toNat (BitVec.ofInt (IntKind.bits .i64) (List.getD p0 (Int.toNat p1) 0) &&& BitVec.ofInt (IntKind.bits .i64) 65535)) : Int)) 6 == 5)
 (.cond (decide ((List.length y8.1.1 + List.length (List.set (List.replicate 1 (0, (0, 0, ByteArray.empty, false), ByteArray.empty, ByteArray.empty)) 0 (3, (0, 0, ByteArray.empty, false), ByteArray.empty, ByteArray.empty))) * 80 ≤ 140737488355328))
 (.ret ((y8.1.1 ++ List.set (List.replicate 1 (0, (0, 0, ByteArray.empty, false), ByteArray.empty, ByteArray.empty)) 0 (3, (0, 0, ByteArray.empty, false), ByteArray.empty, ByteArray.empty), y8.1.2), ()))
 (.no))
 (.opt (G_numberR (p0, y8.1.2, IntKind.wrap .i64 (p2 - 1), ())) fun y9 =>
 (.cond (decide ((List.length y8.1.1 + List.length y9.1.1) * 80 ≤ 140737488355328))
 (.cond (false)
 (.no)
 (.cond (false)
 (.no)
 (.cond (decide ((List.length (y8.1.1 ++ y9.1.1) + List.length (List.set (List.replicate 1 (0, (0, 0, ByteArray.empty, false), ByteArray.empty, ByteArray.empty)) 0 (IntKind.wrap .i64 (4 + Int.tmod (Int.fdiv (IntKind.wrap .i64 (↑(BitVec.toNat (BitVec.ofInt (IntKind.bits .i64) (List.getD p0 (Int.toNat p1) 0) &&& BitVec.ofInt (IntKind.bits .i64) 65535)) : Int)) (2 ^ min (Int.toNat 4) (IntKind.bits .i64))) 3), (0, 0, ByteArray.empty, false), ByteArray.empty, ByteArray.empty))) * 80 ≤ 140737488355328))
 (.ret ((y8.1.1 ++ y9.1.1 ++ List.set (List.replicate 1 (0, (0, 0, ByteArray.empty, false), ByteArray.empty, ByteArray.empty)) 0 (IntKind.wrap .i64 (4 + Int.tmod (Int.fdiv (IntKind.wrap .i64 (↑(BitVec.toNat (BitVec.ofInt (IntKind.bits .i64) (List.getD p0 (Int.toNat p1) 0) &&& BitVec.ofInt (IntKind.bits .i64) 65535)) : Int)) (2 ^ min (Int.toNat 4) (IntKind.bits .i64))) 3), (0, 0, ByteArray.empty, false), ByteArray.empty, ByteArray.empty), y9.1.2), ()))
 (.no))))
 (.no)))))))))
 (.no))
 (.cond (p2 == 0)
 (.cond (false)
 (.no)
 (.cond (true)
 (.cond (false)
 (.no)
 (.ret (([(1, (1, -8, ByteArray.empty, false), ByteArray.empty, ByteArray.empty)], IntKind.wrap .i64 (p1 + 1)), ())))
 (.cond (false)
 (.no)
 (.cond (false)
 (.no)
 (.cond (true)
 (.ret (([(2, (0, 0, ByteArray.empty, false), { data := #[97] }, { data := #[120] })], IntKind.wrap .i64 (p1 + 1)), ()))
 (.no))))))
 (.cond (false)
 (.no)
 (.cond (true)
 (.cond (false)
 (.no)
 (.cond (true)
 (.cond (false)
 (.no)
 (.ret (([(1, (1, -8, ByteArray.empty, false), ByteArray.empty, ByteArray.empty)], IntKind.wrap .i64 (p1 + 1)), ())))
 (.cond (false)
 (.no)
 (.cond (false)
 (.no)
 (.cond (true)
 (.ret (([(2, (0, 0, ByteArray.empty, false), { data := #[97] }, { data := #[120] })], IntKind.wrap .i64 (p1 + 1)), ()))
 (.no))))))
 (.opt (G_numberR (p0, IntKind.wrap .i64 (p1 + 1), IntKind.wrap .i64 (p2 - 1), ())) fun y10 =>
 (.cond (false)
 (.no)
 (.cond (false)
 (.cond (decide ((List.length y10.1.1 + List.length (List.set (List.replicate 1 (0, (0, 0, ByteArray.empty, false), ByteArray.empty, ByteArray.empty)) 0 (3, (0, 0, ByteArray.empty, false), ByteArray.empty, ByteArray.empty))) * 80 ≤ 140737488355328))
 (.ret ((y10.1.1 ++ List.set (List.replicate 1 (0, (0, 0, ByteArray.empty, false), ByteArray.empty, ByteArray.empty)) 0 (3, (0, 0, ByteArray.empty, false), ByteArray.empty, ByteArray.empty), y10.1.2), ()))
 (.no))
 (.opt (G_numberR (p0, y10.1.2, IntKind.wrap .i64 (p2 - 1), ())) fun y11 =>
 (.cond (decide ((List.length y10.1.1 + List.length y11.1.1) * 80 ≤ 140737488355328))
 (.cond (false)
 (.no)
 (.cond (false)
 (.no)
 (.cond (decide ((List.length (y10.1.1 ++ y11.1.1) + List.length (List.set (List.replicate 1 (0, (0, 0, ByteArray.empty, false), ByteArray.empty, ByteArray.empty)) 0 (IntKind.wrap .i64 (4 + Int.tmod (Int.fdiv 0 (2 ^ min (Int.toNat 4) (IntKind.bits .i64))) 3), (0, 0, ByteArray.empty, false), ByteArray.empty, ByteArray.empty))) * 80 ≤ 140737488355328))
 (.ret ((y10.1.1 ++ y11.1.1 ++ List.set (List.replicate 1 (0, (0, 0, ByteArray.empty, false), ByteArray.empty, ByteArray.empty)) 0 (IntKind.wrap .i64 (4 + Int.tmod (Int.fdiv 0 (2 ^ min (Int.toNat 4) (IntKind.bits .i64))) 3), (0, 0, ByteArray.empty, false), ByteArray.empty, ByteArray.empty), y11.1.2), ()))
 (.no))))
 (.no))))))))))
noncomputable def numberR (G_numberR : zA29 → Option zA32) : zA29 → Option zA32 := fun x => ((numberR_B G_numberR) x).run
abbrev numberR_ins : List (Bool × Pat) := [(false, .ty true (.sl (.int .i64))), (false, .ty false (.int .i64)), (false, .ty false (.int .i64))]
abbrev numberR_outs : List Pat := [.row 74 zA13, .ty false (.int .i64)]
noncomputable abbrev numberR_f : Func := Try.f32
noncomputable abbrev numberR_P : Program := Try.prog
abbrev numberR_kp : List Nat := kpOf numberR_ins
abbrev numberR_kf : List Nat := kfOf numberR_ins
noncomputable def numberR_c (G_numberR : zA29 → Option zA32) : Ctx := { (addO cx_fieldL 32 (ocOrc [(false, .ty true (.sl (.int .i64))), (false, .ty false (.int .i64)), (false, .ty false (.int .i64))] [.row 74 zA13, .ty false (.int .i64)] G_numberR)) with base := 1024 }
set_option maxRecDepth 100000 in
theorem numberR_env (G_numberR : zA29 → Option zA32) (H_numberR : OC Try.prog 32 [(false, .ty true (.sl (.int .i64))), (false, .ty false (.int .i64)), (false, .ty false (.int .i64))] [.row 74 zA13, .ty false (.int .i64)] G_numberR) : EnvFull numberR_P (numberR_c G_numberR) := env_base ((env_add en_fieldL (OC.callOk H_numberR))) 1024
noncomputable def numberR_p : Par := { sh := fun _ => none, k := 0, lo := fun _ => none }
set_option maxRecDepth 100000 in
theorem numberR_eq (G_numberR : zA29 → Option zA32) (p0 : (List Int)) (p1 : Int) (p2 : Int) : ocRun (numberR_c G_numberR) numberR_p numberR_f numberR_ins numberR_outs (p0, p1, p2, ()) = (numberR_B G_numberR) (p0, p1, p2, ()) := by kernel_rfl
set_option maxRecDepth 100000 in
theorem numberR_oc (G_numberR : zA29 → Option zA32) (H_numberR : OC Try.prog 32 [(false, .ty true (.sl (.int .i64))), (false, .ty false (.int .i64)), (false, .ty false (.int .i64))] [.row 74 zA13, .ty false (.int .i64)] G_numberR) : OC numberR_P 32 numberR_ins numberR_outs (numberR G_numberR) := OC.of_tree (numberR_env G_numberR H_numberR) Try.func32 (by kernel_rfl) (by kernel_rfl) (p := numberR_p) (fun g hg => LoOk.of (l := []) (by kernel_rfl) .nil) (fun (p0, p1, p2, ()) => (numberR_eq G_numberR) p0 p1 p2)
noncomputable def numberR_k : Nat → zA29 → Option zA32
  | 0 => fun _ => none
  | k + 1 => numberR (numberR_k k)
theorem numberR_kok : ∀ k, OC Try.prog 32 [(false, .ty true (.sl (.int .i64))), (false, .ty false (.int .i64)), (false, .ty false (.int .i64))] [.row 74 zA13, .ty false (.int .i64)] (numberR_k k)
  | 0 => OC.zero Try.func32 (by kernel_rfl)
  | k + 1 => numberR_oc _ (numberR_kok k)
noncomputable def numberRF : zA29 → Option zA32 := fun x => numberR_k ((fun x => x.2.2.1.toNat + 2) x) x
theorem numberRF_oc : OC Try.prog 32 [(false, .ty true (.sl (.int .i64))), (false, .ty false (.int .i64)), (false, .ty false (.int .i64))] [.row 74 zA13, .ty false (.int .i64)] numberRF := OC.deep numberR_kok (fun x => x.2.2.1.toNat + 2)
noncomputable def cx_numberR : Ctx := addO cx_fieldL 32 (ocOrc [(false, .ty true (.sl (.int .i64))), (false, .ty false (.int .i64)), (false, .ty false (.int .i64))] [.row 74 zA13, .ty false (.int .i64)] numberRF)
theorem en_numberR : EnvFull Try.prog cx_numberR := env_add (en_fieldL) numberRF_oc.callOk
noncomputable def truthR_B (G_truthR : zA29 → Option zA32) : zA29 → Br zA32 := fun (p0, p1, p2, ()) =>
 (.cond (decide (p1 < (↑(List.length p0) : Int)))
 (.cond (decide (0 ≤ p1) && decide (p1 < (↑(List.length p0) : Int)))
 (.cond (false)
 (.no)
 (.cond (Int.tmod (IntKind.wrap .i64 (↑(BitVec.toNat (BitVec.ofInt (IntKind.bits .i64) (List.getD p0 (Int.toNat p1) 0) &&& BitVec.ofInt (IntKind.bits .i64) 65535)) : Int)) 7 == 6)
 (.cond (false)
 (.no)
 (.ret (([(1, (3, 0, ByteArray.empty, decide (IntKind.wrap .i64 (↑(BitVec.toNat (BitVec.ofInt (IntKind.bits .i64) (Int.fdiv (IntKind.wrap .i64 (↑(BitVec.toNat (BitVec.ofInt (IntKind.bits .i64) (List.getD p0 (Int.toNat p1) 0) &&& BitVec.ofInt (IntKind.bits .i64) 65535)) : Int)) (2 ^ min (Int.toNat 4) (IntKind.bits .i64))) &&& BitVec.ofInt (IntKind.bits .i64) 1)) : Int) > 0)), ByteArray.empty, ByteArray.empty)], IntKind.wrap .i64 (p1 + 1)), ())))
 (.cond (false)
 (.no)
 (.cond (Int.tmod (IntKind.wrap .i64 (↑(BitVec.toNat (BitVec.ofInt (IntKind.bits .i64) (List.getD p0 (Int.toNat p1) 0) &&& BitVec.ofInt (IntKind.bits .i64) 65535)) : Int)) 7 == 5)
 (.cond (false)
 (.no)
 (.cond (false)
 (.no)
 (.cond (decide (0 ≤ Int.tmod (Int.fdiv (IntKind.wrap .i64 (↑(BitVec.toNat (BitVec.ofInt (IntKind.bits .i64) (List.getD p0 (Int.toNat p1) 0) &&& BitVec.ofInt (IntKind.bits .i64) 65535)) : Int)) (2 ^ min (Int.toNat 4) (IntKind.bits .i64))) 3) && decide (Int.tmod (Int.fdiv (IntKind.wrap .i64 (↑(BitVec.toNat (BitVec.ofInt (IntKind.bits .i64) (List.getD p0 (Int.toNat p1) 0) &&& BitVec.ofInt (IntKind.bits .i64) 65535)) : Int)) (2 ^ min (Int.toNat 4) (IntKind.bits .i64))) 3 < (↑(List.length (List.set (List.set (List.set (List.replicate 3 ByteArray.empty) 0 { data := #[97] }) 1 { data := #[98] }) 2 { data := #[99] })) : Int)))
 (.cond (false)
 (.no)
 (.cond (false)
 (.no)
 (.cond (decide (0 ≤ Int.tmod (Int.fdiv (IntKind.wrap .i64 (↑(BitVec.toNat (BitVec.ofInt (IntKind.bits .i64) (List.getD p0 (Int.toNat p1) 0) &&& BitVec.ofInt (IntKind.bits .i64) 65535)) : Int)) (2 ^ min (Int.toNat 6) (IntKind.bits .i64))) 3) && decide (Int.tmod (Int.fdiv (IntKind.wrap .i64 (↑(BitVec.toNat (BitVec.ofInt (IntKind.bits .i64) (List.getD p0 (Int.toNat p1) 0) &&& BitVec.ofInt (IntKind.bits .i64) 65535)) : Int)) (2 ^ min (Int.toNat 6) (IntKind.bits .i64))) 3 < (↑(List.length (List.set (List.set (List.set (List.replicate 3 ByteArray.empty) 0 { data := #[117] }) 1 { data := #[118] }) 2 { data := #[105, 116, 39, 115] })) : Int)))
 (.cond (false)
 (.no)
 (.cond (false)
 (.no)
 (.ret (([(2, (0, 0, ByteArray.empty, false), List.getD (List.set (List.set (List.set (List.replicate 3 ByteArray.empty) 0 { data := #[97] }) 1 { data := #[98] }) 2 { data := #[99] }) (Int.toNat (Int.tmod (Int.fdiv (IntKind.wrap .i64 (↑(BitVec.toNat (BitVec.ofInt (IntKind.bits .i64) (List.getD p0 (Int.toNat p1) 0) &&& BitVec.ofInt (IntKind.bits .i64) 65535)) : Int)) (2 ^ min (Int.toNat 4) (IntKind.bits .i64))) 3)) ByteArray.empty, { data := #[115] }), (1, (2, 0, List.getD (List.set (List.set (List.set (List.replicate 3 ByteArray.empty) 0 { data := #[117] }) 1 { data := #[118] }) 2 { data := #[105, 116, 39, 115] }) (Int.toNat (Int.tmod (Int.fdiv (IntKind.wrap .i64 (↑(BitVec.toNat (BitVec.ofInt (IntKind.bits .i64) (List.getD p0 (Int.toNat p1) 0) &&& BitVec.ofInt (IntKind.bits .i64) 65535)) : Int)) (2 ^ min (Int.toNat 6) (IntKind.bits .i64))) 3)) ByteArray.empty, false), ByteArray.empty, ByteArray.empty), (IntKind.wrap .i64 (7 + Int.tmod (Int.fdiv (IntKind.wrap .i64 (↑(BitVec.toNat (BitVec.ofInt (IntKind.bits .i64) (List.getD p0 (Int.toNat p1) 0) &&& BitVec.ofInt (IntKind.bits .i64) 65535)) : Int)) (2 ^ min (Int.toNat 8) (IntKind.bits .i64))) 6), (0, 0, ByteArray.empty, false), ByteArray.empty, ByteArray.empty)], IntKind.wrap .i64 (p1 + 1)), ()))))
 (.no))))
 (.no))))
 (.cond (p2 == 0)
 (.opt (numberRF (p0, IntKind.wrap .i64 (p1 + 1), if 2 < p2 then 2 else p2, ())) fun y18 =>
 (.opt (numberRF (p0, y18.1.2, if 2 < p2 then 2 else p2, ())) fun y19 =>
 (.cond (decide ((List.length y18.1.1 + List.length y19.1.1) * 80 ≤ 140737488355328))
 (.cond (false)
 (.no)
 (.cond (false)
 (.no)
 (.cond (decide ((List.length (y18.1.1 ++ y19.1.1) + List.length (List.set (List.replicate 1 (0, (0, 0, ByteArray.empty, false), ByteArray.empty, ByteArray.empty)) 0 (IntKind.wrap .i64 (7 + Int.tmod (Int.fdiv (IntKind.wrap .i64 (↑(BitVec.toNat (BitVec.ofInt (IntKind.bits .i64) (List.getD p0 (Int.toNat p1) 0) &&& BitVec.ofInt (IntKind.bits .i64) 65535)) : Int)) (2 ^ min (Int.toNat 4) (IntKind.bits .i64))) 6), (0, 0, ByteArray.empty, false), ByteArray.empty, ByteArray.empty))) * 80 ≤ 140737488355328))
 (.ret ((y18.1.1 ++ y19.1.1 ++ List.set (List.replicate 1 (0, (0, 0, ByteArray.empty, false), ByteArray.empty, ByteArray.empty)) 0 (IntKind.wrap .i64 (7 + Int.tmod (Int.fdiv (IntKind.wrap .i64 (↑(BitVec.toNat (BitVec.ofInt (IntKind.bits .i64) (List.getD p0 (Int.toNat p1) 0) &&& BitVec.ofInt (IntKind.bits .i64) 65535)) : Int)) (2 ^ min (Int.toNat 4) (IntKind.bits .i64))) 6), (0, 0, ByteArray.empty, false), ByteArray.empty, ByteArray.empty), y19.1.2), ()))
 (.no))))
 (.no))))
 (.cond (false)
 (.no)
 (.cond (decide (Int.tmod (IntKind.wrap .i64 (↑(BitVec.toNat (BitVec.ofInt (IntKind.bits .i64) (List.getD p0 (Int.toNat p1) 0) &&& BitVec.ofInt (IntKind.bits .i64) 65535)) : Int)) 7 < 2))
 (.opt (numberRF (p0, IntKind.wrap .i64 (p1 + 1), if 2 < p2 then 2 else p2, ())) fun y20 =>
 (.opt (numberRF (p0, y20.1.2, if 2 < p2 then 2 else p2, ())) fun y21 =>
 (.cond (decide ((List.length y20.1.1 + List.length y21.1.1) * 80 ≤ 140737488355328))
 (.cond (false)
 (.no)
 (.cond (false)
 (.no)
 (.cond (decide ((List.length (y20.1.1 ++ y21.1.1) + List.length (List.set (List.replicate 1 (0, (0, 0, ByteArray.empty, false), ByteArray.empty, ByteArray.empty)) 0 (IntKind.wrap .i64 (7 + Int.tmod (Int.fdiv (IntKind.wrap .i64 (↑(BitVec.toNat (BitVec.ofInt (IntKind.bits .i64) (List.getD p0 (Int.toNat p1) 0) &&& BitVec.ofInt (IntKind.bits .i64) 65535)) : Int)) (2 ^ min (Int.toNat 4) (IntKind.bits .i64))) 6), (0, 0, ByteArray.empty, false), ByteArray.empty, ByteArray.empty))) * 80 ≤ 140737488355328))
 (.ret ((y20.1.1 ++ y21.1.1 ++ List.set (List.replicate 1 (0, (0, 0, ByteArray.empty, false), ByteArray.empty, ByteArray.empty)) 0 (IntKind.wrap .i64 (7 + Int.tmod (Int.fdiv (IntKind.wrap .i64 (↑(BitVec.toNat (BitVec.ofInt (IntKind.bits .i64) (List.getD p0 (Int.toNat p1) 0) &&& BitVec.ofInt (IntKind.bits .i64) 65535)) : Int)) (2 ^ min (Int.toNat 4) (IntKind.bits .i64))) 6), (0, 0, ByteArray.empty, false), ByteArray.empty, ByteArray.empty), y21.1.2), ()))
 (.no))))
 (.no))))
 (.cond (false)
 (.no)
 (.cond (Int.tmod (IntKind.wrap .i64 (↑(BitVec.toNat (BitVec.ofInt (IntKind.bits .i64) (List.getD p0 (Int.toNat p1) 0) &&& BitVec.ofInt (IntKind.bits .i64) 65535)) : Int)) 7 == 2)
 (.opt (G_truthR (p0, IntKind.wrap .i64 (p1 + 1), IntKind.wrap .i64 (p2 - 1), ())) fun y22 =>
 (.cond (decide ((List.length y22.1.1 + List.length (List.set (List.replicate 1 (0, (0, 0, ByteArray.empty, false), ByteArray.empty, ByteArray.empty)) 0 (13, (0, 0, ByteArray.empty, false), ByteArray.empty, ByteArray.empty))) * 80 ≤ 140737488355328))
 (.ret ((y22.1.1 ++ List.set (List.replicate 1 (0, (0, 0, ByteArray.empty, false), ByteArray.empty, ByteArray.empty)) 0 (13, (0, 0, ByteArray.empty, false), ByteArray.empty, ByteArray.empty), y22.1.2), ()))
 (.no)))
 (.opt (G_truthR (p0, IntKind.wrap .i64 (p1 + 1), IntKind.wrap .i64 (p2 - 1), ())) fun y23 =>
 (.opt (G_truthR (p0, y23.1.2, IntKind.wrap .i64 (p2 - 1), ())) fun y24 =>
 (.cond (decide ((List.length y23.1.1 + List.length y24.1.1) * 80 ≤ 140737488355328))
 (.cond (false)
 (.no)
 (.cond (decide ((List.length (y23.1.1 ++ y24.1.1) + List.length (List.set (List.replicate 1 (0, (0, 0, ByteArray.empty, false), ByteArray.empty, ByteArray.empty)) 0 (IntKind.wrap .i64 (14 + IntKind.wrap .i64 (↑(BitVec.toNat (BitVec.ofInt (IntKind.bits .i64) (Int.fdiv (IntKind.wrap .i64 (↑(BitVec.toNat (BitVec.ofInt (IntKind.bits .i64) (List.getD p0 (Int.toNat p1) 0) &&& BitVec.ofInt (IntKind.bits .i64) 65535)) : Int)) (2 ^ min (Int.toNat 4) (IntKind.bits .i64))) &&& BitVec.ofInt (IntKind.bits .i64) 1)) : Int)), (0, 0, ByteArray.empty, false), ByteArray.empty, ByteArray.empty))) * 80 ≤ 140737488355328))
 (.ret ((y23.1.1 ++ y24.1.1 ++ List.set (List.replicate 1 (0, (0, 0, ByteArray.empty, false), ByteArray.empty, ByteArray.empty)) 0 (IntKind.wrap .i64 (14 + IntKind.wrap .i64 (↑(BitVec.toNat (BitVec.ofInt (IntKind.bits .i64) (Int.fdiv (IntKind.wrap .i64 (↑(BitVec.toNat (BitVec.ofInt (IntKind.bits .i64) (List.getD p0 (Int.toNat p1) 0) &&& BitVec.ofInt (IntKind.bits .i64) 65535)) : Int)) (2 ^ min (Int.toNat 4) (IntKind.bits .i64))) &&& BitVec.ofInt (IntKind.bits .i64) 1)) : Int)), (0, 0, ByteArray.empty, false), ByteArray.empty, ByteArray.empty), y24.1.2), ()))
 (.no)))
 (.no)))))))))))))
 (.no))
 (.cond (false)
 (.no)
 (.cond (false)
 (.cond (false)
 (.no)
 (.ret (([(1, (3, 0, ByteArray.empty, false), ByteArray.empty, ByteArray.empty)], IntKind.wrap .i64 (p1 + 1)), ())))
 (.cond (false)
 (.no)
 (.cond (false)
 (.cond (false)
 (.no)
 (.cond (false)
 (.no)
 (.cond (true)
 (.cond (false)
 (.no)
 (.cond (false)
 (.no)
 (.cond (true)
 (.cond (false)
 (.no)
 (.cond (false)
 (.no)
 (.ret (([(2, (0, 0, ByteArray.empty, false), { data := #[97] }, { data := #[115] }), (1, (2, 0, { data := #[117] }, false), ByteArray.empty, ByteArray.empty), (7, (0, 0, ByteArray.empty, false), ByteArray.empty, ByteArray.empty)], IntKind.wrap .i64 (p1 + 1)), ()))))
 (.no))))
 (.no))))
 (.cond (p2 == 0)
 (.opt (numberRF (p0, IntKind.wrap .i64 (p1 + 1), if 2 < p2 then 2 else p2, ())) fun y25 =>
 (.opt (numberRF (p0, y25.1.2, if 2 < p2 then 2 else p2, ())) fun y26 =>
 (.cond (decide ((List.length y25.1.1 + List.length y26.1.1) * 80 ≤ 140737488355328))
 (.cond (false)
 (.no)
 (.cond (false)
 (.no)
 (.cond (decide ((List.length (y25.1.1 ++ y26.1.1) + List.length (List.set (List.replicate 1 (0, (0, 0, ByteArray.empty, false), ByteArray.empty, ByteArray.empty)) 0 (IntKind.wrap .i64 (7 + Int.tmod (Int.fdiv 0 (2 ^ min (Int.toNat 4) (IntKind.bits .i64))) 6), (0, 0, ByteArray.empty, false), ByteArray.empty, ByteArray.empty))) * 80 ≤ 140737488355328))
 (.ret ((y25.1.1 ++ y26.1.1 ++ List.set (List.replicate 1 (0, (0, 0, ByteArray.empty, false), ByteArray.empty, ByteArray.empty)) 0 (IntKind.wrap .i64 (7 + Int.tmod (Int.fdiv 0 (2 ^ min (Int.toNat 4) (IntKind.bits .i64))) 6), (0, 0, ByteArray.empty, false), ByteArray.empty, ByteArray.empty), y26.1.2), ()))
 (.no))))
 (.no))))
 (.cond (false)
 (.no)
 (.cond (true)
 (.opt (numberRF (p0, IntKind.wrap .i64 (p1 + 1), if 2 < p2 then 2 else p2, ())) fun y27 =>
 (.opt (numberRF (p0, y27.1.2, if 2 < p2 then 2 else p2, ())) fun y28 =>
 (.cond (decide ((List.length y27.1.1 + List.length y28.1.1) * 80 ≤ 140737488355328))
 (.cond (false)
 (.no)
 (.cond (false)
 (.no)
 (.cond (decide ((List.length (y27.1.1 ++ y28.1.1) + List.length (List.set (List.replicate 1 (0, (0, 0, ByteArray.empty, false), ByteArray.empty, ByteArray.empty)) 0 (IntKind.wrap .i64 (7 + Int.tmod (Int.fdiv 0 (2 ^ min (Int.toNat 4) (IntKind.bits .i64))) 6), (0, 0, ByteArray.empty, false), ByteArray.empty, ByteArray.empty))) * 80 ≤ 140737488355328))
 (.ret ((y27.1.1 ++ y28.1.1 ++ List.set (List.replicate 1 (0, (0, 0, ByteArray.empty, false), ByteArray.empty, ByteArray.empty)) 0 (IntKind.wrap .i64 (7 + Int.tmod (Int.fdiv 0 (2 ^ min (Int.toNat 4) (IntKind.bits .i64))) 6), (0, 0, ByteArray.empty, false), ByteArray.empty, ByteArray.empty), y28.1.2), ()))
 (.no))))
 (.no))))
 (.cond (false)
 (.no)
 (.cond (false)
 (.opt (G_truthR (p0, IntKind.wrap .i64 (p1 + 1), IntKind.wrap .i64 (p2 - 1), ())) fun y29 =>
 (.cond (decide ((List.length y29.1.1 + List.length (List.set (List.replicate 1 (0, (0, 0, ByteArray.empty, false), ByteArray.empty, ByteArray.empty)) 0 (13, (0, 0, ByteArray.empty, false), ByteArray.empty, ByteArray.empty))) * 80 ≤ 140737488355328))
 (.ret ((y29.1.1 ++ List.set (List.replicate 1 (0, (0, 0, ByteArray.empty, false), ByteArray.empty, ByteArray.empty)) 0 (13, (0, 0, ByteArray.empty, false), ByteArray.empty, ByteArray.empty), y29.1.2), ()))
 (.no)))
 (.opt (G_truthR (p0, IntKind.wrap .i64 (p1 + 1), IntKind.wrap .i64 (p2 - 1), ())) fun y30 =>
 (.opt (G_truthR (p0, y30.1.2, IntKind.wrap .i64 (p2 - 1), ())) fun y31 =>
 (.cond (decide ((List.length y30.1.1 + List.length y31.1.1) * 80 ≤ 140737488355328))
 (.cond (false)
 (.no)
 (.cond (decide ((List.length (y30.1.1 ++ y31.1.1) + List.length (List.set (List.replicate 1 (0, (0, 0, ByteArray.empty, false), ByteArray.empty, ByteArray.empty)) 0 (IntKind.wrap .i64 (14 + IntKind.wrap .i64 (↑(BitVec.toNat (BitVec.ofInt (IntKind.bits .i64) (Int.fdiv 0 (2 ^ min (Int.toNat 4) (IntKind.bits .i64))) &&& BitVec.ofInt (IntKind.bits .i64) 1)) : Int)), (0, 0, ByteArray.empty, false), ByteArray.empty, ByteArray.empty))) * 80 ≤ 140737488355328))
 (.ret ((y30.1.1 ++ y31.1.1 ++ List.set (List.replicate 1 (0, (0, 0, ByteArray.empty, false), ByteArray.empty, ByteArray.empty)) 0 (IntKind.wrap .i64 (14 + IntKind.wrap .i64 (↑(BitVec.toNat (BitVec.ofInt (IntKind.bits .i64) (Int.fdiv 0 (2 ^ min (Int.toNat 4) (IntKind.bits .i64))) &&& BitVec.ofInt (IntKind.bits .i64) 1)) : Int)), (0, 0, ByteArray.empty, false), ByteArray.empty, ByteArray.empty), y31.1.2), ()))
 (.no)))
 (.no))))))))))))))
noncomputable def truthR (G_truthR : zA29 → Option zA32) : zA29 → Option zA32 := fun x => ((truthR_B G_truthR) x).run
abbrev truthR_ins : List (Bool × Pat) := [(false, .ty true (.sl (.int .i64))), (false, .ty false (.int .i64)), (false, .ty false (.int .i64))]
abbrev truthR_outs : List Pat := [.row 74 zA13, .ty false (.int .i64)]
noncomputable abbrev truthR_f : Func := Try.f31
noncomputable abbrev truthR_P : Program := Try.prog
abbrev truthR_kp : List Nat := kpOf truthR_ins
abbrev truthR_kf : List Nat := kfOf truthR_ins
noncomputable def truthR_c (G_truthR : zA29 → Option zA32) : Ctx := { (addO cx_numberR 31 (ocOrc [(false, .ty true (.sl (.int .i64))), (false, .ty false (.int .i64)), (false, .ty false (.int .i64))] [.row 74 zA13, .ty false (.int .i64)] G_truthR)) with base := 1024 }
set_option maxRecDepth 100000 in
theorem truthR_env (G_truthR : zA29 → Option zA32) (H_truthR : OC Try.prog 31 [(false, .ty true (.sl (.int .i64))), (false, .ty false (.int .i64)), (false, .ty false (.int .i64))] [.row 74 zA13, .ty false (.int .i64)] G_truthR) : EnvFull truthR_P (truthR_c G_truthR) := env_base ((env_add en_numberR (OC.callOk H_truthR))) 1024
noncomputable def truthR_p : Par := { sh := fun _ => none, k := 0, lo := fun _ => none }
set_option maxRecDepth 100000 in
theorem truthR_eq (G_truthR : zA29 → Option zA32) (p0 : (List Int)) (p1 : Int) (p2 : Int) : ocRun (truthR_c G_truthR) truthR_p truthR_f truthR_ins truthR_outs (p0, p1, p2, ()) = (truthR_B G_truthR) (p0, p1, p2, ()) := by kernel_rfl
set_option maxRecDepth 100000 in
theorem truthR_oc (G_truthR : zA29 → Option zA32) (H_truthR : OC Try.prog 31 [(false, .ty true (.sl (.int .i64))), (false, .ty false (.int .i64)), (false, .ty false (.int .i64))] [.row 74 zA13, .ty false (.int .i64)] G_truthR) : OC truthR_P 31 truthR_ins truthR_outs (truthR G_truthR) := OC.of_tree (truthR_env G_truthR H_truthR) Try.func31 (by kernel_rfl) (by kernel_rfl) (p := truthR_p) (fun g hg => LoOk.of (l := []) (by kernel_rfl) .nil) (fun (p0, p1, p2, ()) => (truthR_eq G_truthR) p0 p1 p2)
noncomputable def truthR_k : Nat → zA29 → Option zA32
  | 0 => fun _ => none
  | k + 1 => truthR (truthR_k k)
theorem truthR_kok : ∀ k, OC Try.prog 31 [(false, .ty true (.sl (.int .i64))), (false, .ty false (.int .i64)), (false, .ty false (.int .i64))] [.row 74 zA13, .ty false (.int .i64)] (truthR_k k)
  | 0 => OC.zero Try.func31 (by kernel_rfl)
  | k + 1 => truthR_oc _ (truthR_kok k)
noncomputable def truthRF : zA29 → Option zA32 := fun x => truthR_k ((fun x => x.2.2.1.toNat + 2) x) x
theorem truthRF_oc : OC Try.prog 31 [(false, .ty true (.sl (.int .i64))), (false, .ty false (.int .i64)), (false, .ty false (.int .i64))] [.row 74 zA13, .ty false (.int .i64)] truthRF := OC.deep truthR_kok (fun x => x.2.2.1.toNat + 2)
noncomputable def cx_truthR : Ctx := addO cx_numberR 31 (ocOrc [(false, .ty true (.sl (.int .i64))), (false, .ty false (.int .i64)), (false, .ty false (.int .i64))] [.row 74 zA13, .ty false (.int .i64)] truthRF)
theorem en_truthR : EnvFull Try.prog cx_truthR := env_add (en_numberR) truthRF_oc.callOk
end Go.Proofs.Ytnhiplibodkciaa
