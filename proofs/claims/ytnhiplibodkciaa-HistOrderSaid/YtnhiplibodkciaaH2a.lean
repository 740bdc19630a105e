/- Contracts of functions. Printed by auto.py. -/
import Derived.Test.YtnhiplibodkciaaGe
import Derived.Test.YtnhiplibodkciaaHa
namespace Go.Proofs.Ytnhiplibodkciaa
open Go.PI Go
noncomputable def cmpSp_B : ((Int × (Int × zH1)) × ((Int × (Int × zH1)) × Unit)) → Br (Int × Unit) := fun (p0, p1, ()) =>
 (.ret (IntKind.wrap .i64 (p0.2.2.2.1 - p1.2.2.2.1), ()))
noncomputable def cmpSp : ((Int × (Int × zH1)) × ((Int × (Int × zH1)) × Unit)) → Option (Int × Unit) := fun x => (cmpSp_B x).run
abbrev cmpSp_ins : List (Bool × Pat) := [(false, .ty false zH4), (false, .ty false zH4)]
abbrev cmpSp_outs : List Pat := [.ty false (.int .i64)]
noncomputable abbrev cmpSp_f : Func := Try.f84
noncomputable abbrev cmpSp_P : Program := Try.prog
noncomputable def cmpSp_c : Ctx := { cx0 with base := 1024 }
set_option maxRecDepth 100000 in
theorem cmpSp_env : EnvFull cmpSp_P cmpSp_c := env_base (en0) 1024
noncomputable def cmpSp_p : Par := { sh := fun _ => none, k := 0, lo := fun _ => none }
set_option maxRecDepth 100000 in
theorem cmpSp_eq (p0 : (Int × (Int × zH1))) (p1 : (Int × (Int × zH1))) : ocRun cmpSp_c cmpSp_p cmpSp_f cmpSp_ins cmpSp_outs (p0, p1, ()) = cmpSp_B (p0, p1, ()) := by kernel_rfl
set_option maxRecDepth 100000 in
theorem cmpSp_oc : OC cmpSp_P 84 cmpSp_ins cmpSp_outs cmpSp := OC.of_tree cmpSp_env Try.func84 (by kernel_rfl) (by kernel_rfl) (p := cmpSp_p) (fun g hg => LoOk.of (l := []) (by kernel_rfl) .nil) (fun (p0, p1, ()) => cmpSp_eq p0 p1)
noncomputable def cx_cmpSp : Ctx := addO cx0 84 (ocOrc cmpSp_ins cmpSp_outs cmpSp)
theorem en_cmpSp : EnvFull Try.prog cx_cmpSp := env_add (en0) cmpSp_oc.callOk
noncomputable def len64_B : (Int × Unit) → Br (Int × Unit) := fun (p0, ()) =>
 (.cond (decide (p0 ≥ 4294967296))
 (.cond (false)
 (.no)
 (.cond (decide (Int.fdiv p0 (2 ^ min (Int.toNat 32) (IntKind.bits .u64)) ≥ 65536))
 (.cond (false)
 (.no)
 (.cond (decide (Int.fdiv (Int.fdiv p0 (2 ^ min (Int.toNat 32) (IntKind.bits .u64))) (2 ^ min (Int.toNat 16) (IntKind.bits .u64)) ≥ 256))
 (.cond (false)
 (.no)
 (.cond (decide (0 ≤ IntKind.wrap .u8 (Int.fdiv (Int.fdiv (Int.fdiv p0 (2 ^ min (Int.toNat 32) (IntKind.bits .u64))) (2 ^ min (Int.toNat 16) (IntKind.bits .u64))) (2 ^ min (Int.toNat 8) (IntKind.bits .u64)))) && decide (IntKind.wrap .u8 (Int.fdiv (Int.fdiv (Int.fdiv p0 (2 ^ min (Int.toNat 32) (IntKind.bits .u64))) (2 ^ min (Int.toNat 16) (IntKind.bits .u64))) (2 ^ min (Int.toNat 8) (IntKind.bits .u64))) < (↑(ByteArray.size { data := List.toArray (List.append (List.append [0, 1, 2, 2, 3, 3, 3, 3, 4, 4, 4, 4, 4, 4, 4, 4, 5, 5, 5, 5, 5, 5, 5, 5, 5, 5, 5, 5, 5, 5, 5, 5, 6, 6, 6, 6, 6, 6, 6, 6, 6, 6, 6, 6, 6, 6, 6, 6, 6, 6, 6, 6, 6, 6, 6, 6, 6, 6, 6, 6, 6, 6, 6, 6] [7, 7, 7, 7, 7, 7, 7, 7, 7, 7, 7, 7, 7, 7, 7, 7, 7, 7, 7, 7, 7, 7, 7, 7, 7, 7, 7, 7, 7, 7, 7, 7, 7, 7, 7, 7, 7, 7, 7, 7, 7, 7, 7, 7, 7, 7, 7, 7, 7, 7, 7, 7, 7, 7, 7, 7, 7, 7, 7, 7, 7, 7, 7, 7]) (List.append [8, 8, 8, 8, 8, 8, 8, 8, 8, 8, 8, 8, 8, 8, 8, 8, 8, 8, 8, 8, 8, 8, 8, 8, 8, 8, 8, 8, 8, 8, 8, 8, 8, 8, 8, 8, 8, 8, 8, 8, 8, 8, 8, 8, 8, 8, 8, 8, 8, 8, 8, 8, 8, 8, 8, 8, 8, 8, 8, 8, 8, 8, 8, 8] [8, 8, 8, 8, 8, 8, 8, 8, 8, 8, 8, 8, 8, 8, 8, 8, 8, 8, 8, 8, 8, 8, 8, 8, 8, 8, 8, 8, 8, 8, 8, 8, 8, 8, 8, 8, 8, 8, 8, 8, 8, 8, 8, 8, 8, 8, 8, 8, 8, 8, 8, 8, 8, 8, 8, 8, 8, 8, 8, 8, 8, 8, 8, 8])) }) : Int)))
 (.ret (IntKind.wrap .i64 (56 + IntKind.wrap .i64 (↑(UInt8.toNat (List.getD (bl { data := List.toArray (List.append (List.append [0, 1, 2, 2, 3, 3, 3, 3, 4, 4, 4, 4, 4, 4, 4, 4, 5, 5, 5, 5, 5, 5, 5, 5, 5, 5, 5, 5, 5, 5, 5, 5, 6, 6, 6, 6, 6, 6, 6, 6, 6, 6, 6, 6, 6, 6, 6, 6, 6, 6, 6, 6, 6, 6, 6, 6, 6, 6, 6, 6, 6, 6, 6, 6] [7, 7, 7, 7, 7, 7, 7, 7, 7, 7, 7, 7, 7, 7, 7, 7, 7, 7, 7, 7, 7, 7, 7, 7, 7, 7, 7, 7, 7, 7, 7, 7, 7, 7, 7, 7, 7, 7, 7, 7, 7, 7, 7, 7, 7, 7, 7, 7, 7, 7, 7, 7, 7, 7, 7, 7, 7, 7, 7, 7, 7, 7, 7, 7]) (List.append [8, 8, 8, 8, 8, 8, 8, 8, 8, 8, 8, 8, 8, 8, 8, 8, 8, 8, 8, 8, 8, 8, 8, 8, 8, 8, 8, 8, 8, 8, 8, 8, 8, 8, 8, 8, 8, 8, 8, 8, 8, 8, 8, 8, 8, 8, 8, 8, 8, 8, 8, 8, 8, 8, 8, 8, 8, 8, 8, 8, 8, 8, 8, 8] [8, 8, 8, 8, 8, 8, 8, 8, 8, 8, 8, 8, 8, 8, 8, 8, 8, 8, 8, 8, 8, 8, 8, 8, 8, 8, 8, 8, 8, 8, 8, 8, 8, 8, 8, 8, 8, 8, 8, 8, 8, 8, 8, 8, 8, 8, 8, 8, 8, 8, 8, 8, 8, 8, 8, 8, 8, 8, 8, 8, 8, 8, 8, 8])) }) (Int.toNat (IntKind.wrap .u8 (Int.fdiv (Int.fdiv (Int.fdiv p0 (2 ^ min (Int.toNat 32) (IntKind.bits .u64))) (2 ^ min (Int.toNat 16) (IntKind.bits .u64))) (2 ^ min (Int.toNat 8) (IntKind.bits .u64))))) 0)) : Int)), ()))
 (.no)))
 (.cond (decide (0 ≤ IntKind.wrap .u8 (Int.fdiv (Int.fdiv p0 (2 ^ min (Int.toNat 32) (IntKind.bits .u64))) (2 ^ min (Int.toNat 16) (IntKind.bits .u64)))) && decide (IntKind.wrap .u8 (Int.fdiv (Int.fdiv p0 (2 ^ min (Int.toNat 32) (IntKind.bits .u64))) (2 ^ min (Int.toNat 16) (IntKind.bits .u64))) < (↑(ByteArray.size { data := List.toArray (List.append (List.append [0, 1, 2, 2, 3, 3, 3, 3, 4, 4, 4, 4, 4, 4, 4, 4, 5, 5, 5, 5, 5, 5, 5, 5, 5, 5, 5, 5, 5, 5, 5, 5, 6, 6, 6, 6, 6, 6, 6, 6, 6, 6, 6, 6, 6, 6, 6, 6, 6, 6, 6, 6, 6, 6, 6, 6, 6, 6, 6, 6, 6, 6, 6, 6] [7, 7, 7, 7, 7, 7, 7, 7, 7, 7, 7, 7, 7, 7, 7, 7, 7, 7, 7, 7, 7, 7, 7, 7, 7, 7, 7, 7, 7, 7, 7, 7, 7, 7, 7, 7, 7, 7, 7, 7, 7, 7, 7, 7, 7, 7, 7, 7, 7, 7, 7, 7, 7, 7, 7, 7, 7, 7, 7, 7, 7, 7, 7, 7]) (List.append [8, 8, 8, 8, 8, 8, 8, 8, 8, 8, 8, 8, 8, 8, 8, 8, 8, 8, 8, 8, 8, 8, 8, 8, 8, 8, 8, 8, 8, 8, 8, 8, 8, 8, 8, 8, 8, 8, 8, 8, 8, 8, 8, 8, 8, 8, 8, 8, 8, 8, 8, 8, 8, 8, 8, 8, 8, 8, 8, 8, 8, 8, 8, 8] [8, 8, 8, 8, 8, 8, 8, 8, 8, 8, 8, 8, 8, 8, 8, 8, 8, 8, 8, 8, 8, 8, 8, 8, 8, 8, 8, 8, 8, 8, 8, 8, 8, 8, 8, 8, 8, 8, 8, 8, 8, 8, 8, 8, 8, 8, 8, 8, 8, 8, 8, 8, 8, 8, 8, 8, 8, 8, 8, 8, 8, 8, 8, 8])) }) : Int)))
 (.ret (IntKind.wrap .i64 (48 + IntKind.wrap .i64 (↑(UInt8.toNat (List.getD (bl { data := List.toArray (List.append (List.append [0, 1, 2, 2, 3, 3, 3, 3, 4, 4, 4, 4, 4, 4, 4, 4, 5, 5, 5, 5, 5, 5, 5, 5, 5, 5, 5, 5, 5, 5, 5, 5, 6, 6, 6, 6, 6, 6, 6, 6, 6, 6, 6, 6, 6, 6, 6, 6, 6, 6, 6, 6, 6, 6, 6, 6, 6, 6, 6, 6, 6, 6, 6, 6] [7, 7, 7, 7, 7, 7, 7, 7, 7, 7, 7, 7, 7, 7, 7, 7, 7, 7, 7, 7, 7, 7, 7, 7, 7, 7, 7, 7, 7, 7, 7, 7, 7, 7, 7, 7, 7, 7, 7, 7, 7, 7, 7, 7, 7, 7, 7, 7, 7, 7, 7, 7, 7, 7, 7, 7, 7, 7, 7, 7, 7, 7, 7, 7]) (List.append [8, 8, 8, 8, 8, 8, 8, 8, 8, 8, 8, 8, 8, 8, 8, 8, 8, 8, 8, 8, 8, 8, 8, 8, 8, 8, 8, 8, 8, 8, 8, 8, 8, 8, 8, 8, 8, 8, 8, 8, 8, 8, 8, 8, 8, 8, 8, 8, 8, 8, 8, 8, 8, 8, 8, 8, 8, 8, 8, 8, 8, 8, 8, 8] [8, 8, 8, 8, 8, 8, 8, 8, 8, 8, 8, 8, 8, 8, 8, 8, 8, 8, 8, 8, 8, 8, 8, 8, 8, 8, 8, 8, 8, 8, 8, 8, 8, 8, 8, 8, 8, 8, 8, 8, 8, 8, 8, 8, 8, 8, 8, 8, 8, 8, 8, 8, 8, 8, 8, 8, 8, 8, 8, 8, 8, 8, 8, 8])) }) (Int.toNat (IntKind.wrap .u8 (Int.fdiv (Int.fdiv p0 (2 ^ min (Int.toNat 32) (IntKind.bits .u64))) (2 ^ min (Int.toNat 16) (IntKind.bits .u64))))) 0)) : Int)), ()))
 (.no))))
 (.cond (decide (Int.fdiv p0 (2 ^ min (Int.toNat 32) (IntKind.bits .u64)) ≥ 256))
 (.cond (false)
 (.no)
 (.cond (decide (0 ≤ IntKind.wrap .u8 (Int.fdiv (Int.fdiv p0 (2 ^ min (Int.toNat 32) (IntKind.bits .u64))) (2 ^ min (Int.toNat 8) (IntKind.bits .u64)))) && decide (IntKind.wrap .u8 (Int.fdiv (Int.fdiv p0 (2 ^ min (Int.toNat 32) (IntKind.bits .u64))) (2 ^ min (Int.toNat 8) (IntKind.bits .u64))) < (↑(ByteArray.size { data := List.toArray (List.append (List.append [0, 1, 2, 2, 3, 3, 3, 3, 4, 4, 4, 4, 4, 4, 4, 4, 5, 5, 5, 5, 5, 5, 5, 5, 5, 5, 5, 5, 5, 5, 5, 5, 6, 6, 6, 6, 6, 6, 6, 6, 6, 6, 6, 6, 6, 6, 6, 6, 6, 6, 6, 6, 6, 6, 6, 6, 6, 6, 6, 6, 6, 6, 6, 6] [7, 7, 7, 7, 7, 7, 7, 7, 7, 7, 7, 7, 7, 7, 7, 7, 7, 7, 7, 7, 7, 7, 7, 7, 7, 7, 7, 7, 7, 7, 7, 7, 7, 7, 7, 7, 7, 7, 7, 7, 7, 7, 7, 7, 7, 7, 7, 7, 7, 7, 7, 7, 7, 7, 7, 7, 7, 7, 7, 7, 7, 7, 7, 7]) (List.append [8, 8, 8, 8, 8, 8, 8, 8, 8, 8, 8, 8, 8, 8, 8, 8, 8, 8, 8, 8, 8, 8, 8, 8, 8, 8, 8, 8, 8, 8, 8, 8, 8, 8, 8, 8, 8, 8, 8, 8, 8, 8, 8, 8, 8, 8, 8, 8, 8, 8, 8, 8, 8, 8, 8, 8, 8, 8, 8, 8, 8, 8, 8, 8] [8, 8, 8, 8, 8, 8, 8, 8, 8, 8, 8, 8, 8, 8, 8, 8, 8, 8, 8, 8, 8, 8, 8, 8, 8, 8, 8, 8, 8, 8, 8, 8, 8, 8, 8, 8, 8, 8, 8, 8, 8, 8, 8, 8, 8, 8, 8, 8, 8, 8, 8, 8, 8, 8, 8, 8, 8, 8, 8, 8, 8, 8, 8, 8])) }) : Int)))
 (.ret (IntKind.wrap .i64 (40 + IntKind.wrap .i64 (↑(UInt8.toNat (List.getD (bl { data := List.toArray (List.append (List.append [0, 1, 2, 2, 3, 3, 3, 3, 4, 4, 4, 4, 4, 4, 4, 4, 5, 5, 5, 5, 5, 5, 5, 5, 5, 5, 5, 5, 5, 5, 5, 5, 6, 6, 6, 6, 6, 6, 6, 6, 6, 6, 6, 6, 6, 6, 6, 6, 6, 6, 6, 6, 6, 6, 6, 6, 6, 6, 6, 6, 6, 6, 6, 6] [7, 7, 7, 7, 7, 7, 7, 7, 7, 7, 7, 7, 7, 7, 7, 7, 7, 7, 7, 7, 7, 7, 7, 7, 7, 7, 7, 7, 7, 7, 7, 7, 7, 7, 7, 7, 7, 7, 7, 7, 7, 7, 7, 7, 7, 7, 7, 7, 7, 7, 7, 7, 7, 7, 7, 7, 7, 7, 7, 7, 7, 7, 7, 7]) (List.append [8, 8, 8, 8, 8, 8, 8, 8, 8, 8, 8, 8, 8, 8, 8, 8, 8, 8, 8, 8, 8, 8, 8, 8, 8, 8, 8, 8, 8, 8, 8, 8, 8, 8, 8, 8, 8, 8, 8, 8, 8, 8, 8, 8, 8, 8, 8, 8, 8, 8, 8, 8, 8, 8, 8, 8, 8, 8, 8, 8, 8, 8, 8, 8] [8, 8, 8, 8, 8, 8, 8, 8, 8, 8, 8, 8, 8, 8, 8, 8, 8, 8, 8, 8, 8, 8, 8, 8, 8, 8, 8, 8, 8, 8, 8, 8, 8, 8, 8, 8, 8, 8, 8, 8, 8, 8, 8, 8, 8, 8, 8, 8, 8, 8, 8, 8, 8, 8, 8, 8, 8, 8, 8, 8, 8, 8, 8, 8])) }) (Int.toNat (IntKind.wrap .u8 (Int.fdiv (Int.fdiv p0 (2 ^ min (Int.toNat 32) (IntKind.bits .u64))) (2 ^ min (Int.toNat 8) (IntKind.bits .u64))))) 0)) : Int)), ()))
 (.no)))
 (.cond (decide (0 ≤ IntKind.wrap .u8 (Int.fdiv p0 (2 ^ min (Int.toNat 32) (IntKind.bits .u64)))) && decide (IntKind.wrap .u8 (Int.fdiv p0 (2 ^ min (Int.toNat 32) (IntKind.bits .u64))) < (↑(ByteArray.size { data := List.toArray (List.append (List.append [0, 1, 2, 2, 3, 3, 3, 3, 4, 4, 4, 4, 4, 4, 4, 4, 5, 5, 5, 5, 5, 5, 5, 5, 5, 5, 5, 5, 5, 5, 5, 5, 6, 6, 6, 6, 6, 6, 6, 6, 6, 6, 6, 6, 6, 6, 6, 6, 6, 6, 6, 6, 6, 6, 6, 6, 6, 6, 6, 6, 6, 6, 6, 6] [7, 7, 7, 7, 7, 7, 7, 7, 7, 7, 7, 7, 7, 7, 7, 7, 7, 7, 7, 7, 7, 7, 7, 7, 7, 7, 7, 7, 7, 7, 7, 7, 7, 7, 7, 7, 7, 7, 7, 7, 7, 7, 7, 7, 7, 7, 7, 7, 7, 7, 7, 7, 7, 7, 7, 7, 7, 7, 7, 7, 7, 7, 7, 7]) (List.append [8, 8, 8, 8, 8, 8, 8, 8, 8, 8, 8, 8, 8, 8, 8, 8, 8, 8, 8, 8, 8, 8, 8, 8, 8, 8, 8, 8, 8, 8, 8, 8, 8, 8, 8, 8, 8, 8, 8, 8, 8, 8, 8, 8, 8, 8, 8, 8, 8, 8, 8, 8, 8, 8, 8, 8, 8, 8, 8, 8, 8, 8, 8, 8] [8, 8, 8, 8, 8, 8, 8, 8, 8, 8, 8, 8, 8, 8, 8, 8, 8, 8, 8, 8, 8, 8, 8, 8, 8, 8, 8, 8, 8, 8, 8, 8, 8, 8, 8, 8, 8, 8, 8, 8, 8, 8, 8, 8, 8, 8, 8, 8, 8, 8, 8, 8, 8, 8, 8, 8, 8, 8, 8, 8, 8, 8, 8, 8])) }) : Int)))
 (.ret (IntKind.wrap .i64 (32 + IntKind.wrap .i64 (↑(UInt8.toNat (List.getD (bl { data := List.toArray (List.append (List.append [0, 1, 2, 2, 3, 3, 3, 3, 4, 4, 4, 4, 4, 4, 4, 4, 5, 5, 5, 5, 5, 5, 5, 5, 5, 5, 5, 5, 5, 5, 5, 5, 6, 6, 6, 6, 6, 6, 6, 6, 6, 6, 6, 6, 6, 6, 6, 6, 6, 6, 6, 6, 6, 6, 6, 6, 6, 6, 6, 6, 6, 6, 6, 6] [7, 7, 7, 7, 7, 7, 7, 7, 7, 7, 7, 7, 7, 7, 7, 7, 7, 7, 7, 7, 7, 7, 7, 7, 7, 7, 7, 7, 7, 7, 7, 7, 7, 7, 7, 7, 7, 7, 7, 7, 7, 7, 7, 7, 7, 7, 7, 7, 7, 7, 7, 7, 7, 7, 7, 7, 7, 7, 7, 7, 7, 7, 7, 7]) (List.append [8, 8, 8, 8, 8, 8, 8, 8, 8, 8, 8, 8, 8, 8, 8, 8, 8, 8, 8, 8, 8, 8, 8, 8, 8, 8, 8, 8, 8, 8, 8, 8, 8, 8, 8, 8, 8, 8, 8, 8, 8, 8, 8, 8, 8, 8, 8, 8, 8, 8, 8, 8, 8, 8, 8, 8, 8, 8, 8, 8, 8, 8, 8, 8] [8, 8, 8, 8, 8, 8, 8, 8, 8, 8, 8, 8, 8, 8, 8, 8, 8, 8, 8, 8, 8, 8, 8, 8, 8, 8, 8, 8, 8, 8, 8, 8, 8, 8, 8, 8, 8, 8, 8, 8, 8, 8, 8, 8, 8, 8, 8, 8, 8, 8, 8, 8, 8, 8, 8, 8, 8, 8, 8, 8, 8, 8, 8, 8])) }) (Int.toNat (IntKind.wrap .u8 (Int.fdiv p0 (2 ^ min (Int.toNat 32) (IntKind.bits .u64))))) 0)) : Int)), ()))
 (.no)))))
 (.cond (decide (p0 ≥ 65536))
 (.cond (false)
 (.no)
 (.cond (decide (Int.fdiv p0 (2 ^ min (Int.toNat 16) (IntKind.bits .u64)) ≥ 256))
 (.cond (false)
 (.no)
 (.cond (decide (0 ≤ IntKind.wrap .u8 (Int.fdiv (Int.fdiv p0 (2 ^ min (Int.toNat 16) (IntKind.bits .u64))) (2 ^ min (Int.toNat 8) (IntKind.bits .u64)))) && decide (IntKind.wrap .u8 (Int.fdiv (Int.fdiv p0 (2 ^ min (Int.toNat 16) (IntKind.bits .u64))) (2 ^ min (Int.toNat 8) (IntKind.bits .u64))) < (↑(ByteArray.size { data := List.toArray (List.append (List.append [0, 1, 2, 2, 3, 3, 3, 3, 4, 4, 4, 4, 4, 4, 4, 4, 5, 5, 5, 5, 5, 5, 5, 5, 5, 5, 5, 5, 5, 5, 5, 5, 6, 6, 6, 6, 6, 6, 6, 6, 6, 6, 6, 6, 6, 6, 6, 6, 6, 6, 6, 6, 6, 6, 6, 6, 6, 6, 6, 6, 6, 6, 6, 6] [7, 7, 7, 7, 7, 7, 7, 7, 7, 7, 7, 7, 7, 7, 7, 7, 7, 7, 7, 7, 7, 7, 7, 7, 7, 7, 7, 7, 7, 7, 7, 7, 7, 7, 7, 7, 7, 7, 7, 7, 7, 7, 7, 7, 7, 7, 7, 7, 7, 7, 7, 7, 7, 7, 7, 7, 7, 7, 7, 7, 7, 7, 7, 7]) (List.append [8, 8, 8, 8, 8, 8, 8, 8, 8, 8, 8, 8, 8, 8, 8, 8, 8, 8, 8, 8, 8, 8, 8, 8, 8, 8, 8, 8, 8, 8, 8, 8, 8, 8, 8, 8, 8, 8, 8, 8, 8, 8, 8, 8, 8, 8, 8, 8, 8, 8, 8, 8, 8, 8, 8, 8, 8, 8, 8, 8, 8, 8, 8, 8] [8, 8, 8, 8, 8, 8, 8, 8, 8, 8, 8, 8, 8, 8, 8, 8, 8, 8, 8, 8, 8, 8, 8, 8, 8, 8, 8, 8, 8, 8, 8, 8, 8, 8, 8, 8, 8, 8, 8, 8, 8, 8, 8, 8, 8, 8, 8, 8, 8, 8, 8, 8, 8, 8, 8, 8, 8, 8, 8, 8, 8, 8, 8, 8])) }) : Int)))
 (.ret (IntKind.wrap .i64 (24 + IntKind.wrap .i64 (↑(UInt8.toNat (List.getD (bl { data := List.toArray (List.append (List.append [0, 1, 2, 2, 3, 3, 3, 3, 4, 4, 4, 4, 4, 4, 4, 4, 5, 5, 5, 5, 5, 5, 5, 5, 5, 5, 5, 5, 5, 5, 5, 5, 6, 6, 6, 6, 6, 6, 6, 6, 6, 6, 6, 6, 6, 6, 6, 6, 6, 6, 6, 6, 6, 6, 6, 6, 6, 6, 6, 6, 6, 6, 6, 6] [7, 7, 7, 7, 7, 7, 7, 7, 7, 7, 7, 7, 7, 7, 7, 7, 7, 7, 7, 7, 7, 7, 7, 7, 7, 7, 7, 7, 7, 7, 7, 7, 7, 7, 7, 7, 7, 7, 7, 7, 7, 7, 7, 7, 7, 7, 7, 7, 7, 7, 7, 7, 7, 7, 7, 7, 7, 7, 7, 7, 7, 7, 7, 7]) (List.append [8, 8, 8, 8, 8, 8, 8, 8, 8, 8, 8, 8, 8, 8, 8, 8, 8, 8, 8, 8, 8, 8, 8, 8, 8, 8, 8, 8, 8, 8, 8, 8, 8, 8, 8, 8, 8, 8, 8, 8, 8, 8, 8, 8, 8, 8, 8, 8, 8, 8, 8, 8, 8, 8, 8, 8, 8, 8, 8, 8, 8, 8, 8, 8] [8, 8, 8, 8, 8, 8, 8, 8, 8, 8, 8, 8, 8, 8, 8, 8, 8, 8, 8, 8, 8, 8, 8, 8, 8, 8, 8, 8, 8, 8, 8, 8, 8, 8, 8, 8, 8, 8, 8, 8, 8, 8, 8, 8, 8, 8, 8, 8, 8, 8, 8, 8, 8, 8, 8, 8, 8, 8, 8, 8, 8, 8, 8, 8])) }) (Int.toNat (IntKind.wrap .u8 (Int.fdiv (Int.fdiv p0 (2 ^ min (Int.toNat 16) (IntKind.bits .u64))) (2 ^ min (Int.toNat 8) (IntKind.bits .u64))))) 0)) : Int)), ()))
 (.no)))
 (.cond (decide (0 ≤ IntKind.wrap .u8 (Int.fdiv p0 (2 ^ min (Int.toNat 16) (IntKind.bits .u64)))) && decide (IntKind.wrap .u8 (Int.fdiv p0 (2 ^ min (Int.toNat 16) (IntKind.bits .u64))) < (↑(ByteArray.size { data := List.toArray (List.append (List.append [0, 1, 2, 2, 3, 3, 3, 3, 4, 4, 4, 4, 4, 4, 4, 4, 5, 5, 5, 5, 5, 5, 5, 5, 5, 5, 5, 5, 5, 5, 5, 5, 6, 6, 6, 6, 6, 6, 6, 6, 6, 6, 6, 6, 6, 6, 6, 6, 6, 6, 6, 6, 6, 6, 6, 6, 6, 6, 6, 6, 6, 6, 6, 6] [7, 7, 7, 7, 7, 7, 7, 7, 7, 7, 7, 7, 7, 7, 7, 7, 7, 7, 7, 7, 7, 7, 7, 7, 7, 7, 7, 7, 7, 7, 7, 7, 7, 7, 7, 7, 7, 7, 7, 7, 7, 7, 7, 7, 7, 7, 7, 7, 7, 7, 7, 7, 7, 7, 7, 7, 7, 7, 7, 7, 7, 7, 7, 7]) (List.append [8, 8, 8, 8, 8, 8, 8, 8, 8, 8, 8, 8, 8, 8, 8, 8, 8, 8, 8, 8, 8, 8, 8, 8, 8, 8, 8, 8, 8, 8, 8, 8, 8, 8, 8, 8, 8, 8, 8, 8, 8, 8, 8, 8, 8, 8, 8, 8, 8, 8, 8, 8, 8, 8, 8, 8, 8, 8, 8, 8, 8, 8, 8, 8] [8, 8, 8, 8, 8, 8, 8, 8, 8, 8, 8, 8, 8, 8, 8, 8, 8, 8, 8, 8, 8, 8, 8, 8, 8, 8, 8, 8, 8, 8, 8, 8, 8, 8, 8, 8, 8, 8, 8, 8, 8, 8, 8, 8, 8, 8, 8, 8, 8, 8, 8, 8, 8, 8, 8, 8, 8, 8, 8, 8, 8, 8, 8, 8])) }) : Int)))
 (.ret (IntKind.wrap .i64 (16 + IntKind.wrap .i64 (↑(UInt8.toNat (List.getD (bl { data := List.toArray (List.append (List.append [0, 1, 2, 2, 3, 3, 3, 3, 4, 4, 4, 4, 4, 4, 4, 4, 5, 5, 5, 5, 5, 5, 5, 5, 5, 5, 5, 5, 5, 5, 5, 5, 6, 6, 6, 6, 6, 6, 6, 6, 6, 6, 6, 6, 6, 6, 6, 6, 6, 6, 6, 6, 6, 6, 6, 6, 6, 6, 6, 6, 6, 6, 6, 6] [7, 7, 7, 7, 7, 7, 7, 7, 7, 7, 7, 7, 7, 7, 7, 7, 7, 7, 7, 7, 7, 7, 7, 7, 7, 7, 7, 7, 7, 7, 7, 7, 7, 7, 7, 7, 7, 7, 7, 7, 7, 7, 7, 7, 7, 7, 7, 7, 7, 7, 7, 7, 7, 7, 7, 7, 7, 7, 7, 7, 7, 7, 7, 7]) (List.append [8, 8, 8, 8, 8, 8, 8, 8, 8, 8, 8, 8, 8, 8, 8, 8, 8, 8, 8, 8, 8, 8, 8, 8, 8, 8, 8, 8, 8, 8, 8, 8, 8, 8, 8, 8, 8, 8, 8, 8, 8, 8, 8, 8, 8, 8, 8, 8, 8, 8, 8, 8, 8, 8, 8, 8, 8, 8, 8, 8, 8, 8, 8, 8] [8, 8, 8, 8, 8, 8, 8, 8, 8, 8, 8, 8, 8, 8, 8, 8, 8, 8, 8, 8, 8, 8, 8, 8, 8, 8, 8, 8, 8, 8, 8, 8, 8, 8, 8, 8, 8, 8, 8, 8, 8, 8, 8, 8, 8, 8, 8, 8, 8, 8, 8, 8, 8, 8, 8, 8, 8, 8, 8, 8, 8, 8, 8, 8])) }) (Int.toNat (IntKind.wrap .u8 (Int.fdiv p0 (2 ^ min (Int.toNat 16) (IntKind.bits .u64))))) 0)) : Int)), ()))
 (.no))))
 (.cond (decide (p0 ≥ 256))
 (.cond (false)
 (.no)
 (.cond (decide (0 ≤ IntKind.wrap .u8 (Int.fdiv p0 (2 ^ min (Int.toNat 8) (IntKind.bits .u64)))) && decide (IntKind.wrap .u8 (Int.fdiv p0 (2 ^ min (Int.toNat 8) (IntKind.bits .u64))) < (↑(ByteArray.size { data := List.toArray (List.append (List.append [0, 1, 2, 2, 3, 3, 3, 3, 4, 4, 4, 4, 4, 4, 4, 4, 5, 5, 5, 5, 5, 5, 5, 5, 5, 5, 5, 5, 5, 5, 5, 5, 6, 6, 6, 6, 6, 6, 6, 6, 6, 6, 6, 6, 6, 6, 6, 6, 6, 6, 6, 6, 6, 6, 6, 6, 6, 6, 6, 6, 6, 6, 6, 6] [7, 7, 7, 7, 7, 7, 7, 7, 7, 7, 7, 7, 7, 7, 7, 7, 7, 7, 7, 7, 7, 7, 7, 7, 7, 7, 7, 7, 7, 7, 7, 7, 7, 7, 7, 7, 7, 7, 7, 7, 7, 7, 7, 7, 7, 7, 7, 7, 7, 7, 7, 7, 7, 7, 7, 7, 7, 7, 7, 7, 7, 7, 7, 7]) (List.append [8, 8, 8, 8, 8, 8, 8, 8, 8, 8, 8, 8, 8, 8, 8, 8, 8, 8, 8, 8, 8, 8, 8, 8, 8, 8, 8, 8, 8, 8, 8, 8, 8, 8, 8, 8, 8, 8, 8, 8, 8, 8, 8, 8, 8, 8, 8, 8, 8, 8, 8, 8, 8, 8, 8, 8, 8, 8, 8, 8, 8, 8, 8, 8] [8, 8, 8, 8, 8, 8, 8, 8, 8, 8, 8, 8, 8, 8, 8, 8, 8, 8, 8, 8, 8, 8, 8, 8, 8, 8, 8, 8, 8, 8, 8, 8, 8, 8, 8, 8, 8, 8, 8, 8, 8, 8, 8, 8, 8, 8, 8, 8, 8, 8, 8, 8, 8, 8, 8, 8, 8, 8, 8, 8, 8, 8, 8, 8])) }) : Int)))
 (.ret (IntKind.wrap .i64 (8 + IntKind.wrap .i64 (↑(UInt8.toNat (List.getD (bl { data := List.toArray (List.append (List.append [0, 1, 2, 2, 3, 3, 3, 3, 4, 4, 4, 4, 4, 4, 4, 4, 5, 5, 5, 5, 5, 5, 5, 5, 5, 5, 5, 5, 5, 5, 5, 5, 6, 6, 6, 6, 6, 6, 6, 6, 6, 6, 6, 6, 6, 6, 6, 6, 6, 6, 6, 6, 6, 6, 6, 6, 6, 6, 6, 6, 6, 6, 6, 6] [7, 7, 7, 7, 7, 7, 7, 7, 7, 7, 7, 7, 7, 7, 7, 7, 7, 7, 7, 7, 7, 7, 7, 7, 7, 7, 7, 7, 7, 7, 7, 7, 7, 7, 7, 7, 7, 7, 7, 7, 7, 7, 7, 7, 7, 7, 7, 7, 7, 7, 7, 7, 7, 7, 7, 7, 7, 7, 7, 7, 7, 7, 7, 7]) (List.append [8, 8, 8, 8, 8, 8, 8, 8, 8, 8, 8, 8, 8, 8, 8, 8, 8, 8, 8, 8, 8, 8, 8, 8, 8, 8, 8, 8, 8, 8, 8, 8, 8, 8, 8, 8, 8, 8, 8, 8, 8, 8, 8, 8, 8, 8, 8, 8, 8, 8, 8, 8, 8, 8, 8, 8, 8, 8, 8, 8, 8, 8, 8, 8] [8, 8, 8, 8, 8, 8, 8, 8, 8, 8, 8, 8, 8, 8, 8, 8, 8, 8, 8, 8, 8, 8, 8, 8, 8, 8, 8, 8, 8, 8, 8, 8, 8, 8, 8, 8, 8, 8, 8, 8, 8, 8, 8, 8, 8, 8, 8, 8, 8, 8, 8, 8, 8, 8, 8, 8, 8, 8, 8, 8, 8, 8, 8, 8])) }) (Int.toNat (IntKind.wrap .u8 (Int.fdiv p0 (2 ^ min (Int.toNat 8) (IntKind.bits .u64))))) 0)) : Int)), ()))
 (.no)))
 (.cond (decide (0 ≤ IntKind.wrap .u8 p0) && decide (IntKind.wrap .u8 p0 < (↑(ByteArray.size { data := List.toArray (List.append (List.append [0, 1, 2, 2, 3, 3, 3, 3, 4, 4, 4, 4, 4, 4, 4, 4, 5, 5, 5, 5, 5, 5, 5, 5, 5, 5, 5, 5, 5, 5, 5, 5, 6, 6, 6, 6, 6, 6, 6, 6, 6, 6, 6, 6, 6, 6, 6, 6, 6, 6, 6, 6, 6, 6, 6, 6, 6, 6, 6, 6, 6, 6, 6, 6] [7, 7, 7, 7, 7, 7, 7, 7, 7, 7, 7, 7, 7, 7, 7, 7, 7, 7, 7, 7, 7, 7, 7, 7, 7, 7, 7, 7, 7, 7, 7, 7, 7, 7, 7, 7, 7, 7, 7, 7, 7, 7, 7, 7, 7, 7, 7, 7, 7, 7, 7, 7, 7, 7, 7, 7, 7, 7, 7, 7, 7, 7, 7, 7]) (List.append [8, 8, 8, 8, 8, 8, 8, 8, 8, 8, 8, 8, 8, 8, 8, 8, 8, 8, 8, 8, 8, 8, 8, 8, 8, 8, 8, 8, 8, 8, 8, 8, 8, 8, 8, 8, 8, 8, 8, 8, 8, 8, 8, 8, 8, 8, 8, 8, 8, 8, 8, 8, 8, 8, 8, 8, 8, 8, 8, 8, 8, 8, 8, 8] [8, 8, 8, 8, 8, 8, 8, 8, 8, 8, 8, 8, 8, 8, 8, 8, 8, 8, 8, 8, 8, 8, 8, 8, 8, 8, 8, 8, 8, 8, 8, 8, 8, 8, 8, 8, 8, 8, 8, 8, 8, 8, 8, 8, 8, 8, 8, 8, 8, 8, 8, 8, 8, 8, 8, 8, 8, 8, 8, 8, 8, 8, 8, 8])) }) : Int)))
 (.ret (IntKind.wrap .i64 (0 + IntKind.wrap .i64 (↑(UInt8.toNat (List.getD (bl { data := List.toArray (List.append (List.append [0, 1, 2, 2, 3, 3, 3, 3, 4, 4, 4, 4, 4, 4, 4, 4, 5, 5, 5, 5, 5, 5, 5, 5, 5, 5, 5, 5, 5, 5, 5, 5, 6, 6, 6, 6, 6, 6, 6, 6, 6, 6, 6, 6, 6, 6, 6, 6, 6, 6, 6, 6, 6, 6, 6, 6, 6, 6, 6, 6, 6, 6, 6, 6] [7, 7, 7, 7, 7, 7, 7, 7, 7, 7, 7, 7, 7, 7, 7, 7, 7, 7, 7, 7, 7, 7, 7, 7, 7, 7, 7, 7, 7, 7, 7, 7, 7, 7, 7, 7, 7, 7, 7, 7, 7, 7, 7, 7, 7, 7, 7, 7, 7, 7, 7, 7, 7, 7, 7, 7, 7, 7, 7, 7, 7, 7, 7, 7]) (List.append [8, 8, 8, 8, 8, 8, 8, 8, 8, 8, 8, 8, 8, 8, 8, 8, 8, 8, 8, 8, 8, 8, 8, 8, 8, 8, 8, 8, 8, 8, 8, 8, 8, 8, 8, 8, 8, 8, 8, 8, 8, 8, 8, 8, 8, 8, 8, 8, 8, 8, 8, 8, 8, 8, 8, 8, 8, 8, 8, 8, 8, 8, 8, 8] [8, 8, 8, 8, 8, 8, 8, 8, 8, 8, 8, 8, 8, 8, 8, 8, 8, 8, 8, 8, 8, 8, 8, 8, 8, 8, 8, 8, 8, 8, 8, 8, 8, 8, 8, 8, 8, 8, 8, 8, 8, 8, 8, 8, 8, 8, 8, 8, 8, 8, 8, 8, 8, 8, 8, 8, 8, 8, 8, 8, 8, 8, 8, 8])) }) (Int.toNat (IntKind.wrap .u8 p0)) 0)) : Int)), ()))
 (.no)))))
noncomputable def len64 : (Int × Unit) → Option (Int × Unit) := fun x => (len64_B x).run
abbrev len64_ins : List (Bool × Pat) := [(false, .ty false (.int .u64))]
abbrev len64_outs : List Pat := [.ty false (.int .i64)]
noncomputable abbrev len64_f : Func := Try.f170
noncomputable abbrev len64_P : Program := Try.prog
noncomputable def len64_c : Ctx := { cx_cmpSp with base := 1024 }
set_option maxRecDepth 100000 in
theorem len64_env : EnvFull len64_P len64_c := env_base (en_cmpSp) 1024
noncomputable def len64_p : Par := { sh := fun _ => none, k := 0, lo := fun _ => none }
set_option maxRecDepth 100000 in
theorem len64_eq (p0 : Int) : ocRun len64_c len64_p len64_f len64_ins len64_outs (p0, ()) = len64_B (p0, ()) := by kernel_rfl
set_option maxRecDepth 100000 in
theorem len64_oc : OC len64_P 170 len64_ins len64_outs len64 := OC.of_tree len64_env Try.func170 (by kernel_rfl) (by kernel_rfl) (p := len64_p) (fun g hg => LoOk.of (l := []) (by kernel_rfl) .nil) (fun (p0, ()) => len64_eq p0)
noncomputable def cx_len64 : Ctx := addO cx_cmpSp 170 (ocOrc len64_ins len64_outs len64)
theorem en_len64 : EnvFull Try.prog cx_len64 := env_add (en_cmpSp) len64_oc.callOk
noncomputable def lenU_B : (Int × Unit) → Br (Int × Unit) := fun (p0, ()) =>
 (.opt (len64 (p0, ())) fun y2 =>
 (.ret (y2.1, ())))
noncomputable def lenU : (Int × Unit) → Option (Int × Unit) := fun x => (lenU_B x).run
abbrev lenU_ins : List (Bool × Pat) := [(false, .ty false (.int .u64))]
abbrev lenU_outs : List Pat := [.ty false (.int .i64)]
noncomputable abbrev lenU_f : Func := Try.f129
noncomputable abbrev lenU_P : Program := Try.prog
noncomputable def lenU_c : Ctx := { cx_len64 with base := 1024 }
set_option maxRecDepth 100000 in
theorem lenU_env : EnvFull lenU_P lenU_c := env_base (en_len64) 1024
noncomputable def lenU_p : Par := { sh := fun _ => none, k := 0, lo := fun _ => none }
set_option maxRecDepth 100000 in
theorem lenU_eq (p0 : Int) : ocRun lenU_c lenU_p lenU_f lenU_ins lenU_outs (p0, ()) = lenU_B (p0, ()) := by kernel_rfl
set_option maxRecDepth 100000 in
theorem lenU_oc : OC lenU_P 129 lenU_ins lenU_outs lenU := OC.of_tree lenU_env Try.func129 (by kernel_rfl) (by kernel_rfl) (p := lenU_p) (fun g hg => LoOk.of (l := []) (by kernel_rfl) .nil) (fun (p0, ()) => lenU_eq p0)
noncomputable def cx_lenU : Ctx := addO cx_len64 129 (ocOrc lenU_ins lenU_outs lenU)
theorem en_lenU : EnvFull Try.prog cx_lenU := env_add (en_len64) lenU_oc.callOk
noncomputable def insSort_l1 : (Int × (Int × (Int × (Int × (zH3 × Unit))))) → Br ((Int × (Int × (Int × (Int × (zH3 × Unit))))) ⊕ (Int × (Int × (Int × (zH3 × Unit))))) := fun (s1_54, s2_55, s8_56, s9_57, r1954_58, ()) =>
 (.cond (decide (s9_57 > s1_54))
 (.cond (decide (0 ≤ s9_57) && decide (s9_57 < (↑(List.length r1954_58) : Int)))
 (.cond (decide (0 ≤ IntKind.wrap .i64 (s9_57 - 1)) && decide (IntKind.wrap .i64 (s9_57 - 1) < (↑(List.length r1954_58) : Int)))
 (.opt (cmpSp (List.getD r1954_58 (Int.toNat s9_57) (0, 0, 0, 0, 0, 0, 0, List.replicate 6 0), List.getD r1954_58 (Int.toNat (IntKind.wrap .i64 (s9_57 - 1))) (0, 0, 0, 0, 0, 0, 0, List.replicate 6 0), ())) fun y59 =>
 (.cond (decide (y59.1 < 0))
 (.cond (decide (0 ≤ IntKind.wrap .i64 (s9_57 - 1)) && decide (IntKind.wrap .i64 (s9_57 - 1) < (↑(List.length r1954_58) : Int)))
 (.cond (decide (0 ≤ s9_57) && decide (s9_57 < (↑(List.length r1954_58) : Int)))
 (.cond (decide (0 ≤ s9_57) && decide (s9_57 < (↑(List.length r1954_58) : Int)))
 (.cond (decide (0 ≤ IntKind.wrap .i64 (s9_57 - 1)) && decide (IntKind.wrap .i64 (s9_57 - 1) < (↑(List.length (List.set r1954_58 (Int.toNat s9_57) (List.getD r1954_58 (Int.toNat (IntKind.wrap .i64 (s9_57 - 1))) (0, 0, 0, 0, 0, 0, 0, List.replicate 6 0)))) : Int)))
 (.ret (.inl (s1_54, s2_55, s8_56, IntKind.wrap .i64 (s9_57 - 1), List.set (List.set r1954_58 (Int.toNat s9_57) (List.getD r1954_58 (Int.toNat (IntKind.wrap .i64 (s9_57 - 1))) (0, 0, 0, 0, 0, 0, 0, List.replicate 6 0))) (Int.toNat (IntKind.wrap .i64 (s9_57 - 1))) (List.getD r1954_58 (Int.toNat s9_57) (0, 0, 0, 0, 0, 0, 0, List.replicate 6 0)), ())))
 (.no))
 (.no))
 (.no))
 (.no))
 (.ret (.inr (s1_54, s2_55, s8_56, r1954_58, ())))))
 (.no))
 (.no))
 (.ret (.inr (s1_54, s2_55, s8_56, r1954_58, ()))))
noncomputable def insSort_w1 : (Int × (Int × (Int × (Int × (zH3 × Unit))))) → Option (Int × (Int × (Int × (zH3 × Unit)))) := iterO fun x => (insSort_l1 x).run
noncomputable def insSort_l0 : (Int × (Int × (Int × (zH3 × Unit)))) → Br ((Int × (Int × (Int × (zH3 × Unit)))) ⊕ (zH3 × Unit)) := fun (s1_50, s2_51, s8_52, r1954_53, ()) =>
 (.cond (decide (s8_52 < s2_51))
 (.opt (insSort_w1 (s1_50, s2_51, s8_52, s8_52, r1954_53, ())) fun z61 =>
 (.ret (.inl (z61.1, z61.2.1, IntKind.wrap .i64 (z61.2.2.1 + 1), z61.2.2.2.1, ()))))
 (.ret (.inr (r1954_53, ()))))
noncomputable def insSort_w0 : (Int × (Int × (Int × (zH3 × Unit)))) → Option (zH3 × Unit) := iterO fun x => (insSort_l0 x).run
noncomputable def insSort_B : zH3 → (Int × (Int × (Unit × Unit))) → Br zH3 := fun p0 (p1, p2, p3, ()) =>
 (.opt (insSort_w0 (p1, p2, IntKind.wrap .i64 (p1 + 1), p0, ())) fun z63 =>
 (.ret z63.1))
noncomputable def insSort : zH3 → (Int × (Int × (Unit × Unit))) → Option zH3 := fun x y => (insSort_B x y).run
abbrev insSort_R : List (Bool × Pat) := [(false, .ty false (.int .i64)), (false, .ty false (.int .i64)), (false, .fn 84 .nil)]
noncomputable abbrev insSort_f : Func := Try.f161
noncomputable abbrev insSort_P : Program := Try.prog
abbrev insSort_kp : List Nat := kpOf (rowIns 33 zH4 insSort_R)
abbrev insSort_kf : List Nat := []
noncomputable def insSort_c : Ctx := { cx_lenU with base := 1024 }
set_option maxRecDepth 100000 in
theorem insSort_env : EnvFull insSort_P insSort_c := env_base (en_lenU) 1024
abbrev insSort_H1 : List Hole := [.slot 1 false (.int .i64), .slot 2 false (.int .i64), .slot 8 false (.int .i64), .slot 9 false (.int .i64), .ar 1954 false 33 zH4]
def insSort_S1 : Skel := ⟨53, [(0, D.c (C.mfull 1954)), (3, D.fn 84 [])], [(1954, [])]⟩
abbrev insSort_H1e0 : List Hole := [.slot 1 false (.int .i64), .slot 2 false (.int .i64), .slot 8 false (.int .i64), .ar 1954 false 33 zH4]
def insSort_S1e0 : Skel := ⟨53, [(0, D.c (C.mfull 1954)), (3, D.fn 84 [])], [(1954, [])]⟩
def insSort_h1 : Exit → Shape
  | .normal => ⟨[(0, .keep), (1, .as false (.int .i64)), (2, .as false (.int .i64)), (3, .keep), (8, .as false (.int .i64)), (9, .as false (.int .i64))], [], [(930, false)]⟩
  | .exit 2 => ⟨[(0, .keep), (1, .as false (.int .i64)), (2, .as false (.int .i64)), (3, .keep), (8, .as false (.int .i64))], [], [(930, false)]⟩
  | _ => ⟨[], [], []⟩
def insSort_e1 : (Int × (Int × (Int × (zH3 × Unit)))) → Exit × St
  | u => (.exit 2, insSort_S1e0.fillK insSort_kf insSort_H1e0 u)
def insSort_t1 : (Int × (Int × (Int × (zH3 × Unit)))) → Br (Exit × St) := fun u => .ret (.exit 2, insSort_S1e0.fillK insSort_kf insSort_H1e0 u)
noncomputable def insSort_C1 : Code := loopAt 1 (bodyOf insSort_f)
noncomputable def insSort_o1 : St → Br (Exit × St) := loopF insSort_kp insSort_kf 1024 (insSort_h1 .normal) (insSort_S1.parseK insSort_kf insSort_H1) fun x => .opt (insSort_w1 x) insSort_t1
abbrev insSort_H0 : List Hole := [.slot 1 false (.int .i64), .slot 2 false (.int .i64), .slot 8 false (.int .i64), .ar 1954 false 33 zH4]
def insSort_S0 : Skel := ⟨53, [(0, D.c (C.mfull 1954)), (3, D.fn 84 [])], [(1954, [])]⟩
abbrev insSort_H0e0 : List Hole := [.ar 1954 false 33 zH4]
def insSort_S0e0 : Skel := ⟨53, [], [(1954, [])]⟩
def insSort_h0 : Exit → Shape
  | .normal => ⟨[(0, .keep), (1, .as false (.int .i64)), (2, .as false (.int .i64)), (3, .keep), (8, .as false (.int .i64))], [], [(930, false)]⟩
  | .exit 0 => ⟨[], [], [(930, false)]⟩
  | _ => ⟨[], [], []⟩
def insSort_e0 : (zH3 × Unit) → Exit × St
  | u => (.exit 0, insSort_S0e0.fillK insSort_kf insSort_H0e0 u)
def insSort_t0 : (zH3 × Unit) → Br (Exit × St) := fun u => .ret (.exit 0, insSort_S0e0.fillK insSort_kf insSort_H0e0 u)
noncomputable def insSort_C0 : Code := loopAt 0 (bodyOf insSort_f)
noncomputable def insSort_o0 : St → Br (Exit × St) := loopF insSort_kp insSort_kf 1024 (insSort_h0 .normal) (insSort_S0.parseK insSort_kf insSort_H0) fun x => .opt (insSort_w0 x) insSort_t0
noncomputable def insSort_p : Par := { sh := fun _ => none, k := 0, lo := fun i => bif Nat.beq i 1 then some insSort_o0 else bif Nat.beq i 4 then some insSort_o1 else none }
set_option maxRecDepth 100000 in
theorem insSort_r1 (s1_54 : Int) (s2_55 : Int) (s8_56 : Int) (s9_57 : Int) (r1954_58 : zH3) : roundF insSort_kp insSort_kf insSort_c insSort_p insSort_h1 insSort_C1 (insSort_S1.fillK insSort_kf insSort_H1 (s1_54, s2_55, s8_56, s9_57, r1954_58, ())) = (insSort_l1 (s1_54, s2_55, s8_56, s9_57, r1954_58, ())).bind (loopLeaf (fun x => insSort_S1.fillK insSort_kf insSort_H1 x) insSort_e1) := by kernel_rfl
set_option maxRecDepth 100000 in
theorem insSort_ok1 (g : Cfg) (hg : ∀ n, Go.PI.look n g.m0 ≠ Option.none → n ∈ insSort_kp) : LoopOk insSort_P g insSort_o1 insSort_C1 := LoopOk.auto insSort_env hg insSort_p (LoOk.of (l := []) (by kernel_rfl) .nil) insSort_h1 (fun x => insSort_S1.fillK insSort_kf insSort_H1 x) (fun s x h => Skel.parseK_ok s x h) insSort_l1 insSort_e1 (fun _ h => by cases h) insSort_t1 (fun _ => rfl) (fun (s1_54, s2_55, s8_56, s9_57, r1954_58, ()) => insSort_r1 s1_54 s2_55 s8_56 s9_57 r1954_58)
set_option maxRecDepth 100000 in
theorem insSort_r0 (s1_50 : Int) (s2_51 : Int) (s8_52 : Int) (r1954_53 : zH3) : roundF insSort_kp insSort_kf insSort_c insSort_p insSort_h0 insSort_C0 (insSort_S0.fillK insSort_kf insSort_H0 (s1_50, s2_51, s8_52, r1954_53, ())) = (insSort_l0 (s1_50, s2_51, s8_52, r1954_53, ())).bind (loopLeaf (fun x => insSort_S0.fillK insSort_kf insSort_H0 x) insSort_e0) := by kernel_rfl
set_option maxRecDepth 100000 in
theorem insSort_ok0 (g : Cfg) (hg : ∀ n, Go.PI.look n g.m0 ≠ Option.none → n ∈ insSort_kp) : LoopOk insSort_P g insSort_o0 insSort_C0 := LoopOk.auto insSort_env hg insSort_p (LoOk.of (l := [insSort_C1]) (by kernel_rfl) (.cons (insSort_ok1 g hg) (by kernel_rfl) .nil)) insSort_h0 (fun x => insSort_S0.fillK insSort_kf insSort_H0 x) (fun s x h => Skel.parseK_ok s x h) insSort_l0 insSort_e0 (fun _ h => by cases h) insSort_t0 (fun _ => rfl) (fun (s1_50, s2_51, s8_52, r1954_53, ()) => insSort_r0 s1_50 s2_51 s8_52 r1954_53)
set_option maxRecDepth 100000 in
theorem insSort_eq (p0 : zH3) (p1 : Int) (p2 : Int) (p3 : Unit) : ocrRun insSort_c insSort_p insSort_f 33 zH4 insSort_R p0 (p1, p2, p3, ()) = insSort_B p0 (p1, p2, p3, ()) := by kernel_rfl
set_option maxRecDepth 100000 in
theorem insSort_oc : OCR insSort_P 161 33 zH4 insSort_R insSort := OCR.of_tree insSort_env Try.func161 (by kernel_rfl) (p := insSort_p) (fun g hg => LoOk.of (l := [insSort_C0, insSort_C1]) (by kernel_rfl) (.cons (insSort_ok0 g hg) (by kernel_rfl) (.cons (insSort_ok1 g hg) (by kernel_rfl) .nil))) (fun p0 (p1, p2, p3, ()) => insSort_eq p0 p1 p2 p3)
noncomputable def cx_insSort : Ctx := addO cx_lenU 161 (rowOrc 33 zH4 insSort_R insSort)
theorem en_insSort : EnvFull Try.prog cx_insSort := env_add (en_lenU) insSort_oc.callOk
noncomputable def pdq_l0 : (Int × (Int × (Int × (zH3 × Unit)))) → Br ((Int × (Int × (Int × (zH3 × Unit)))) ⊕ (zH3 × Unit)) := fun (s1_24, s2_25, s3_26, r1954_27, ()) =>
 (.cond (decide (IntKind.wrap .i64 (s2_25 - s1_24) ≤ 12))
 (.opt (insSort r1954_27 (s1_24, s2_25, (), ())) fun y28 =>
 (.ret (.inr (y28, ()))))
 (.cond (s3_26 == 0)
 (.no)
 (.no)))
noncomputable def pdq_w0 : (Int × (Int × (Int × (zH3 × Unit)))) → Option (zH3 × Unit) := iterO fun x => (pdq_l0 x).run
noncomputable def pdq_B : zH3 → (Int × (Int × (Int × (Unit × Unit)))) → Br zH3 := fun p0 (p1, p2, p3, p4, ()) =>
 (.opt (pdq_w0 (p1, p2, p3, p0, ())) fun z30 =>
 (.ret z30.1))
noncomputable def pdq : zH3 → (Int × (Int × (Int × (Unit × Unit)))) → Option zH3 := fun x y => (pdq_B x y).run
abbrev pdq_R : List (Bool × Pat) := [(false, .ty false (.int .i64)), (false, .ty false (.int .i64)), (false, .ty false (.int .i64)), (false, .fn 84 .nil)]
noncomputable abbrev pdq_f : Func := Try.f128
noncomputable abbrev pdq_P : Program := Try.prog
abbrev pdq_kp : List Nat := kpOf (rowIns 33 zH4 pdq_R)
abbrev pdq_kf : List Nat := []
noncomputable def pdq_c : Ctx := { cx_insSort with base := 1024 }
set_option maxRecDepth 100000 in
theorem pdq_env : EnvFull pdq_P pdq_c := env_base (en_insSort) 1024
abbrev pdq_H0 : List Hole := [.slot 1 false (.int .i64), .slot 2 false (.int .i64), .slot 3 false (.int .i64), .ar 1954 false 33 zH4]
def pdq_S0 : Skel := ⟨148, [(0, D.c (C.mfull 1954)), (4, D.fn 84 []), (10, D.c C.tt), (11, D.c C.tt)], [(1954, [])]⟩
abbrev pdq_H0e0 : List Hole := [.ar 1954 false 33 zH4]
def pdq_S0e0 : Skel := ⟨148, [], [(1954, [])]⟩
def pdq_h0 : Exit → Shape
  | .normal => ⟨[(0, .keep), (1, .as false (.int .i64)), (2, .as false (.int .i64)), (3, .as false (.int .i64)), (4, .keep), (10, .keep), (11, .keep)], [], [(930, false)]⟩
  | .ret => ⟨[], [], [(930, false)]⟩
  | _ => ⟨[], [], []⟩
def pdq_e0 : (zH3 × Unit) → Exit × St
  | u => (.ret, pdq_S0e0.fillK pdq_kf pdq_H0e0 u)
def pdq_t0 : (zH3 × Unit) → Br (Exit × St) := fun u => .ret (.ret, pdq_S0e0.fillK pdq_kf pdq_H0e0 u)
noncomputable def pdq_C0 : Code := loopAt 0 (bodyOf pdq_f)
noncomputable def pdq_o0 : St → Br (Exit × St) := loopF pdq_kp pdq_kf 1024 (pdq_h0 .normal) (pdq_S0.parseK pdq_kf pdq_H0) fun x => .opt (pdq_w0 x) pdq_t0
noncomputable def pdq_p : Par := { sh := fun _ => none, k := 0, lo := fun i => bif Nat.beq i 2 then some pdq_o0 else none }
set_option maxRecDepth 100000 in
theorem pdq_r0 (s1_24 : Int) (s2_25 : Int) (s3_26 : Int) (r1954_27 : zH3) : roundF pdq_kp pdq_kf pdq_c pdq_p pdq_h0 pdq_C0 (pdq_S0.fillK pdq_kf pdq_H0 (s1_24, s2_25, s3_26, r1954_27, ())) = (pdq_l0 (s1_24, s2_25, s3_26, r1954_27, ())).bind (loopLeaf (fun x => pdq_S0.fillK pdq_kf pdq_H0 x) pdq_e0) := by kernel_rfl
set_option maxRecDepth 100000 in
theorem pdq_ok0 (g : Cfg) (hg : ∀ n, Go.PI.look n g.m0 ≠ Option.none → n ∈ pdq_kp) : LoopOk pdq_P g pdq_o0 pdq_C0 := LoopOk.auto pdq_env hg pdq_p (LoOk.of (l := []) (by kernel_rfl) .nil) pdq_h0 (fun x => pdq_S0.fillK pdq_kf pdq_H0 x) (fun s x h => Skel.parseK_ok s x h) pdq_l0 pdq_e0 (fun _ h => by cases h) pdq_t0 (fun _ => rfl) (fun (s1_24, s2_25, s3_26, r1954_27, ()) => pdq_r0 s1_24 s2_25 s3_26 r1954_27)
set_option maxRecDepth 100000 in
theorem pdq_eq (p0 : zH3) (p1 : Int) (p2 : Int) (p3 : Int) (p4 : Unit) : ocrRun pdq_c pdq_p pdq_f 33 zH4 pdq_R p0 (p1, p2, p3, p4, ()) = pdq_B p0 (p1, p2, p3, p4, ()) := by kernel_rfl
set_option maxRecDepth 100000 in
theorem pdq_oc : OCR pdq_P 128 33 zH4 pdq_R pdq := OCR.of_tree pdq_env Try.func128 (by kernel_rfl) (p := pdq_p) (fun g hg => LoOk.of (l := [pdq_C0]) (by kernel_rfl) (.cons (pdq_ok0 g hg) (by kernel_rfl) .nil)) (fun p0 (p1, p2, p3, p4, ()) => pdq_eq p0 p1 p2 p3 p4)
noncomputable def cx_pdq : Ctx := addO cx_insSort 128 (rowOrc 33 zH4 pdq_R pdq)
theorem en_pdq : EnvFull Try.prog cx_pdq := env_add (en_insSort) pdq_oc.callOk
noncomputable def sortSp_B : zH3 → (Unit × Unit) → Br zH3 := fun p0 (p1, ()) =>
 (.opt (lenU (IntKind.wrap .u64 (↑(List.length p0) : Int), ())) fun y4 =>
 (.opt (pdq p0 (0, (↑(List.length p0) : Int), y4.1, (), ())) fun y5 =>
 (.ret y5)))
noncomputable def sortSp : zH3 → (Unit × Unit) → Option zH3 := fun x y => (sortSp_B x y).run
abbrev sortSp_R : List (Bool × Pat) := [(false, .fn 84 .nil)]
noncomputable abbrev sortSp_f : Func := Try.f83
noncomputable abbrev sortSp_P : Program := Try.prog
noncomputable def sortSp_c : Ctx := { cx_pdq with base := 1024 }
set_option maxRecDepth 100000 in
theorem sortSp_env : EnvFull sortSp_P sortSp_c := env_base (en_pdq) 1024
noncomputable def sortSp_p : Par := { sh := fun _ => none, k := 0, lo := fun _ => none }
set_option maxRecDepth 100000 in
theorem sortSp_eq (p0 : zH3) (p1 : Unit) : ocrRun sortSp_c sortSp_p sortSp_f 33 zH4 sortSp_R p0 (p1, ()) = sortSp_B p0 (p1, ()) := by kernel_rfl
set_option maxRecDepth 100000 in
theorem sortSp_oc : OCR sortSp_P 83 33 zH4 sortSp_R sortSp := OCR.of_tree sortSp_env Try.func83 (by kernel_rfl) (p := sortSp_p) (fun g hg => LoOk.of (l := []) (by kernel_rfl) .nil) (fun p0 (p1, ()) => sortSp_eq p0 p1)
end Go.Proofs.Ytnhiplibodkciaa
