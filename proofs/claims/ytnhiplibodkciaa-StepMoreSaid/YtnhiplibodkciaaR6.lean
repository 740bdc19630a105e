/- Contracts of functions. Printed by auto.py. -/
import Derived.Test.YtnhiplibodkciaaAbA
import Derived.Test.YtnhiplibodkciaaR3a
namespace Go.Proofs.Ytnhiplibodkciaa
open Go.PI Go
noncomputable def lenP_B : zA31 → Br (Int × Unit) := fun (p0, ()) =>
 (.cond (List.isEmpty p0)
 (.ret (0, ()))
 (.cond (!List.isEmpty p0)
 (.ret ((↑(List.length p0) : Int), ()))
 (.no)))
noncomputable def lenP : zA31 → Option (Int × Unit) := fun x => (lenP_B x).run
abbrev lenP_ins : List (Bool × Pat) := [(false, .ty true (.chain zA16))]
abbrev lenP_outs : List Pat := [.ty false (.int .i64)]
noncomputable abbrev lenP_f : Func := Try.f108
noncomputable abbrev lenP_P : Program := Try.prog
abbrev lenP_kp : List Nat := kpOf lenP_ins
abbrev lenP_kf : List Nat := kfOf lenP_ins
noncomputable def lenP_c : Ctx := { cx_holdsF with base := 1024 }
set_option maxRecDepth 100000 in
theorem lenP_env : EnvFull lenP_P lenP_c := env_base (en_holdsF) 1024
noncomputable def lenP_p : Par := { sh := fun _ => none, k := 0, lo := fun _ => none }
set_option maxRecDepth 100000 in
theorem lenP_eq (p0 : (List (Int × Int))) : ocRun lenP_c lenP_p lenP_f lenP_ins lenP_outs (p0, ()) = lenP_B (p0, ()) := by kernel_rfl
set_option maxRecDepth 100000 in
theorem lenP_oc : OC lenP_P 108 lenP_ins lenP_outs lenP := OC.of_tree lenP_env Try.func108 (by kernel_rfl) (by kernel_rfl) (p := lenP_p) (fun g hg => LoOk.of (l := []) (by kernel_rfl) .nil) (fun (p0, ()) => lenP_eq p0)
noncomputable def cx_lenP : Ctx := addO cx_holdsF 108 (ocOrc lenP_ins lenP_outs lenP)
theorem en_lenP : EnvFull Try.prog cx_lenP := env_add (en_holdsF) lenP_oc.callOk
noncomputable def lenB_B : (zA21 × Unit) → Br (Int × Unit) := fun (p0, ()) =>
 (.cond (List.isEmpty p0)
 (.ret (0, ()))
 (.cond (!List.isEmpty p0)
 (.ret ((↑(List.length p0) : Int), ()))
 (.no)))
noncomputable def lenB : (zA21 × Unit) → Option (Int × Unit) := fun x => (lenB_B x).run
abbrev lenB_ins : List (Bool × Pat) := [(false, .ty true (.chain (.st (.pair .str zA9))))]
abbrev lenB_outs : List Pat := [.ty false (.int .i64)]
noncomputable abbrev lenB_f : Func := Try.f132
noncomputable abbrev lenB_P : Program := Try.prog
abbrev lenB_kp : List Nat := kpOf lenB_ins
abbrev lenB_kf : List Nat := kfOf lenB_ins
noncomputable def lenB_c : Ctx := { cx_lenP with base := 1024 }
set_option maxRecDepth 100000 in
theorem lenB_env : EnvFull lenB_P lenB_c := env_base (en_lenP) 1024
noncomputable def lenB_p : Par := { sh := fun _ => none, k := 0, lo := fun _ => none }
set_option maxRecDepth 100000 in
theorem lenB_eq (p0 : zA21) : ocRun lenB_c lenB_p lenB_f lenB_ins lenB_outs (p0, ()) = lenB_B (p0, ()) := by kernel_rfl
set_option maxRecDepth 100000 in
theorem lenB_oc : OC lenB_P 132 lenB_ins lenB_outs lenB := OC.of_tree lenB_env Try.func132 (by kernel_rfl) (by kernel_rfl) (p := lenB_p) (fun g hg => LoOk.of (l := []) (by kernel_rfl) .nil) (fun (p0, ()) => lenB_eq p0)
noncomputable def cx_lenB : Ctx := addO cx_lenP 132 (ocOrc lenB_ins lenB_outs lenB)
theorem en_lenB : EnvFull Try.prog cx_lenB := env_add (en_lenP) lenB_oc.callOk
noncomputable def newestP_B : zA31 → Br (((Int × Int) × Bool) × Unit) := fun (p0, ()) =>
 (.opt (lenP (p0, ())) fun y2 =>
 (.cond (y2.1 == 0)
 (.ret (((0, 0), false), ()))
 (.cond (!List.isEmpty p0)
 (.ret ((List.headD p0 (0, 0), true), ()))
 (.no))))
noncomputable def newestP : zA31 → Option (((Int × Int) × Bool) × Unit) := fun x => (newestP_B x).run
abbrev newestP_ins : List (Bool × Pat) := [(false, .ty true (.chain zA16))]
abbrev newestP_outs : List Pat := [.ty false zA16, .ty false .bool]
noncomputable abbrev newestP_f : Func := Try.f101
noncomputable abbrev newestP_P : Program := Try.prog
abbrev newestP_kp : List Nat := kpOf newestP_ins
abbrev newestP_kf : List Nat := kfOf newestP_ins
noncomputable def newestP_c : Ctx := { cx_lenB with base := 1024 }
set_option maxRecDepth 100000 in
theorem newestP_env : EnvFull newestP_P newestP_c := env_base (en_lenB) 1024
noncomputable def newestP_p : Par := { sh := fun _ => none, k := 0, lo := fun _ => none }
set_option maxRecDepth 100000 in
theorem newestP_eq (p0 : (List (Int × Int))) : ocRun newestP_c newestP_p newestP_f newestP_ins newestP_outs (p0, ()) = newestP_B (p0, ()) := by kernel_rfl
set_option maxRecDepth 100000 in
theorem newestP_oc : OC newestP_P 101 newestP_ins newestP_outs newestP := OC.of_tree newestP_env Try.func101 (by kernel_rfl) (by kernel_rfl) (p := newestP_p) (fun g hg => LoOk.of (l := []) (by kernel_rfl) .nil) (fun (p0, ()) => newestP_eq p0)
noncomputable def cx_newestP : Ctx := addO cx_lenB 101 (ocOrc newestP_ins newestP_outs newestP)
theorem en_newestP : EnvFull Try.prog cx_newestP := env_add (en_lenB) newestP_oc.callOk
noncomputable def linkP_B : ((List (Int × Int)) × ((Int × Int) × Unit)) → Br (((Int × Int) × ((List (Int × Int)) × Int)) × Unit) := fun (p0, p1, ()) =>
 (.opt (lenP (p0, ())) fun y3 =>
 (.ret (((p1.1, p1.2), p0, IntKind.wrap .i64 (y3.1 + 1)), ())))
noncomputable def linkP : ((List (Int × Int)) × ((Int × Int) × Unit)) → Option (((Int × Int) × ((List (Int × Int)) × Int)) × Unit) := fun x => (linkP_B x).run
abbrev linkP_ins : List (Bool × Pat) := [(false, .ty false (.chain zA16)), (false, .ty false zA16)]
abbrev linkP_outs : List Pat := [.obj (.two (.ty false zA16) (.two (.ty false (.chain zA16)) (.ty false (.int .i64))))]
noncomputable abbrev linkP_f : Func := Try.f88
noncomputable abbrev linkP_P : Program := Try.prog
abbrev linkP_kp : List Nat := kpOf linkP_ins
abbrev linkP_kf : List Nat := kfOf linkP_ins
noncomputable def linkP_c : Ctx := { cx_newestP with base := 1024 }
set_option maxRecDepth 100000 in
theorem linkP_env : EnvFull linkP_P linkP_c := env_base (en_newestP) 1024
noncomputable def linkP_p : Par := { sh := fun _ => none, k := 0, lo := fun _ => none }
set_option maxRecDepth 100000 in
theorem linkP_eq (p0 : (List (Int × Int))) (p1 : (Int × Int)) : ocRun linkP_c linkP_p linkP_f linkP_ins linkP_outs (p0, p1, ()) = linkP_B (p0, p1, ()) := by kernel_rfl
set_option maxRecDepth 100000 in
theorem linkP_oc : OC linkP_P 88 linkP_ins linkP_outs linkP := OC.of_tree linkP_env Try.func88 (by kernel_rfl) (by kernel_rfl) (p := linkP_p) (fun g hg => LoOk.of (l := []) (by kernel_rfl) .nil) (fun (p0, p1, ()) => linkP_eq p0 p1)
noncomputable def cx_linkP : Ctx := addO cx_newestP 88 (ocOrc linkP_ins linkP_outs linkP)
theorem en_linkP : EnvFull Try.prog cx_linkP := env_add (en_newestP) linkP_oc.callOk
noncomputable def linkB_B : (zA21 × ((ByteArray × zA2) × Unit)) → Br (((ByteArray × zA2) × (zA21 × Int)) × Unit) := fun (p0, p1, ()) =>
 (.opt (lenB (p0, ())) fun y3 =>
 (.ret (((p1.1, p1.2.1, p1.2.2.1, p1.2.2.2.1, p1.2.2.2.2.1, p1.2.2.2.2.2), p0, IntKind.wrap .i64 (y3.1 + 1)), ())))
noncomputable def linkB : (zA21 × ((ByteArray × zA2) × Unit)) → Option (((ByteArray × zA2) × (zA21 × Int)) × Unit) := fun x => (linkB_B x).run
abbrev linkB_ins : List (Bool × Pat) := [(false, .ty false (.chain (.st (.pair .str zA9)))), (false, .ty false (.st (.pair .str zA9)))]
abbrev linkB_outs : List Pat := [.obj (.two (.ty false (.st (.pair .str zA9))) (.two (.ty false (.chain (.st (.pair .str zA9)))) (.ty false (.int .i64))))]
noncomputable abbrev linkB_f : Func := Try.f90
noncomputable abbrev linkB_P : Program := Try.prog
abbrev linkB_kp : List Nat := kpOf linkB_ins
abbrev linkB_kf : List Nat := kfOf linkB_ins
noncomputable def linkB_c : Ctx := { cx_linkP with base := 1024 }
set_option maxRecDepth 100000 in
theorem linkB_env : EnvFull linkB_P linkB_c := env_base (en_linkP) 1024
noncomputable def linkB_p : Par := { sh := fun _ => none, k := 0, lo := fun _ => none }
set_option maxRecDepth 100000 in
theorem linkB_eq (p0 : zA21) (p1 : (ByteArray × zA2)) : ocRun linkB_c linkB_p linkB_f linkB_ins linkB_outs (p0, p1, ()) = linkB_B (p0, p1, ()) := by kernel_rfl
set_option maxRecDepth 100000 in
theorem linkB_oc : OC linkB_P 90 linkB_ins linkB_outs linkB := OC.of_tree linkB_env Try.func90 (by kernel_rfl) (by kernel_rfl) (p := linkB_p) (fun g hg => LoOk.of (l := []) (by kernel_rfl) .nil) (fun (p0, p1, ()) => linkB_eq p0 p1)
noncomputable def cx_linkB : Ctx := addO cx_linkP 90 (ocOrc linkB_ins linkB_outs linkB)
theorem en_linkB : EnvFull Try.prog cx_linkB := env_add (en_linkP) linkB_oc.callOk
end Go.Proofs.Ytnhiplibodkciaa
