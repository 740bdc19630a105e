/- Contracts of functions. Printed by auto.py. -/
import Derived.Test.YtiblijkhpmemeaaHa
import Derived.Test.YtiblijkhpmemeaaAw2
namespace Go.Proofs.Ytiblijkhpmemeaa
set_option maxRecDepth 100000
open Go.PI Go
noncomputable def nanI_B : (Int × Unit) → Br (Bool × Unit) := fun (p0, ()) =>
 (.ret (p0 != p0, ()))
noncomputable def nanI : (Int × Unit) → Option (Bool × Unit) := fun x => (nanI_B x).run
abbrev nanI_ins : List (Bool × Pat) := [(false, .ty false (.int .i64))]
abbrev nanI_outs : List Pat := [.ty false .bool]
noncomputable abbrev nanI_f : Func := Try.f16
noncomputable abbrev nanI_P : Program := Try.prog
noncomputable def nanI_c : Ctx := { cx_awake20 with base := 1024 }
theorem nanI_env : EnvFull nanI_P nanI_c := env_base (en_awake20) 1024
noncomputable def nanI_p : Par := { sh := fun _ => none, k := 0, lo := fun _ => none }
theorem nanI_eq (p0 : Int) : ocRun nanI_c nanI_p nanI_f nanI_ins nanI_outs (p0, ()) = nanI_B (p0, ()) := by kernel_rfl
theorem nanI_oc : OC nanI_P 16 nanI_ins nanI_outs nanI := OC.of_tree nanI_env Try.func16 (by kernel_rfl) (by kernel_rfl) (p := nanI_p) (fun g hg => LoOk.of (l := []) (by kernel_rfl) .nil) (fun (p0, ()) => nanI_eq p0)
noncomputable def cx_nanI : Ctx := addO cx_awake20 16 (ocOrc nanI_ins nanI_outs nanI)
theorem en_nanI : EnvFull Try.prog cx_nanI := env_add (en_awake20) nanI_oc.callOk
noncomputable def nanL_B : (Int × Unit) → Br (Bool × Unit) := fun (p0, ()) =>
 (.ret (p0 != p0, ()))
noncomputable def nanL : (Int × Unit) → Option (Bool × Unit) := fun x => (nanL_B x).run
abbrev nanL_ins : List (Bool × Pat) := [(false, .ty false (.int .i64))]
abbrev nanL_outs : List Pat := [.ty false .bool]
noncomputable abbrev nanL_f : Func := Try.f17
noncomputable abbrev nanL_P : Program := Try.prog
noncomputable def nanL_c : Ctx := { cx_nanI with base := 1024 }
theorem nanL_env : EnvFull nanL_P nanL_c := env_base (en_nanI) 1024
noncomputable def nanL_p : Par := { sh := fun _ => none, k := 0, lo := fun _ => none }
theorem nanL_eq (p0 : Int) : ocRun nanL_c nanL_p nanL_f nanL_ins nanL_outs (p0, ()) = nanL_B (p0, ()) := by kernel_rfl
theorem nanL_oc : OC nanL_P 17 nanL_ins nanL_outs nanL := OC.of_tree nanL_env Try.func17 (by kernel_rfl) (by kernel_rfl) (p := nanL_p) (fun g hg => LoOk.of (l := []) (by kernel_rfl) .nil) (fun (p0, ()) => nanL_eq p0)
noncomputable def cx_nanL : Ctx := addO cx_nanI 17 (ocOrc nanL_ins nanL_outs nanL)
theorem en_nanL : EnvFull Try.prog cx_nanL := env_add (en_nanI) nanL_oc.callOk
noncomputable def cmpI_B : (Int × (Int × Unit)) → Br (Int × Unit) := fun (p0, p1, ()) =>
 (.opt (nanI (p0, ())) fun y4 =>
 (.opt (nanI (p1, ())) fun y5 =>
 (.cond y4.1
 (.cond y5.1
 (.ret (0, ()))
 (.ret (-1, ())))
 (.cond y5.1
 (.ret (1, ()))
 (.cond (decide (p0 < p1))
 (.ret (-1, ()))
 (.cond (decide (p0 > p1))
 (.ret (1, ()))
 (.ret (0, ()))))))))
noncomputable def cmpI : (Int × (Int × Unit)) → Option (Int × Unit) := fun x => (cmpI_B x).run
abbrev cmpI_ins : List (Bool × Pat) := [(false, .ty false (.int .i64)), (false, .ty false (.int .i64))]
abbrev cmpI_outs : List Pat := [.ty false (.int .i64)]
noncomputable abbrev cmpI_f : Func := Try.f11
noncomputable abbrev cmpI_P : Program := Try.prog
noncomputable def cmpI_c : Ctx := { cx_nanL with base := 1024 }
theorem cmpI_env : EnvFull cmpI_P cmpI_c := env_base (en_nanL) 1024
noncomputable def cmpI_p : Par := { sh := fun _ => none, k := 0, lo := fun _ => none }
theorem cmpI_eq (p0 : Int) (p1 : Int) : ocRun cmpI_c cmpI_p cmpI_f cmpI_ins cmpI_outs (p0, p1, ()) = cmpI_B (p0, p1, ()) := by kernel_rfl
theorem cmpI_oc : OC cmpI_P 11 cmpI_ins cmpI_outs cmpI := OC.of_tree cmpI_env Try.func11 (by kernel_rfl) (by kernel_rfl) (p := cmpI_p) (fun g hg => LoOk.of (l := []) (by kernel_rfl) .nil) (fun (p0, p1, ()) => cmpI_eq p0 p1)
noncomputable def cx_cmpI : Ctx := addO cx_nanL 11 (ocOrc cmpI_ins cmpI_outs cmpI)
theorem en_cmpI : EnvFull Try.prog cx_cmpI := env_add (en_nanL) cmpI_oc.callOk
noncomputable def cmpL_B : (Int × (Int × Unit)) → Br (Int × Unit) := fun (p0, p1, ()) =>
 (.opt (nanL (p0, ())) fun y4 =>
 (.opt (nanL (p1, ())) fun y5 =>
 (.cond y4.1
 (.cond y5.1
 (.ret (0, ()))
 (.ret (-1, ())))
 (.cond y5.1
 (.ret (1, ()))
 (.cond (decide (p0 < p1))
 (.ret (-1, ()))
 (.cond (decide (p0 > p1))
 (.ret (1, ()))
 (.ret (0, ()))))))))
noncomputable def cmpL : (Int × (Int × Unit)) → Option (Int × Unit) := fun x => (cmpL_B x).run
abbrev cmpL_ins : List (Bool × Pat) := [(false, .ty false (.int .i64)), (false, .ty false (.int .i64))]
abbrev cmpL_outs : List Pat := [.ty false (.int .i64)]
noncomputable abbrev cmpL_f : Func := Try.f12
noncomputable abbrev cmpL_P : Program := Try.prog
noncomputable def cmpL_c : Ctx := { cx_cmpI with base := 1024 }
theorem cmpL_env : EnvFull cmpL_P cmpL_c := env_base (en_cmpI) 1024
noncomputable def cmpL_p : Par := { sh := fun _ => none, k := 0, lo := fun _ => none }
theorem cmpL_eq (p0 : Int) (p1 : Int) : ocRun cmpL_c cmpL_p cmpL_f cmpL_ins cmpL_outs (p0, p1, ()) = cmpL_B (p0, p1, ()) := by kernel_rfl
theorem cmpL_oc : OC cmpL_P 12 cmpL_ins cmpL_outs cmpL := OC.of_tree cmpL_env Try.func12 (by kernel_rfl) (by kernel_rfl) (p := cmpL_p) (fun g hg => LoOk.of (l := []) (by kernel_rfl) .nil) (fun (p0, p1, ()) => cmpL_eq p0 p1)
noncomputable def cx_cmpL : Ctx := addO cx_cmpI 12 (ocOrc cmpL_ins cmpL_outs cmpL)
theorem en_cmpL : EnvFull Try.prog cx_cmpL := env_add (en_cmpI) cmpL_oc.callOk
noncomputable def cmpPr_B : ((Int × Int) × ((Int × Int) × Unit)) → Br (Int × Unit) := fun (p0, p1, ()) =>
 (.opt (cmpI (p0.1, p1.1, ())) fun y4 =>
 (.cond (y4.1 != 0)
 (.ret (y4.1, ()))
 (.opt (cmpL (p0.2, p1.2, ())) fun y5 =>
 (.ret (y5.1, ())))))
noncomputable def cmpPr : ((Int × Int) × ((Int × Int) × Unit)) → Option (Int × Unit) := fun x => (cmpPr_B x).run
abbrev cmpPr_ins : List (Bool × Pat) := [(false, .ty false zA16), (false, .ty false zA16)]
abbrev cmpPr_outs : List Pat := [.ty false (.int .i64)]
noncomputable abbrev cmpPr_f : Func := Try.f10
noncomputable abbrev cmpPr_P : Program := Try.prog
noncomputable def cmpPr_c : Ctx := { cx_cmpL with base := 1024 }
theorem cmpPr_env : EnvFull cmpPr_P cmpPr_c := env_base (en_cmpL) 1024
noncomputable def cmpPr_p : Par := { sh := fun _ => none, k := 0, lo := fun _ => none }
theorem cmpPr_eq (p0 : (Int × Int)) (p1 : (Int × Int)) : ocRun cmpPr_c cmpPr_p cmpPr_f cmpPr_ins cmpPr_outs (p0, p1, ()) = cmpPr_B (p0, p1, ()) := by kernel_rfl
theorem cmpPr_oc : OC cmpPr_P 10 cmpPr_ins cmpPr_outs cmpPr := OC.of_tree cmpPr_env Try.func10 (by kernel_rfl) (by kernel_rfl) (p := cmpPr_p) (fun g hg => LoOk.of (l := []) (by kernel_rfl) .nil) (fun (p0, p1, ()) => cmpPr_eq p0 p1)
noncomputable def cx_cmpPr : Ctx := addO cx_cmpL 10 (ocOrc cmpPr_ins cmpPr_outs cmpPr)
theorem en_cmpPr : EnvFull Try.prog cx_cmpPr := env_add (en_cmpL) cmpPr_oc.callOk
noncomputable def cmpFn_l0 : ((List (Int × Int)) × ((List (Int × Int)) × ((List (Int × Int)) × (Int × (Int × Unit))))) → Br (((List (Int × Int)) × ((List (Int × Int)) × ((List (Int × Int)) × (Int × (Int × Unit))))) ⊕ ((Int × Unit) ⊕ ((List (Int × Int)) × zA31))) := fun (a, b, c, d, e, ()) =>
 (.cond (decide (e < d))
 (.cond (decide (0 ≤ e) && decide (e < (↑(List.length c) : Int)))
 (.cond (decide (e ≥ (↑(List.length b) : Int)))
 (.ret (.inr (.inl (1, ()))))
 (.cond (decide (0 ≤ e) && decide (e < (↑(List.length b) : Int)))
 (.opt (cmpPr (List.getD c (Int.toNat e) (0, 0), List.getD b (Int.toNat e) (0, 0), ())) fun f =>
 (.cond (f.1 != 0)
 (.ret (.inr (.inl (f.1, ()))))
 (.ret (.inl (a, b, c, d, IntKind.wrap .i64 (e + 1), ())))))
 (.no)))
 (.no))
 (.ret (.inr (.inr (a, b, ())))))
noncomputable def cmpFn_w0 : ((List (Int × Int)) × ((List (Int × Int)) × ((List (Int × Int)) × (Int × (Int × Unit))))) → Option ((Int × Unit) ⊕ ((List (Int × Int)) × zA31)) := iterO fun x => (cmpFn_l0 x).run
noncomputable def cmpFn_B : ((List (Int × Int)) × ((List (Int × Int)) × (Unit × Unit))) → Br (Int × Unit) := fun (p0, p1, p2, ()) =>
 (.opt (cmpFn_w0 (p0, p1, p0, (↑(List.length p0) : Int), 0, ())) fun a =>
 (.sum a (fun b =>
 (.ret (b.1, ()))) (fun c =>
 (.cond (decide ((↑(List.length c.1) : Int) < (↑(List.length c.2.1) : Int)))
 (.ret (-1, ()))
 (.ret (0, ()))))))
noncomputable def cmpFn : ((List (Int × Int)) × ((List (Int × Int)) × (Unit × Unit))) → Option (Int × Unit) := fun x => (cmpFn_B x).run
abbrev cmpFn_ins : List (Bool × Pat) := [(false, .ty true (.sl zA16)), (false, .ty true (.sl zA16)), (false, .fn 10 .nil)]
abbrev cmpFn_outs : List Pat := [.ty false (.int .i64)]
noncomputable abbrev cmpFn_f : Func := Try.f9
noncomputable abbrev cmpFn_P : Program := Try.prog
abbrev cmpFn_kp : List Nat := kpOf cmpFn_ins
abbrev cmpFn_kf : List Nat := kfOf cmpFn_ins
noncomputable def cmpFn_c : Ctx := { cx_cmpPr with base := 1024 }
theorem cmpFn_env : EnvFull cmpFn_P cmpFn_c := env_base (en_cmpPr) 1024
abbrev cmpFn_H0 : List Hole := [.slot 0 true (.sl zA16), .slot 1 true (.sl zA16), .slot 11 true (.sl zA16), .slot 12 false (.int .i64), .slot 13 false (.int .i64)]
def cmpFn_S0 : Skel := ⟨39, [(2, D.fn 10 [])], []⟩
abbrev cmpFn_H0e0 : List Hole := [.slot 6 false (.int .i64)]
def cmpFn_S0e0 : Skel := ⟨39, [], []⟩
abbrev cmpFn_H0e1 : List Hole := [.slot 0 true (.sl zA16), .slot 1 true (.sl zA16)]
def cmpFn_S0e1 : Skel := ⟨39, [], []⟩
def cmpFn_h0 : Exit → Shape
 | .normal => ⟨[(0, .as true (.sl zA16)), (1, .as true (.sl zA16)), (2, .keep), (11, .as true (.sl zA16)), (12, .as false (.int .i64)), (13, .as false (.int .i64))], [], []⟩
 | .ret => ⟨[(6, .as false (.int .i64))], [], []⟩
 | .exit 0 => ⟨[(0, .as true (.sl zA16)), (1, .as true (.sl zA16))], [], []⟩
 | _ => ⟨[], [], []⟩
def cmpFn_e0 : ((Int × Unit) ⊕ ((List (Int × Int)) × zA31)) → Exit × St
 | (.inl u) => (.ret, cmpFn_S0e0.fillK cmpFn_kf cmpFn_H0e0 u)
 | (.inr u) => (.exit 0, cmpFn_S0e1.fillK cmpFn_kf cmpFn_H0e1 u)
def cmpFn_t0 : ((Int × Unit) ⊕ ((List (Int × Int)) × zA31)) → Br (Exit × St) := fun z => .sum z (fun u => .ret (.ret, cmpFn_S0e0.fillK cmpFn_kf cmpFn_H0e0 u)) (fun u => .ret (.exit 0, cmpFn_S0e1.fillK cmpFn_kf cmpFn_H0e1 u))
noncomputable def cmpFn_C0 : Code := loopAt 0 (bodyOf cmpFn_f)
noncomputable def cmpFn_o0 : St → Br (Exit × St) := loopF cmpFn_kp cmpFn_kf 1024 (cmpFn_h0 .normal) (cmpFn_S0.parseK cmpFn_kf cmpFn_H0) fun x => .opt (cmpFn_w0 x) cmpFn_t0
noncomputable def cmpFn_p : Par := { sh := fun _ => none, k := 0, lo := fun i => bif Nat.beq i 2 then some cmpFn_o0 else none }
theorem cmpFn_r0 (a : (List (Int × Int))) (b : (List (Int × Int))) (c : (List (Int × Int))) (d : Int) (e : Int) : roundF cmpFn_kp cmpFn_kf cmpFn_c cmpFn_p cmpFn_h0 cmpFn_C0 (cmpFn_S0.fillK cmpFn_kf cmpFn_H0 (a, b, c, d, e, ())) = (cmpFn_l0 (a, b, c, d, e, ())).bind (loopLeaf (fun x => cmpFn_S0.fillK cmpFn_kf cmpFn_H0 x) cmpFn_e0) := by kernel_rfl
theorem cmpFn_ok0 (g : Cfg) (hg : ∀ n, Go.PI.look n g.m0 ≠ Option.none → n ∈ cmpFn_kp) : LoopOk cmpFn_P g cmpFn_o0 cmpFn_C0 := LoopOk.auto cmpFn_env hg cmpFn_p (LoOk.of (l := []) (by kernel_rfl) .nil) cmpFn_h0 (fun x => cmpFn_S0.fillK cmpFn_kf cmpFn_H0 x) (fun s x h => Skel.parseK_ok s x h) cmpFn_l0 cmpFn_e0 (fun z h => by rcases z with z | z <;> cases h) cmpFn_t0 (fun z => by rcases z with z | z <;> rfl) (fun (a, b, c, d, e, ()) => cmpFn_r0 a b c d e)
theorem cmpFn_eq (p0 : (List (Int × Int))) (p1 : (List (Int × Int))) (p2 : Unit) : ocRun cmpFn_c cmpFn_p cmpFn_f cmpFn_ins cmpFn_outs (p0, p1, p2, ()) = cmpFn_B (p0, p1, p2, ()) := by kernel_rfl
theorem cmpFn_oc : OC cmpFn_P 9 cmpFn_ins cmpFn_outs cmpFn := OC.of_tree cmpFn_env Try.func9 (by kernel_rfl) (by kernel_rfl) (p := cmpFn_p) (fun g hg => LoOk.of (l := [cmpFn_C0]) (by kernel_rfl) (.cons (cmpFn_ok0 g hg) (by kernel_rfl) .nil)) (fun (p0, p1, p2, ()) => cmpFn_eq p0 p1 p2)
noncomputable def cx_cmpFn : Ctx := addO cx_cmpPr 9 (ocOrc cmpFn_ins cmpFn_outs cmpFn)
theorem en_cmpFn : EnvFull Try.prog cx_cmpFn := env_add (en_cmpPr) cmpFn_oc.callOk
noncomputable def cmpPs_B : ((List (Int × Int)) × zA31) → Br (Int × Unit) := fun (p0, p1, ()) =>
 (.opt (cmpFn (p0, p1, (), ())) fun y3 =>
 (.ret (y3.1, ())))
noncomputable def cmpPs : ((List (Int × Int)) × zA31) → Option (Int × Unit) := fun x => (cmpPs_B x).run
abbrev cmpPs_ins : List (Bool × Pat) := [(false, .ty true (.sl zA16)), (false, .ty true (.sl zA16))]
abbrev cmpPs_outs : List Pat := [.ty false (.int .i64)]
noncomputable abbrev cmpPs_f : Func := Try.f4
noncomputable abbrev cmpPs_P : Program := Try.prog
noncomputable def cmpPs_c : Ctx := { cx_cmpFn with base := 1024 }
theorem cmpPs_env : EnvFull cmpPs_P cmpPs_c := env_base (en_cmpFn) 1024
noncomputable def cmpPs_p : Par := { sh := fun _ => none, k := 0, lo := fun _ => none }
theorem cmpPs_eq (p0 : (List (Int × Int))) (p1 : (List (Int × Int))) : ocRun cmpPs_c cmpPs_p cmpPs_f cmpPs_ins cmpPs_outs (p0, p1, ()) = cmpPs_B (p0, p1, ()) := by kernel_rfl
theorem cmpPs_oc : OC cmpPs_P 4 cmpPs_ins cmpPs_outs cmpPs := OC.of_tree cmpPs_env Try.func4 (by kernel_rfl) (by kernel_rfl) (p := cmpPs_p) (fun g hg => LoOk.of (l := []) (by kernel_rfl) .nil) (fun (p0, p1, ()) => cmpPs_eq p0 p1)
noncomputable def cx_cmpPs : Ctx := addO cx_cmpFn 4 (ocOrc cmpPs_ins cmpPs_outs cmpPs)
theorem en_cmpPs : EnvFull Try.prog cx_cmpPs := env_add (en_cmpFn) cmpPs_oc.callOk
noncomputable def endsT_l0 : (Int × (zA23 × (Int × (Int × (zA23 × Unit))))) → Br ((Int × (zA23 × (Int × (Int × (zA23 × Unit))))) ⊕ (zA23 × Unit)) := fun (a, b, c, d, e, ()) =>
 (.cond (decide (d < c))
 (.cond (decide (0 ≤ d) && decide (d < (↑(List.length b) : Int)))
 (.cond (decide ((↑(List.length (List.getD b (Int.toNat d) [])) : Int) > 0))
 (.cond (decide (0 ≤ IntKind.wrap .i64 ((↑(List.length (List.getD b (Int.toNat d) [])) : Int) - 1)) && decide (IntKind.wrap .i64 ((↑(List.length (List.getD b (Int.toNat d) [])) : Int) - 1) < (↑(List.length (List.getD b (Int.toNat d) [])) : Int)))
 (.cond ((List.getD (List.getD b (Int.toNat d) []) (Int.toNat (IntKind.wrap .i64 ((↑(List.length (List.getD b (Int.toNat d) [])) : Int) - 1))) (0, 0)).2 == a)
 (.cond (decide ((List.length e + List.length (List.set (List.replicate 1 []) 0 (List.getD b (Int.toNat d) []))) * 24 ≤ 140737488355328))
 (.ret (.inl (a, b, c, IntKind.wrap .i64 (d + 1), e ++ List.set (List.replicate 1 []) 0 (List.getD b (Int.toNat d) []), ())))
 (.no))
 (.ret (.inl (a, b, c, IntKind.wrap .i64 (d + 1), e, ()))))
 (.no))
 (.ret (.inl (a, b, c, IntKind.wrap .i64 (d + 1), e, ()))))
 (.no))
 (.ret (.inr (e, ()))))
noncomputable def endsT_w0 : (Int × (zA23 × (Int × (Int × (zA23 × Unit))))) → Option (zA23 × Unit) := iterO fun x => (endsT_l0 x).run
noncomputable def endsT_B : (zA23 × (Int × Unit)) → Br (zA23 × Unit) := fun (p0, p1, ()) =>
 (.opt (endsT_w0 (p1, p0, (↑(List.length p0) : Int), 0, [], ())) fun a =>
 (.ret (a.1, ())))
noncomputable def endsT : (zA23 × (Int × Unit)) → Option (zA23 × Unit) := fun x => (endsT_B x).run
abbrev endsT_ins : List (Bool × Pat) := [(false, .ty false (.sl (.sl zA16))), (false, .ty false (.int .i64))]
abbrev endsT_outs : List Pat := [.ty false (.sl (.sl zA16))]
noncomputable abbrev endsT_f : Func := Try.f8
noncomputable abbrev endsT_P : Program := Try.prog
abbrev endsT_kp : List Nat := kpOf endsT_ins
abbrev endsT_kf : List Nat := kfOf endsT_ins
noncomputable def endsT_c : Ctx := { cx_cmpPs with base := 1024 }
theorem endsT_env : EnvFull endsT_P endsT_c := env_base (en_cmpPs) 1024
abbrev endsT_H0 : List Hole := [.slot 1 false (.int .i64), .slot 8 false (.sl (.sl zA16)), .slot 9 false (.int .i64), .slot 10 false (.int .i64), .ar 1724 false 22 (.sl zA16)]
def endsT_S0 : Skel := ⟨34, [(5, .c (.mfull 1724))], [(1724, [])]⟩
abbrev endsT_H0e0 : List Hole := [.ar 1725 false 22 (.sl zA16)]
def endsT_S0e0 : Skel := ⟨34, [(5, .c (.mfull 1725))], [(1725, [])]⟩
def endsT_h0 : Exit → Shape
 | .normal => ⟨[(1, .as false (.int .i64)), (5, .row 700 false 22 (.sl zA16)), (8, .as false (.sl (.sl zA16))), (9, .as false (.int .i64)), (10, .as false (.int .i64))], [], [(700, false)]⟩
 | .exit 0 => ⟨[(5, .row 701 false 22 (.sl zA16))], [], [(701, false)]⟩
 | _ => ⟨[], [], []⟩
def endsT_e0 : (zA23 × Unit) → Exit × St
 | u => (.exit 0, endsT_S0e0.fillK endsT_kf endsT_H0e0 u)
def endsT_t0 : (zA23 × Unit) → Br (Exit × St) := fun u => .ret (.exit 0, endsT_S0e0.fillK endsT_kf endsT_H0e0 u)
noncomputable def endsT_C0 : Code := loopAt 0 (bodyOf endsT_f)
noncomputable def endsT_o0 : St → Br (Exit × St) := loopF endsT_kp endsT_kf 1024 (endsT_h0 .normal) (endsT_S0.parseK endsT_kf endsT_H0) fun x => .opt (endsT_w0 x) endsT_t0
noncomputable def endsT_p : Par := { sh := fun _ => none, k := 0, lo := fun i => bif Nat.beq i 3 then some endsT_o0 else none }
theorem endsT_r0 (a : Int) (b : zA23) (c : Int) (d : Int) (e : zA23) : roundF endsT_kp endsT_kf endsT_c endsT_p endsT_h0 endsT_C0 (endsT_S0.fillK endsT_kf endsT_H0 (a, b, c, d, e, ())) = (endsT_l0 (a, b, c, d, e, ())).bind (loopLeaf (fun x => endsT_S0.fillK endsT_kf endsT_H0 x) endsT_e0) := by kernel_rfl
theorem endsT_ok0 (g : Cfg) (hg : ∀ n, Go.PI.look n g.m0 ≠ Option.none → n ∈ endsT_kp) : LoopOk endsT_P g endsT_o0 endsT_C0 := LoopOk.auto endsT_env hg endsT_p (LoOk.of (l := []) (by kernel_rfl) .nil) endsT_h0 (fun x => endsT_S0.fillK endsT_kf endsT_H0 x) (fun s x h => Skel.parseK_ok s x h) endsT_l0 endsT_e0 (fun _ h => by cases h) endsT_t0 (fun _ => rfl) (fun (a, b, c, d, e, ()) => endsT_r0 a b c d e)
theorem endsT_eq (p0 : zA23) (p1 : Int) : ocRun endsT_c endsT_p endsT_f endsT_ins endsT_outs (p0, p1, ()) = endsT_B (p0, p1, ()) := by kernel_rfl
theorem endsT_oc : OC endsT_P 8 endsT_ins endsT_outs endsT := OC.of_tree endsT_env Try.func8 (by kernel_rfl) (by kernel_rfl) (p := endsT_p) (fun g hg => LoOk.of (l := [endsT_C0]) (by kernel_rfl) (.cons (endsT_ok0 g hg) (by kernel_rfl) .nil)) (fun (p0, p1, ()) => endsT_eq p0 p1)
noncomputable def cx_endsT : Ctx := addO cx_cmpPs 8 (ocOrc endsT_ins endsT_outs endsT)
theorem en_endsT : EnvFull Try.prog cx_endsT := env_add (en_cmpPs) endsT_oc.callOk
noncomputable def truthOrder_l0 : (Int × ((List (Int × Int)) × ((List (Int × Int)) × (Int × (Int × (Bool × (Int × (Int × (zA23 × Unit))))))))) → Br ((Int × ((List (Int × Int)) × ((List (Int × Int)) × (Int × (Int × (Bool × (Int × (Int × (zA23 × Unit))))))))) ⊕ (Int × ((List (Int × Int)) × ((List (Int × Int)) × (Int × (Int × (Bool × (Int × (zA23 × Unit))))))))) := fun (a, b, c, d, e, f, g, h, i, ()) =>
 (.cond (decide (h < 3))
 (.cond (decide (0 ≤ h) && decide (h < (↑(List.length i) : Int)))
 (.cond (decide ((↑(List.length (List.getD i (Int.toNat h) [])) : Int) > 0))
 (.cond (decide (0 ≤ h) && decide (h < (↑(List.length i) : Int)))
 (.cond (decide (0 ≤ h) && decide (h < (↑(List.length i) : Int)))
 (.cond (decide (0 ≤ IntKind.wrap .i64 ((↑(List.length (List.getD i (Int.toNat h) [])) : Int) - 1)) && decide (IntKind.wrap .i64 ((↑(List.length (List.getD i (Int.toNat h) [])) : Int) - 1) < (↑(List.length (List.getD i (Int.toNat h) [])) : Int)))
 (.cond ((List.getD (List.getD i (Int.toNat h) []) (Int.toNat (IntKind.wrap .i64 ((↑(List.length (List.getD i (Int.toNat h) [])) : Int) - 1))) (0, 0)).2 == a)
 (.ret (.inl (a, b, c, d, e, f, IntKind.wrap .i64 (g + 1), IntKind.wrap .i64 (h + 1), i, ())))
 (.ret (.inl (a, b, c, d, e, f, g, IntKind.wrap .i64 (h + 1), i, ()))))
 (.no))
 (.no))
 (.no))
 (.ret (.inl (a, b, c, d, e, f, g, IntKind.wrap .i64 (h + 1), i, ()))))
 (.no))
 (.ret (.inr (a, b, c, d, e, f, g, i, ()))))
noncomputable def truthOrder_w0 : (Int × ((List (Int × Int)) × ((List (Int × Int)) × (Int × (Int × (Bool × (Int × (Int × (zA23 × Unit))))))))) → Option (Int × ((List (Int × Int)) × ((List (Int × Int)) × (Int × (Int × (Bool × (Int × (zA23 × Unit)))))))) := iterO fun x => (truthOrder_l0 x).run
noncomputable def truthOrder_B : ((List (Int × Int)) × ((List (Int × Int)) × (Int × Unit))) → Br (Bool × Unit) := fun (p0, p1, p2, ()) =>
 (.cond (decide (0 ≤ 0) && decide (0 ≤ if 6 < (↑(List.length p0) : Int) then 6 else (↑(List.length p0) : Int)) && decide ((if 6 < (↑(List.length p0) : Int) then 6 else (↑(List.length p0) : Int)) ≤ (↑(List.length p0) : Int)))
 (.cond (decide (0 ≤ 0) && decide (0 ≤ if 6 < (↑(List.length p1) : Int) then 6 else (↑(List.length p1) : Int)) && decide ((if 6 < (↑(List.length p1) : Int) then 6 else (↑(List.length p1) : Int)) ≤ (↑(List.length p1) : Int)))
 (.cond (decide ((↑(List.length (List.drop (Int.toNat 0) (List.take (Int.toNat (if 6 < (↑(List.length p1) : Int) then 6 else (↑(List.length p1) : Int))) p1))) : Int) > 0))
 (.cond (decide ((↑(List.length (List.drop (Int.toNat 0) (List.take (Int.toNat (if 6 < (↑(List.length p0) : Int) then 6 else (↑(List.length p0) : Int))) p0))) : Int) > 1))
 (.cond (IntKind.wrap .i64 (↑(BitVec.toNat (BitVec.ofInt (IntKind.bits .i64) p2 &&& BitVec.ofInt (IntKind.bits .i64) 1)) : Int) == 0)
 (.cond (decide (0 ≤ 0) && decide (0 ≤ IntKind.wrap .i64 ((↑(List.length (List.drop (Int.toNat 0) (List.take (Int.toNat (if 6 < (↑(List.length p0) : Int) then 6 else (↑(List.length p0) : Int))) p0))) : Int) - 1)) && decide (IntKind.wrap .i64 ((↑(List.length (List.drop (Int.toNat 0) (List.take (Int.toNat (if 6 < (↑(List.length p0) : Int) then 6 else (↑(List.length p0) : Int))) p0))) : Int) - 1) ≤ (↑(List.length (List.drop (Int.toNat 0) (List.take (Int.toNat (if 6 < (↑(List.length p0) : Int) then 6 else (↑(List.length p0) : Int))) p0))) : Int)))
 (.cond (decide ((List.length (List.replicate 0 (0, 0)) + List.length (List.drop (Int.toNat 0) (List.take (Int.toNat (IntKind.wrap .i64 ((↑(List.length (List.drop (Int.toNat 0) (List.take (Int.toNat (if 6 < (↑(List.length p0) : Int) then 6 else (↑(List.length p0) : Int))) p0))) : Int) - 1))) (List.drop (Int.toNat 0) (List.take (Int.toNat (if 6 < (↑(List.length p0) : Int) then 6 else (↑(List.length p0) : Int))) p0))))) * 16 ≤ 140737488355328))
 (.cond (decide (0 ≤ 0) && decide (0 < (↑(List.length (List.drop (Int.toNat 0) (List.take (Int.toNat (if 6 < (↑(List.length p1) : Int) then 6 else (↑(List.length p1) : Int))) p1))) : Int)))
 (.cond (decide ((List.length (List.replicate 0 (0, 0) ++ List.drop (Int.toNat 0) (List.take (Int.toNat (IntKind.wrap .i64 ((↑(List.length (List.drop (Int.toNat 0) (List.take (Int.toNat (if 6 < (↑(List.length p0) : Int) then 6 else (↑(List.length p0) : Int))) p0))) : Int) - 1))) (List.drop (Int.toNat 0) (List.take (Int.toNat (if 6 < (↑(List.length p0) : Int) then 6 else (↑(List.length p0) : Int))) p0)))) + List.length (List.set (List.replicate 1 (0, 0)) 0 (List.getD (List.drop (Int.toNat 0) (List.take (Int.toNat (if 6 < (↑(List.length p1) : Int) then 6 else (↑(List.length p1) : Int))) p1)) (Int.toNat 0) (0, 0)))) * 16 ≤ 140737488355328))
 (.opt (cmpPs (List.drop (Int.toNat 0) (List.take (Int.toNat (if 6 < (↑(List.length p0) : Int) then 6 else (↑(List.length p0) : Int))) p0), List.replicate 0 (0, 0) ++ List.drop (Int.toNat 0) (List.take (Int.toNat (IntKind.wrap .i64 ((↑(List.length (List.drop (Int.toNat 0) (List.take (Int.toNat (if 6 < (↑(List.length p0) : Int) then 6 else (↑(List.length p0) : Int))) p0))) : Int) - 1))) (List.drop (Int.toNat 0) (List.take (Int.toNat (if 6 < (↑(List.length p0) : Int) then 6 else (↑(List.length p0) : Int))) p0))) ++ List.set (List.replicate 1 (0, 0)) 0 (List.getD (List.drop (Int.toNat 0) (List.take (Int.toNat (if 6 < (↑(List.length p1) : Int) then 6 else (↑(List.length p1) : Int))) p1)) (Int.toNat 0) (0, 0)), ())) fun a =>
 (.opt (cmpPs (List.replicate 0 (0, 0) ++ List.drop (Int.toNat 0) (List.take (Int.toNat (IntKind.wrap .i64 ((↑(List.length (List.drop (Int.toNat 0) (List.take (Int.toNat (if 6 < (↑(List.length p0) : Int) then 6 else (↑(List.length p0) : Int))) p0))) : Int) - 1))) (List.drop (Int.toNat 0) (List.take (Int.toNat (if 6 < (↑(List.length p0) : Int) then 6 else (↑(List.length p0) : Int))) p0))) ++ List.set (List.replicate 1 (0, 0)) 0 (List.getD (List.drop (Int.toNat 0) (List.take (Int.toNat (if 6 < (↑(List.length p1) : Int) then 6 else (↑(List.length p1) : Int))) p1)) (Int.toNat 0) (0, 0)), List.drop (Int.toNat 0) (List.take (Int.toNat (if 6 < (↑(List.length p0) : Int) then 6 else (↑(List.length p0) : Int))) p0), ())) fun b =>
 (.opt (samePs (List.drop (Int.toNat 0) (List.take (Int.toNat (if 6 < (↑(List.length p0) : Int) then 6 else (↑(List.length p0) : Int))) p0), List.replicate 0 (0, 0) ++ List.drop (Int.toNat 0) (List.take (Int.toNat (IntKind.wrap .i64 ((↑(List.length (List.drop (Int.toNat 0) (List.take (Int.toNat (if 6 < (↑(List.length p0) : Int) then 6 else (↑(List.length p0) : Int))) p0))) : Int) - 1))) (List.drop (Int.toNat 0) (List.take (Int.toNat (if 6 < (↑(List.length p0) : Int) then 6 else (↑(List.length p0) : Int))) p0))) ++ List.set (List.replicate 1 (0, 0)) 0 (List.getD (List.drop (Int.toNat 0) (List.take (Int.toNat (if 6 < (↑(List.length p1) : Int) then 6 else (↑(List.length p1) : Int))) p1)) (Int.toNat 0) (0, 0)), ())) fun c =>
 (.opt (truthOrder_w0 (p2, List.drop (Int.toNat 0) (List.take (Int.toNat (if 6 < (↑(List.length p0) : Int) then 6 else (↑(List.length p0) : Int))) p0), List.replicate 0 (0, 0) ++ List.drop (Int.toNat 0) (List.take (Int.toNat (IntKind.wrap .i64 ((↑(List.length (List.drop (Int.toNat 0) (List.take (Int.toNat (if 6 < (↑(List.length p0) : Int) then 6 else (↑(List.length p0) : Int))) p0))) : Int) - 1))) (List.drop (Int.toNat 0) (List.take (Int.toNat (if 6 < (↑(List.length p0) : Int) then 6 else (↑(List.length p0) : Int))) p0))) ++ List.set (List.replicate 1 (0, 0)) 0 (List.getD (List.drop (Int.toNat 0) (List.take (Int.toNat (if 6 < (↑(List.length p1) : Int) then 6 else (↑(List.length p1) : Int))) p1)) (Int.toNat 0) (0, 0)), a.1, b.1, c.1, 0, 0, [List.drop (Int.toNat 0) (List.take (Int.toNat (if 6 < (↑(List.length p0) : Int) then 6 else (↑(List.length p0) : Int))) p0), List.replicate 0 (0, 0) ++ List.drop (Int.toNat 0) (List.take (Int.toNat (IntKind.wrap .i64 ((↑(List.length (List.drop (Int.toNat 0) (List.take (Int.toNat (if 6 < (↑(List.length p0) : Int) then 6 else (↑(List.length p0) : Int))) p0))) : Int) - 1))) (List.drop (Int.toNat 0) (List.take (Int.toNat (if 6 < (↑(List.length p0) : Int) then 6 else (↑(List.length p0) : Int))) p0))) ++ List.set (List.replicate 1 (0, 0)) 0 (List.getD (List.drop (Int.toNat 0) (List.take (Int.toNat (if 6 < (↑(List.length p1) : Int) then 6 else (↑(List.length p1) : Int))) p1)) (Int.toNat 0) (0, 0)), []], ())) fun d =>
 (.opt (awake20 ()) fun e =>
 (.cond e.1
 (.cond ((d.2.2.2.1 == 0) == d.2.2.2.2.2.1)
 (.opt (lessP (d.2.1, d.2.2.1, ())) fun f =>
 (.cond (decide (d.2.2.2.1 < 0) == f.1)
 (.opt (lessP (d.2.2.1, d.2.1, ())) fun g =>
 (.cond (decide (d.2.2.2.2.1 < 0) == g.1)
 (.cond (decide (d.2.2.2.1 > 0) == decide (d.2.2.2.2.1 < 0))
 (.opt (endsT (d.2.2.2.2.2.2.2.1, d.1, ())) fun h =>
 (.ret ((↑(List.length h.1) : Int) == d.2.2.2.2.2.2.1, ())))
 (.ret (false, ())))
 (.ret (false, ()))))
 (.ret (false, ()))))
 (.ret (false, ())))
 (.ret (false, ()))))))))
 (.no))
 (.no))
 (.no))
 (.no))
 (.opt (cmpPs (List.drop (Int.toNat 0) (List.take (Int.toNat (if 6 < (↑(List.length p0) : Int) then 6 else (↑(List.length p0) : Int))) p0), List.drop (Int.toNat 0) (List.take (Int.toNat (if 6 < (↑(List.length p1) : Int) then 6 else (↑(List.length p1) : Int))) p1), ())) fun i =>
 (.opt (cmpPs (List.drop (Int.toNat 0) (List.take (Int.toNat (if 6 < (↑(List.length p1) : Int) then 6 else (↑(List.length p1) : Int))) p1), List.drop (Int.toNat 0) (List.take (Int.toNat (if 6 < (↑(List.length p0) : Int) then 6 else (↑(List.length p0) : Int))) p0), ())) fun j =>
 (.opt (samePs (List.drop (Int.toNat 0) (List.take (Int.toNat (if 6 < (↑(List.length p0) : Int) then 6 else (↑(List.length p0) : Int))) p0), List.drop (Int.toNat 0) (List.take (Int.toNat (if 6 < (↑(List.length p1) : Int) then 6 else (↑(List.length p1) : Int))) p1), ())) fun k =>
 (.opt (truthOrder_w0 (p2, List.drop (Int.toNat 0) (List.take (Int.toNat (if 6 < (↑(List.length p0) : Int) then 6 else (↑(List.length p0) : Int))) p0), List.drop (Int.toNat 0) (List.take (Int.toNat (if 6 < (↑(List.length p1) : Int) then 6 else (↑(List.length p1) : Int))) p1), i.1, j.1, k.1, 0, 0, [List.drop (Int.toNat 0) (List.take (Int.toNat (if 6 < (↑(List.length p0) : Int) then 6 else (↑(List.length p0) : Int))) p0), List.drop (Int.toNat 0) (List.take (Int.toNat (if 6 < (↑(List.length p1) : Int) then 6 else (↑(List.length p1) : Int))) p1), []], ())) fun l =>
 (.opt (awake20 ()) fun m =>
 (.cond m.1
 (.cond ((l.2.2.2.1 == 0) == l.2.2.2.2.2.1)
 (.opt (lessP (l.2.1, l.2.2.1, ())) fun n =>
 (.cond (decide (l.2.2.2.1 < 0) == n.1)
 (.opt (lessP (l.2.2.1, l.2.1, ())) fun o =>
 (.cond (decide (l.2.2.2.2.1 < 0) == o.1)
 (.cond (decide (l.2.2.2.1 > 0) == decide (l.2.2.2.2.1 < 0))
 (.opt (endsT (l.2.2.2.2.2.2.2.1, l.1, ())) fun p =>
 (.ret ((↑(List.length p.1) : Int) == l.2.2.2.2.2.2.1, ())))
 (.ret (false, ())))
 (.ret (false, ()))))
 (.ret (false, ()))))
 (.ret (false, ())))
 (.ret (false, ())))))))))
 (.opt (cmpPs (List.drop (Int.toNat 0) (List.take (Int.toNat (if 6 < (↑(List.length p0) : Int) then 6 else (↑(List.length p0) : Int))) p0), List.drop (Int.toNat 0) (List.take (Int.toNat (if 6 < (↑(List.length p1) : Int) then 6 else (↑(List.length p1) : Int))) p1), ())) fun q =>
 (.opt (cmpPs (List.drop (Int.toNat 0) (List.take (Int.toNat (if 6 < (↑(List.length p1) : Int) then 6 else (↑(List.length p1) : Int))) p1), List.drop (Int.toNat 0) (List.take (Int.toNat (if 6 < (↑(List.length p0) : Int) then 6 else (↑(List.length p0) : Int))) p0), ())) fun r =>
 (.opt (samePs (List.drop (Int.toNat 0) (List.take (Int.toNat (if 6 < (↑(List.length p0) : Int) then 6 else (↑(List.length p0) : Int))) p0), List.drop (Int.toNat 0) (List.take (Int.toNat (if 6 < (↑(List.length p1) : Int) then 6 else (↑(List.length p1) : Int))) p1), ())) fun s =>
 (.opt (truthOrder_w0 (p2, List.drop (Int.toNat 0) (List.take (Int.toNat (if 6 < (↑(List.length p0) : Int) then 6 else (↑(List.length p0) : Int))) p0), List.drop (Int.toNat 0) (List.take (Int.toNat (if 6 < (↑(List.length p1) : Int) then 6 else (↑(List.length p1) : Int))) p1), q.1, r.1, s.1, 0, 0, [List.drop (Int.toNat 0) (List.take (Int.toNat (if 6 < (↑(List.length p0) : Int) then 6 else (↑(List.length p0) : Int))) p0), List.drop (Int.toNat 0) (List.take (Int.toNat (if 6 < (↑(List.length p1) : Int) then 6 else (↑(List.length p1) : Int))) p1), []], ())) fun t =>
 (.opt (awake20 ()) fun u =>
 (.cond u.1
 (.cond ((t.2.2.2.1 == 0) == t.2.2.2.2.2.1)
 (.opt (lessP (t.2.1, t.2.2.1, ())) fun v =>
 (.cond (decide (t.2.2.2.1 < 0) == v.1)
 (.opt (lessP (t.2.2.1, t.2.1, ())) fun w =>
 (.cond (decide (t.2.2.2.2.1 < 0) == w.1)
 (.cond (decide (t.2.2.2.1 > 0) == decide (t.2.2.2.2.1 < 0))
 (.opt (endsT (t.2.2.2.2.2.2.2.1, t.1, ())) fun x =>
 (.ret ((↑(List.length x.1) : Int) == t.2.2.2.2.2.2.1, ())))
 (.ret (false, ())))
 (.ret (false, ()))))
 (.ret (false, ()))))
 (.ret (false, ())))
 (.ret (false, ())))))))))
 (.opt (cmpPs (List.drop (Int.toNat 0) (List.take (Int.toNat (if 6 < (↑(List.length p0) : Int) then 6 else (↑(List.length p0) : Int))) p0), List.drop (Int.toNat 0) (List.take (Int.toNat (if 6 < (↑(List.length p1) : Int) then 6 else (↑(List.length p1) : Int))) p1), ())) fun y =>
 (.opt (cmpPs (List.drop (Int.toNat 0) (List.take (Int.toNat (if 6 < (↑(List.length p1) : Int) then 6 else (↑(List.length p1) : Int))) p1), List.drop (Int.toNat 0) (List.take (Int.toNat (if 6 < (↑(List.length p0) : Int) then 6 else (↑(List.length p0) : Int))) p0), ())) fun z =>
 (.opt (samePs (List.drop (Int.toNat 0) (List.take (Int.toNat (if 6 < (↑(List.length p0) : Int) then 6 else (↑(List.length p0) : Int))) p0), List.drop (Int.toNat 0) (List.take (Int.toNat (if 6 < (↑(List.length p1) : Int) then 6 else (↑(List.length p1) : Int))) p1), ())) fun aa =>
 (.opt (truthOrder_w0 (p2, List.drop (Int.toNat 0) (List.take (Int.toNat (if 6 < (↑(List.length p0) : Int) then 6 else (↑(List.length p0) : Int))) p0), List.drop (Int.toNat 0) (List.take (Int.toNat (if 6 < (↑(List.length p1) : Int) then 6 else (↑(List.length p1) : Int))) p1), y.1, z.1, aa.1, 0, 0, [List.drop (Int.toNat 0) (List.take (Int.toNat (if 6 < (↑(List.length p0) : Int) then 6 else (↑(List.length p0) : Int))) p0), List.drop (Int.toNat 0) (List.take (Int.toNat (if 6 < (↑(List.length p1) : Int) then 6 else (↑(List.length p1) : Int))) p1), []], ())) fun ab =>
 (.opt (awake20 ()) fun ac =>
 (.cond ac.1
 (.cond ((ab.2.2.2.1 == 0) == ab.2.2.2.2.2.1)
 (.opt (lessP (ab.2.1, ab.2.2.1, ())) fun ad =>
 (.cond (decide (ab.2.2.2.1 < 0) == ad.1)
 (.opt (lessP (ab.2.2.1, ab.2.1, ())) fun ae =>
 (.cond (decide (ab.2.2.2.2.1 < 0) == ae.1)
 (.cond (decide (ab.2.2.2.1 > 0) == decide (ab.2.2.2.2.1 < 0))
 (.opt (endsT (ab.2.2.2.2.2.2.2.1, ab.1, ())) fun af =>
 (.ret ((↑(List.length af.1) : Int) == ab.2.2.2.2.2.2.1, ())))
 (.ret (false, ())))
 (.ret (false, ()))))
 (.ret (false, ()))))
 (.ret (false, ())))
 (.ret (false, ())))))))))
 (.no))
 (.no))
noncomputable def truthOrder : ((List (Int × Int)) × ((List (Int × Int)) × (Int × Unit))) → Option (Bool × Unit) := fun x => (truthOrder_B x).run
abbrev truthOrder_ins : List (Bool × Pat) := [(false, .ty false (.sl zA16)), (false, .ty false (.sl zA16)), (false, .ty false (.int .i64))]
abbrev truthOrder_outs : List Pat := [.ty false .bool]
noncomputable abbrev truthOrder_f : Func := Try.f3
noncomputable abbrev truthOrder_P : Program := Try.prog
abbrev truthOrder_kp : List Nat := kpOf truthOrder_ins
abbrev truthOrder_kf : List Nat := kfOf truthOrder_ins
noncomputable def truthOrder_c : Ctx := { cx_endsT with base := 1024 }
theorem truthOrder_env : EnvFull truthOrder_P truthOrder_c := env_base (en_endsT) 1024
abbrev truthOrder_H0 : List Hole := [.slot 2 false (.int .i64), .slot 7 false (.sl zA16), .slot 8 false (.sl zA16), .slot 9 false (.int .i64), .slot 10 false (.int .i64), .slot 11 false .bool, .slot 13 false (.int .i64), .slot 14 false (.int .i64), .ar 1085 false 22 (.sl zA16)]
def truthOrder_S0 : Skel := ⟨129, [(12, D.c (C.mfull 1085))], [(1085, [])]⟩
abbrev truthOrder_H0e0 : List Hole := [.slot 2 false (.int .i64), .slot 7 false (.sl zA16), .slot 8 false (.sl zA16), .slot 9 false (.int .i64), .slot 10 false (.int .i64), .slot 11 false .bool, .slot 13 false (.int .i64), .ar 1085 false 22 (.sl zA16)]
def truthOrder_S0e0 : Skel := ⟨129, [(12, D.c (C.mfull 1085))], [(1085, [])]⟩
def truthOrder_h0 : Exit → Shape
 | .normal => ⟨[(2, .as false (.int .i64)), (7, .as false (.sl zA16)), (8, .as false (.sl zA16)), (9, .as false (.int .i64)), (10, .as false (.int .i64)), (11, .as false .bool), (12, .keep), (13, .as false (.int .i64)), (14, .as false (.int .i64))], [], [(61, false)]⟩
 | .exit 0 => ⟨[(2, .as false (.int .i64)), (7, .as false (.sl zA16)), (8, .as false (.sl zA16)), (9, .as false (.int .i64)), (10, .as false (.int .i64)), (11, .as false .bool), (12, .keep), (13, .as false (.int .i64))], [], [(61, false)]⟩
 | _ => ⟨[], [], []⟩
def truthOrder_e0 : (Int × ((List (Int × Int)) × ((List (Int × Int)) × (Int × (Int × (Bool × (Int × (zA23 × Unit)))))))) → Exit × St
 | u => (.exit 0, truthOrder_S0e0.fillK truthOrder_kf truthOrder_H0e0 u)
def truthOrder_t0 : (Int × ((List (Int × Int)) × ((List (Int × Int)) × (Int × (Int × (Bool × (Int × (zA23 × Unit)))))))) → Br (Exit × St) := fun u => .ret (.exit 0, truthOrder_S0e0.fillK truthOrder_kf truthOrder_H0e0 u)
noncomputable def truthOrder_C0 : Code := loopAt 0 (bodyOf truthOrder_f)
noncomputable def truthOrder_o0 : St → Br (Exit × St) := loopF truthOrder_kp truthOrder_kf 1024 (truthOrder_h0 .normal) (truthOrder_S0.parseK truthOrder_kf truthOrder_H0) fun x => .opt (truthOrder_w0 x) truthOrder_t0
noncomputable def truthOrder_p : Par := { sh := fun _ => none, k := 0, lo := fun i => bif Nat.beq i 9 then some truthOrder_o0 else none }
theorem truthOrder_r0 (a : Int) (b : (List (Int × Int))) (c : (List (Int × Int))) (d : Int) (e : Int) (f : Bool) (g : Int) (h : Int) (i : zA23) : roundF truthOrder_kp truthOrder_kf truthOrder_c truthOrder_p truthOrder_h0 truthOrder_C0 (truthOrder_S0.fillK truthOrder_kf truthOrder_H0 (a, b, c, d, e, f, g, h, i, ())) = (truthOrder_l0 (a, b, c, d, e, f, g, h, i, ())).bind (loopLeaf (fun x => truthOrder_S0.fillK truthOrder_kf truthOrder_H0 x) truthOrder_e0) := by kernel_rfl
theorem truthOrder_ok0 (g : Cfg) (hg : ∀ n, Go.PI.look n g.m0 ≠ Option.none → n ∈ truthOrder_kp) : LoopOk truthOrder_P g truthOrder_o0 truthOrder_C0 := LoopOk.auto truthOrder_env hg truthOrder_p (LoOk.of (l := []) (by kernel_rfl) .nil) truthOrder_h0 (fun x => truthOrder_S0.fillK truthOrder_kf truthOrder_H0 x) (fun s x h => Skel.parseK_ok s x h) truthOrder_l0 truthOrder_e0 (fun _ h => by cases h) truthOrder_t0 (fun _ => rfl) (fun (a, b, c, d, e, f, i, j, k, ()) => truthOrder_r0 a b c d e f i j k)
theorem truthOrder_eq (p0 : (List (Int × Int))) (p1 : (List (Int × Int))) (p2 : Int) : ocRun truthOrder_c truthOrder_p truthOrder_f truthOrder_ins truthOrder_outs (p0, p1, p2, ()) = truthOrder_B (p0, p1, p2, ()) := by kernel_rfl
theorem truthOrder_oc : OC truthOrder_P 3 truthOrder_ins truthOrder_outs truthOrder := OC.of_tree truthOrder_env Try.func3 (by kernel_rfl) (by kernel_rfl) (p := truthOrder_p) (fun g hg => LoOk.of (l := [truthOrder_C0]) (by kernel_rfl) (.cons (truthOrder_ok0 g hg) (by kernel_rfl) .nil)) (fun (p0, p1, p2, ()) => truthOrder_eq p0 p1 p2)
end Go.Proofs.Ytiblijkhpmemeaa
