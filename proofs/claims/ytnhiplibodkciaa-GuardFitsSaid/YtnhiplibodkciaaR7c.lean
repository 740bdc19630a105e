/- Contracts of functions. Printed by auto.py. -/
import Derived.Test.YtnhiplibodkciaaHa
import Derived.Test.YtnhiplibodkciaaHd
namespace Go.Proofs.Ytnhiplibodkciaa
open Go.PI Go
noncomputable def stampE_B : (zA2 × (Int × Unit)) → Br ((Int × (Int × Int)) × Unit) := fun (p0, p1, ()) =>
 (.ret ((p0.2.2.1, p0.2.2.2.1, p1), ()))
noncomputable def stampE : (zA2 × (Int × Unit)) → Option ((Int × (Int × Int)) × Unit) := fun x => (stampE_B x).run
abbrev stampE_ins : List (Bool × Pat) := [(false, .ty true zA9), (false, .ty false (.int .i64))]
abbrev stampE_outs : List Pat := [.ty false (.st (.pair (.int .i64) (.pair (.int .i64) (.int .i64))))]
noncomputable abbrev stampE_f : Func := Try.f89
noncomputable abbrev stampE_P : Program := Try.prog
noncomputable def stampE_c : Ctx := { cxM1 with base := 1024 }
set_option maxRecDepth 100000 in
theorem stampE_env : EnvFull stampE_P stampE_c := env_base (enM1) 1024
noncomputable def stampE_p : Par := { sh := fun _ => none, k := 0, lo := fun _ => none }
set_option maxRecDepth 100000 in
theorem stampE_eq (p0 : zA2) (p1 : Int) : ocRun stampE_c stampE_p stampE_f stampE_ins stampE_outs (p0, p1, ()) = stampE_B (p0, p1, ()) := by kernel_rfl
set_option maxRecDepth 100000 in
theorem stampE_oc : OC stampE_P 89 stampE_ins stampE_outs stampE := OC.of_tree stampE_env Try.func89 (by kernel_rfl) (by kernel_rfl) (p := stampE_p) (fun g hg => LoOk.of (l := []) (by kernel_rfl) .nil) (fun (p0, p1, ()) => stampE_eq p0 p1)
noncomputable def cx_stampE : Ctx := addO cxM1 89 (ocOrc stampE_ins stampE_outs stampE)
theorem en_stampE : EnvFull Try.prog cx_stampE := env_add (enM1) stampE_oc.callOk
noncomputable def cloneVal : ((List zA8) × Unit) → Option ((List zA8) × Unit) := fun x => bif bound (0 + List.length x.1) 40 then some (x.1, ()) else none
set_option maxRecDepth 100000 in
theorem cloneVal_oc : OC Try.prog 133 [(false, .ty true (.sl zA4))] [.ty false (.sl zA4)] cloneVal := OC.clone (k := false) (clone_specB (t := 48) (e := 64) (by_ := 24) (b2 := 40) (en_stampE) Try.func133 (by kernel_rfl) (by kernel_rfl) (by kernel_rfl) (by kernel_rfl) (by kernel_rfl) true rfl fun l => ⟨.c .bad, [1031, 1029, 1029], by kernel_rfl⟩)
noncomputable def cx_cloneVal : Ctx := addO cx_stampE 133 (ocOrc [(false, .ty true (.sl zA4))] [.ty false (.sl zA4)] cloneVal)
theorem en_cloneVal : EnvFull Try.prog cx_cloneVal := env_add (en_stampE) cloneVal_oc.callOk
noncomputable def copyE_B : (zA2 × Unit) → Br (zA2 × Unit) := fun (p0, ()) =>
 (.opt (cloneVal (p0.2.2.2.2, ())) fun y2 =>
 (.ret ((p0.1, p0.2.1, p0.2.2.1, p0.2.2.2.1, y2.1), ())))
noncomputable def copyE : (zA2 × Unit) → Option (zA2 × Unit) := fun x => (copyE_B x).run
abbrev copyE_ins : List (Bool × Pat) := [(false, .ty false zA9)]
abbrev copyE_outs : List Pat := [.ty false zA9]
noncomputable abbrev copyE_f : Func := Try.f91
noncomputable abbrev copyE_P : Program := Try.prog
noncomputable def copyE_c : Ctx := { cx_cloneVal with base := 1024 }
set_option maxRecDepth 100000 in
theorem copyE_env : EnvFull copyE_P copyE_c := env_base (en_cloneVal) 1024
noncomputable def copyE_p : Par := { sh := fun _ => none, k := 0, lo := fun _ => none }
set_option maxRecDepth 100000 in
theorem copyE_eq (p0 : zA2) : ocRun copyE_c copyE_p copyE_f copyE_ins copyE_outs (p0, ()) = copyE_B (p0, ()) := by kernel_rfl
set_option maxRecDepth 100000 in
theorem copyE_oc : OC copyE_P 91 copyE_ins copyE_outs copyE := OC.of_tree copyE_env Try.func91 (by kernel_rfl) (by kernel_rfl) (p := copyE_p) (fun g hg => LoOk.of (l := []) (by kernel_rfl) .nil) (fun (p0, ()) => copyE_eq p0)
noncomputable def cx_copyE : Ctx := addO cx_cloneVal 91 (ocOrc copyE_ins copyE_outs copyE)
theorem en_copyE : EnvFull Try.prog cx_copyE := env_add (en_cloneVal) copyE_oc.callOk
noncomputable def runLen_B : (zA6 × Unit) → Br (Int × Unit) := fun (p0, ()) =>
 (.opt (lenP (p0.2.1, ())) fun y2 =>
 (.ret (y2.1, ())))
noncomputable def runLen : (zA6 × Unit) → Option (Int × Unit) := fun x => (runLen_B x).run
abbrev runLen_ins : List (Bool × Pat) := [(false, .ty true zA7)]
abbrev runLen_outs : List Pat := [.ty false (.int .i64)]
noncomputable abbrev runLen_f : Func := Try.f60
noncomputable abbrev runLen_P : Program := Try.prog
noncomputable def runLen_c : Ctx := { cx_copyE with base := 1024 }
set_option maxRecDepth 100000 in
theorem runLen_env : EnvFull runLen_P runLen_c := env_base (en_copyE) 1024
noncomputable def runLen_p : Par := { sh := fun _ => none, k := 0, lo := fun _ => none }
set_option maxRecDepth 100000 in
theorem runLen_eq (p0 : zA6) : ocRun runLen_c runLen_p runLen_f runLen_ins runLen_outs (p0, ()) = runLen_B (p0, ()) := by kernel_rfl
set_option maxRecDepth 100000 in
theorem runLen_oc : OC runLen_P 60 runLen_ins runLen_outs runLen := OC.of_tree runLen_env Try.func60 (by kernel_rfl) (by kernel_rfl) (p := runLen_p) (fun g hg => LoOk.of (l := []) (by kernel_rfl) .nil) (fun (p0, ()) => runLen_eq p0)
noncomputable def cx_runLen : Ctx := addO cx_copyE 60 (ocOrc runLen_ins runLen_outs runLen)
theorem en_runLen : EnvFull Try.prog cx_runLen := env_add (en_copyE) runLen_oc.callOk
noncomputable def runWith_B : (zA6 × (zA10 × (Int × (Int × (zA2 × Unit))))) → Br (zA6 × Unit) := fun (p0, p1, p2, p3, p4, ()) =>
 (.opt (withP (p0.2.1, (p3, p4.2.2.2.1), ())) fun y12 =>
 (.opt (stampE (p4, 0, ())) fun y13 =>
 (.opt (runLen (p0, ())) fun y14 =>
 (.cond (y14.1 == 0)
 (.cond (decide (p3 ≥ 0))
 (.cond (decide (p3 < (↑(List.length p1.1) : Int)))
 (.cond (decide (0 ≤ p3) && decide (p3 < (↑(List.length p1.1) : Int)))
 (.cond (Prod.fst (Prod.snd (Prod.snd (Prod.snd (Prod.snd (List.getD p1.1 (Int.toNat p3) (ByteArray.empty, [], false, 0, 0, [])))))) == 1)
 (.cond (decide (0 ≤ p3) && decide (p3 < (↑(List.length p1.1) : Int)))
 (.opt (copyE (p4, ())) fun y15 =>
 (.opt (withB (p0.2.2.1, (Prod.fst (List.getD p1.1 (Int.toNat p3) (ByteArray.empty, [], false, 0, 0, [])), y15.1), ())) fun y16 =>
 (.ret ((p2, y12.1, y16.1, p4.2.2.1, (y13.1.1, y13.1.2.1, y13.1.2.2), false), ()))))
 (.no))
 (.ret ((p2, y12.1, p0.2.2.1, p4.2.2.1, (y13.1.1, y13.1.2.1, y13.1.2.2), false), ())))
 (.no))
 (.ret ((p2, y12.1, p0.2.2.1, p4.2.2.1, (y13.1.1, y13.1.2.1, y13.1.2.2), false), ())))
 (.ret ((p2, y12.1, p0.2.2.1, p4.2.2.1, (y13.1.1, y13.1.2.1, y13.1.2.2), false), ())))
 (.cond (decide (p3 ≥ 0))
 (.cond (decide (p3 < (↑(List.length p1.1) : Int)))
 (.cond (decide (0 ≤ p3) && decide (p3 < (↑(List.length p1.1) : Int)))
 (.cond (Prod.fst (Prod.snd (Prod.snd (Prod.snd (Prod.snd (List.getD p1.1 (Int.toNat p3) (ByteArray.empty, [], false, 0, 0, [])))))) == 1)
 (.cond (decide (0 ≤ p3) && decide (p3 < (↑(List.length p1.1) : Int)))
 (.opt (copyE (p4, ())) fun y17 =>
 (.opt (withB (p0.2.2.1, (Prod.fst (List.getD p1.1 (Int.toNat p3) (ByteArray.empty, [], false, 0, 0, [])), y17.1), ())) fun y18 =>
 (.ret ((p2, y12.1, y18.1, p0.2.2.2.1, (y13.1.1, y13.1.2.1, y13.1.2.2), false), ()))))
 (.no))
 (.ret ((p2, y12.1, p0.2.2.1, p0.2.2.2.1, (y13.1.1, y13.1.2.1, y13.1.2.2), false), ())))
 (.no))
 (.ret ((p2, y12.1, p0.2.2.1, p0.2.2.2.1, (y13.1.1, y13.1.2.1, y13.1.2.2), false), ())))
 (.ret ((p2, y12.1, p0.2.2.1, p0.2.2.2.1, (y13.1.1, y13.1.2.1, y13.1.2.2), false), ())))))))
noncomputable def runWith : (zA6 × (zA10 × (Int × (Int × (zA2 × Unit))))) → Option (zA6 × Unit) := fun x => (runWith_B x).run
abbrev runWith_ins : List (Bool × Pat) := [(false, .ty false zA7), (false, .ty true zA5), (false, .ty false (.int .i64)), (false, .ty false (.int .i64)), (false, .ty false zA9)]
abbrev runWith_outs : List Pat := [.ty false zA7]
noncomputable abbrev runWith_f : Func := Try.f47
noncomputable abbrev runWith_P : Program := Try.prog
noncomputable def runWith_c : Ctx := { cx_runLen with base := 1024 }
set_option maxRecDepth 100000 in
theorem runWith_env : EnvFull runWith_P runWith_c := env_base (en_runLen) 1024
noncomputable def runWith_p : Par := { sh := fun _ => none, k := 0, lo := fun _ => none }
set_option maxRecDepth 100000 in
theorem runWith_eq (p0 : zA6) (p1 : zA10) (p2 : Int) (p3 : Int) (p4 : zA2) : ocRun runWith_c runWith_p runWith_f runWith_ins runWith_outs (p0, p1, p2, p3, p4, ()) = runWith_B (p0, p1, p2, p3, p4, ()) := by kernel_rfl
set_option maxRecDepth 100000 in
theorem runWith_oc : OC runWith_P 47 runWith_ins runWith_outs runWith := OC.of_tree runWith_env Try.func47 (by kernel_rfl) (by kernel_rfl) (p := runWith_p) (fun g hg => LoOk.of (l := []) (by kernel_rfl) .nil) (fun (p0, p1, p2, p3, p4, ()) => runWith_eq p0 p1 p2 p3 p4)
noncomputable def cx_runWith : Ctx := addO cx_runLen 47 (ocOrc runWith_ins runWith_outs runWith)
theorem en_runWith : EnvFull Try.prog cx_runWith := env_add (en_runLen) runWith_oc.callOk
noncomputable def runElem_B : (zA6 × Unit) → Br (Int × Unit) := fun (p0, ()) =>
 (.opt (newestP (p0.2.1, ())) fun y2 =>
 (.cond (!y2.1.2)
 (.ret (-1, ()))
 (.ret (y2.1.1.1, ()))))
noncomputable def runElem : (zA6 × Unit) → Option (Int × Unit) := fun x => (runElem_B x).run
abbrev runElem_ins : List (Bool × Pat) := [(false, .ty true zA7)]
abbrev runElem_outs : List Pat := [.ty false (.int .i64)]
noncomputable abbrev runElem_f : Func := Try.f53
noncomputable abbrev runElem_P : Program := Try.prog
noncomputable def runElem_c : Ctx := { cx_runWith with base := 1024 }
set_option maxRecDepth 100000 in
theorem runElem_env : EnvFull runElem_P runElem_c := env_base (en_runWith) 1024
noncomputable def runElem_p : Par := { sh := fun _ => none, k := 0, lo := fun _ => none }
set_option maxRecDepth 100000 in
theorem runElem_eq (p0 : zA6) : ocRun runElem_c runElem_p runElem_f runElem_ins runElem_outs (p0, ()) = runElem_B (p0, ()) := by kernel_rfl
set_option maxRecDepth 100000 in
theorem runElem_oc : OC runElem_P 53 runElem_ins runElem_outs runElem := OC.of_tree runElem_env Try.func53 (by kernel_rfl) (by kernel_rfl) (p := runElem_p) (fun g hg => LoOk.of (l := []) (by kernel_rfl) .nil) (fun (p0, ()) => runElem_eq p0)
noncomputable def cx_runElem : Ctx := addO cx_runWith 53 (ocOrc runElem_ins runElem_outs runElem)
theorem en_runElem : EnvFull Try.prog cx_runElem := env_add (en_runWith) runElem_oc.callOk
noncomputable def idxStr_l0 : ((List ByteArray) × (ByteArray × (Int × (Int × Unit)))) → Br (((List ByteArray) × (ByteArray × (Int × (Int × Unit)))) ⊕ ((Int × Unit) ⊕ Unit)) := fun (s0_22, s1_23, s7_24, s8_25, ()) =>
 (.cond (decide (s8_25 < s7_24))
 (.cond (decide (0 ≤ s8_25) && decide (s8_25 < (↑(List.length s0_22) : Int)))
 (.cond (bl s1_23 == bl (List.getD s0_22 (Int.toNat s8_25) ByteArray.empty))
 (.ret (.inr (.inl (s8_25, ()))))
 (.ret (.inl (s0_22, s1_23, s7_24, IntKind.wrap .i64 (s8_25 + 1), ()))))
 (.no))
 (.ret (.inr (.inr (())))))
noncomputable def idxStr_w0 : ((List ByteArray) × (ByteArray × (Int × (Int × Unit)))) → Option ((Int × Unit) ⊕ Unit) := iterO fun x => (idxStr_l0 x).run
noncomputable def idxStr_B : ((List ByteArray) × (ByteArray × Unit)) → Br (Int × Unit) := fun (p0, p1, ()) =>
 (.opt (idxStr_w0 (p0, p1, (↑(List.length p0) : Int), 0, ())) fun z27 =>
 (.sum z27 (fun u28 =>
 (.ret (u28.1, ()))) (fun z29 =>
 (.ret (-1, ())))))
noncomputable def idxStr : ((List ByteArray) × (ByteArray × Unit)) → Option (Int × Unit) := fun x => (idxStr_B x).run
abbrev idxStr_ins : List (Bool × Pat) := [(false, .ty true (.sl .str)), (false, .ty false .str)]
abbrev idxStr_outs : List Pat := [.ty false (.int .i64)]
noncomputable abbrev idxStr_f : Func := Try.f134
noncomputable abbrev idxStr_P : Program := Try.prog
abbrev idxStr_kp : List Nat := kpOf idxStr_ins
abbrev idxStr_kf : List Nat := kfOf idxStr_ins
noncomputable def idxStr_c : Ctx := { cx_runElem with base := 1024 }
set_option maxRecDepth 100000 in
theorem idxStr_env : EnvFull idxStr_P idxStr_c := env_base (en_runElem) 1024
abbrev idxStr_H0 : List Hole := [.slot 0 true (.sl .str), .slot 1 false .str, .slot 7 false (.int .i64), .slot 8 false (.int .i64)]
def idxStr_S0 : Skel := ⟨19, [], []⟩
abbrev idxStr_H0e0 : List Hole := [.slot 4 false (.int .i64)]
def idxStr_S0e0 : Skel := ⟨19, [], []⟩
abbrev idxStr_H0e1 : List Hole := []
def idxStr_S0e1 : Skel := ⟨19, [], []⟩
def idxStr_h0 : Exit → Shape
  | .normal => ⟨[(0, .as true (.sl .str)), (1, .as false .str), (7, .as false (.int .i64)), (8, .as false (.int .i64))], [], []⟩
  | .ret => ⟨[(4, .as false (.int .i64))], [], []⟩
  | .exit 0 => ⟨[], [], []⟩
  | _ => ⟨[], [], []⟩
def idxStr_e0 : ((Int × Unit) ⊕ Unit) → Exit × St
  | (.inl u) => (.ret, idxStr_S0e0.fillK idxStr_kf idxStr_H0e0 u)
  | (.inr u) => (.exit 0, idxStr_S0e1.fillK idxStr_kf idxStr_H0e1 u)
def idxStr_t0 : ((Int × Unit) ⊕ Unit) → Br (Exit × St) := fun z => .sum z (fun u => .ret (.ret, idxStr_S0e0.fillK idxStr_kf idxStr_H0e0 u)) (fun u => .ret (.exit 0, idxStr_S0e1.fillK idxStr_kf idxStr_H0e1 u))
noncomputable def idxStr_C0 : Code := loopAt 0 (bodyOf idxStr_f)
noncomputable def idxStr_o0 : St → Br (Exit × St) := loopF idxStr_kp idxStr_kf 1024 (idxStr_h0 .normal) (idxStr_S0.parseK idxStr_kf idxStr_H0) fun x => .opt (idxStr_w0 x) idxStr_t0
noncomputable def idxStr_p : Par := { sh := fun _ => none, k := 0, lo := fun i => bif Nat.beq i 2 then some idxStr_o0 else none }
set_option maxRecDepth 100000 in
theorem idxStr_r0 (s0_22 : (List ByteArray)) (s1_23 : ByteArray) (s7_24 : Int) (s8_25 : Int) : roundF idxStr_kp idxStr_kf idxStr_c idxStr_p idxStr_h0 idxStr_C0 (idxStr_S0.fillK idxStr_kf idxStr_H0 (s0_22, s1_23, s7_24, s8_25, ())) = (idxStr_l0 (s0_22, s1_23, s7_24, s8_25, ())).bind (loopLeaf (fun x => idxStr_S0.fillK idxStr_kf idxStr_H0 x) idxStr_e0) := by kernel_rfl
set_option maxRecDepth 100000 in
theorem idxStr_ok0 (g : Cfg) (hg : ∀ n, Go.PI.look n g.m0 ≠ Option.none → n ∈ idxStr_kp) : LoopOk idxStr_P g idxStr_o0 idxStr_C0 := LoopOk.auto idxStr_env hg idxStr_p (LoOk.of (l := []) (by kernel_rfl) .nil) idxStr_h0 (fun x => idxStr_S0.fillK idxStr_kf idxStr_H0 x) (fun s x h => Skel.parseK_ok s x h) idxStr_l0 idxStr_e0 (fun z h => by rcases z with z | z <;> cases h) idxStr_t0 (fun z => by rcases z with z | z <;> rfl) (fun (s0_22, s1_23, s7_24, s8_25, ()) => idxStr_r0 s0_22 s1_23 s7_24 s8_25)
set_option maxRecDepth 100000 in
theorem idxStr_eq (p0 : (List ByteArray)) (p1 : ByteArray) : ocRun idxStr_c idxStr_p idxStr_f idxStr_ins idxStr_outs (p0, p1, ()) = idxStr_B (p0, p1, ()) := by kernel_rfl
set_option maxRecDepth 100000 in
theorem idxStr_oc : OC idxStr_P 134 idxStr_ins idxStr_outs idxStr := OC.of_tree idxStr_env Try.func134 (by kernel_rfl) (by kernel_rfl) (p := idxStr_p) (fun g hg => LoOk.of (l := [idxStr_C0]) (by kernel_rfl) (.cons (idxStr_ok0 g hg) (by kernel_rfl) .nil)) (fun (p0, p1, ()) => idxStr_eq p0 p1)
noncomputable def cx_idxStr : Ctx := addO cx_runElem 134 (ocOrc idxStr_ins idxStr_outs idxStr)
theorem en_idxStr : EnvFull Try.prog cx_idxStr := env_add (en_runElem) idxStr_oc.callOk
noncomputable def hasStr_B : ((List ByteArray) × (ByteArray × Unit)) → Br (Bool × Unit) := fun (p0, p1, ()) =>
 (.opt (idxStr (p0, p1, ())) fun y3 =>
 (.ret (decide (y3.1 ≥ 0), ())))
noncomputable def hasStr : ((List ByteArray) × (ByteArray × Unit)) → Option (Bool × Unit) := fun x => (hasStr_B x).run
abbrev hasStr_ins : List (Bool × Pat) := [(false, .ty true (.sl .str)), (false, .ty false .str)]
abbrev hasStr_outs : List Pat := [.ty false .bool]
noncomputable abbrev hasStr_f : Func := Try.f92
noncomputable abbrev hasStr_P : Program := Try.prog
noncomputable def hasStr_c : Ctx := { cx_idxStr with base := 1024 }
set_option maxRecDepth 100000 in
theorem hasStr_env : EnvFull hasStr_P hasStr_c := env_base (en_idxStr) 1024
noncomputable def hasStr_p : Par := { sh := fun _ => none, k := 0, lo := fun _ => none }
set_option maxRecDepth 100000 in
theorem hasStr_eq (p0 : (List ByteArray)) (p1 : ByteArray) : ocRun hasStr_c hasStr_p hasStr_f hasStr_ins hasStr_outs (p0, p1, ()) = hasStr_B (p0, p1, ()) := by kernel_rfl
set_option maxRecDepth 100000 in
theorem hasStr_oc : OC hasStr_P 92 hasStr_ins hasStr_outs hasStr := OC.of_tree hasStr_env Try.func92 (by kernel_rfl) (by kernel_rfl) (p := hasStr_p) (fun g hg => LoOk.of (l := []) (by kernel_rfl) .nil) (fun (p0, p1, ()) => hasStr_eq p0 p1)
noncomputable def cx_hasStr : Ctx := addO cx_idxStr 92 (ocOrc hasStr_ins hasStr_outs hasStr)
theorem en_hasStr : EnvFull Try.prog cx_hasStr := env_add (en_idxStr) hasStr_oc.callOk
noncomputable def betwQ_l0 : (Int × (Int × (zA10 × ((List Int) × Unit)))) → Br ((Int × (Int × (zA10 × ((List Int) × Unit)))) ⊕ ((List Int) × Unit)) := fun (s1_21, s6_22, v1026_23, r1724_24, ()) =>
 (.cond (decide (s6_22 < (↑(List.length v1026_23.1) : Int)))
 (.cond (decide (s1_21 < (↑(List.length v1026_23.1) : Int)))
 (.cond (decide (0 ≤ s6_22) && decide (s6_22 < (↑(List.length v1026_23.1) : Int)))
 (.cond (Prod.fst (Prod.snd (Prod.snd (List.getD v1026_23.1 (Int.toNat s6_22) (ByteArray.empty, [], false, 0, 0, [])))))
 (.cond (decide ((List.length r1724_24 + List.length (List.set (List.replicate 1 0) 0 s6_22)) * 8 ≤ 140737488355328))
 (.ret (.inl (s1_21, IntKind.wrap .i64 (s6_22 + 1), v1026_23, r1724_24 ++ List.set (List.replicate 1 0) 0 s6_22, ())))
 (.no))
 (.ret (.inr (r1724_24, ()))))
 (.no))
 (.ret (.inr (r1724_24, ()))))
 (.ret (.inr (r1724_24, ()))))
noncomputable def betwQ_w0 : (Int × (Int × (zA10 × ((List Int) × Unit)))) → Option ((List Int) × Unit) := iterO fun x => (betwQ_l0 x).run
noncomputable def betwQ_B : (zA10 × (Int × Unit)) → Br ((List Int) × Unit) := fun (p0, p1, ()) =>
 (.opt (betwQ_w0 (p1, if IntKind.wrap .i64 (p1 + 1) < 0 then 0 else IntKind.wrap .i64 (p1 + 1), p0, [], ())) fun z26 =>
 (.ret (z26.1, ())))
noncomputable def betwQ : (zA10 × (Int × Unit)) → Option ((List Int) × Unit) := fun x => (betwQ_B x).run
abbrev betwQ_ins : List (Bool × Pat) := [(false, .ty true zA5), (false, .ty false (.int .i64))]
abbrev betwQ_outs : List Pat := [.ty false (.sl (.int .i64))]
noncomputable abbrev betwQ_f : Func := Try.f94
noncomputable abbrev betwQ_P : Program := Try.prog
abbrev betwQ_kp : List Nat := kpOf betwQ_ins
abbrev betwQ_kf : List Nat := kfOf betwQ_ins
noncomputable def betwQ_c : Ctx := { cx_hasStr with base := 1024 }
set_option maxRecDepth 100000 in
theorem betwQ_env : EnvFull betwQ_P betwQ_c := env_base (en_hasStr) 1024
abbrev betwQ_H0 : List Hole := [.slot 1 false (.int .i64), .slot 6 false (.int .i64), .tv 1026 true zA5, .ar 1724 false 3 (.int .i64)]
def betwQ_S0 : Skel := ⟨37, [(2, D.c (C.ref 1026 0 0)), (5, .c (.mfull 1724))], [(1026, []), (1724, [])]⟩
abbrev betwQ_H0e0 : List Hole := [.ar 1725 false 3 (.int .i64)]
def betwQ_S0e0 : Skel := ⟨37, [(5, .c (.mfull 1725))], [(1725, [])]⟩
def betwQ_h0 : Exit → Shape
  | .normal => ⟨[(1, .as false (.int .i64)), (2, .keep), (5, .row 700 false 3 (.int .i64)), (6, .as false (.int .i64))], [], [(2, true), (700, false)]⟩
  | .exit 0 => ⟨[(5, .row 701 false 3 (.int .i64))], [], [(701, false)]⟩
  | _ => ⟨[], [], []⟩
def betwQ_e0 : ((List Int) × Unit) → Exit × St
  | u => (.exit 0, betwQ_S0e0.fillK betwQ_kf betwQ_H0e0 u)
def betwQ_t0 : ((List Int) × Unit) → Br (Exit × St) := fun u => .ret (.exit 0, betwQ_S0e0.fillK betwQ_kf betwQ_H0e0 u)
noncomputable def betwQ_C0 : Code := loopAt 0 (bodyOf betwQ_f)
noncomputable def betwQ_o0 : St → Br (Exit × St) := loopF betwQ_kp betwQ_kf 1024 (betwQ_h0 .normal) (betwQ_S0.parseK betwQ_kf betwQ_H0) fun x => .opt (betwQ_w0 x) betwQ_t0
noncomputable def betwQ_p : Par := { sh := fun _ => none, k := 0, lo := fun i => bif Nat.beq i 3 then some betwQ_o0 else none }
set_option maxRecDepth 100000 in
theorem betwQ_r0 (s1_21 : Int) (s6_22 : Int) (v1026_23 : zA10) (r1724_24 : (List Int)) : roundF betwQ_kp betwQ_kf betwQ_c betwQ_p betwQ_h0 betwQ_C0 (betwQ_S0.fillK betwQ_kf betwQ_H0 (s1_21, s6_22, v1026_23, r1724_24, ())) = (betwQ_l0 (s1_21, s6_22, v1026_23, r1724_24, ())).bind (loopLeaf (fun x => betwQ_S0.fillK betwQ_kf betwQ_H0 x) betwQ_e0) := by kernel_rfl
set_option maxRecDepth 100000 in
theorem betwQ_ok0 (g : Cfg) (hg : ∀ n, Go.PI.look n g.m0 ≠ Option.none → n ∈ betwQ_kp) : LoopOk betwQ_P g betwQ_o0 betwQ_C0 := LoopOk.auto betwQ_env hg betwQ_p (LoOk.of (l := []) (by kernel_rfl) .nil) betwQ_h0 (fun x => betwQ_S0.fillK betwQ_kf betwQ_H0 x) (fun s x h => Skel.parseK_ok s x h) betwQ_l0 betwQ_e0 (fun _ h => by cases h) betwQ_t0 (fun _ => rfl) (fun (s1_21, s6_22, v1026_23, r1724_24, ()) => betwQ_r0 s1_21 s6_22 v1026_23 r1724_24)
set_option maxRecDepth 100000 in
theorem betwQ_eq (p0 : zA10) (p1 : Int) : ocRun betwQ_c betwQ_p betwQ_f betwQ_ins betwQ_outs (p0, p1, ()) = betwQ_B (p0, p1, ()) := by kernel_rfl
set_option maxRecDepth 100000 in
theorem betwQ_oc : OC betwQ_P 94 betwQ_ins betwQ_outs betwQ := OC.of_tree betwQ_env Try.func94 (by kernel_rfl) (by kernel_rfl) (p := betwQ_p) (fun g hg => LoOk.of (l := [betwQ_C0]) (by kernel_rfl) (.cons (betwQ_ok0 g hg) (by kernel_rfl) .nil)) (fun (p0, p1, ()) => betwQ_eq p0 p1)
noncomputable def cx_betwQ : Ctx := addO cx_hasStr 94 (ocOrc betwQ_ins betwQ_outs betwQ)
theorem en_betwQ : EnvFull Try.prog cx_betwQ := env_add (en_hasStr) betwQ_oc.callOk
end Go.Proofs.Ytnhiplibodkciaa
