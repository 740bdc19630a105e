/- Contracts of functions. Printed by auto.py. -/
import Derived.Test.YtnhiplibodkciaaAbA
import Derived.Test.YtnhiplibodkciaaS1a
namespace Go.Proofs.Ytnhiplibodkciaa
open Go.PI Go
noncomputable def newN_l1 : (Int × zA24) → Br ((Int × zA24) ⊕ zA24) := fun (s4_95, s5_96, c1035_0_97, c1035_1_98, c1035_2_99, v1025_100, r1724_101, ()) =>
 (.cond (decide (0 ≤ s4_95) && decide (s4_95 < (↑(List.length v1025_100.1) : Int)))
 (.cond (decide (s5_96 ≤ if 4 < Prod.fst (Prod.snd (Prod.snd (Prod.snd (Prod.snd (List.getD v1025_100.1 (Int.toNat s4_95) (ByteArray.empty, [], false, 0, 0, [])))))) then 4 else Prod.fst (Prod.snd (Prod.snd (Prod.snd (Prod.snd (List.getD v1025_100.1 (Int.toNat s4_95) (ByteArray.empty, [], false, 0, 0, []))))))))
 (.cond (decide ((List.length r1724_101 + List.length (List.set (List.replicate 1 (0, 0)) 0 (s4_95, s5_96))) * 16 ≤ 140737488355328))
 (.ret (.inl (s4_95, IntKind.wrap .i64 (s5_96 + 1), c1035_0_97, c1035_1_98, c1035_2_99, v1025_100, r1724_101 ++ List.set (List.replicate 1 (0, 0)) 0 (s4_95, s5_96), ())))
 (.no))
 (.ret (.inr (s4_95, c1035_0_97, c1035_1_98, c1035_2_99, v1025_100, r1724_101, ()))))
 (.no))
noncomputable def newN_w1 : (Int × zA24) → Option zA24 := iterO fun x => (newN_l1 x).run
noncomputable def newN_l0 : zA24 → Br (zA24 ⊕ ((List zA1) × (Int × (Int × zA31)))) := fun (s4_89, c1035_0_90, c1035_1_91, c1035_2_92, v1025_93, r1726_94, ()) =>
 (.cond (decide (s4_89 ≥ 0))
 (.opt (newN_w1 (s4_89, 1, c1035_0_90, c1035_1_91, c1035_2_92, v1025_93, r1726_94, ())) fun z103 =>
 (.opt (nextQ (z103.2.2.2.2.1, z103.1, ())) fun y104 =>
 (.ret (.inl (y104.1, z103.2.1, z103.2.2.1, z103.2.2.2.1, z103.2.2.2.2.1, z103.2.2.2.2.2.1, ())))))
 (.ret (.inr (c1035_0_90, c1035_1_91, c1035_2_92, r1726_94, ()))))
noncomputable def newN_w0 : zA24 → Option ((List zA1) × (Int × (Int × zA31))) := iterO fun x => (newN_l0 x).run
noncomputable def newN_B : (zA10 × Unit) → Br (zA22 × Unit) := fun (p0, ()) =>
 (.opt (copyQ (p0, ())) fun y87 =>
 (.opt (nextQ (p0, -1, ())) fun y88 =>
 (.opt (newN_w0 (y88.1, y87.1.1, y87.1.2.1, y87.1.2.2, p0, [(-1, 0)], ())) fun z106 =>
 (.ret (some ((z106.1, z106.2.1, z106.2.2.1), z106.2.2.2.1), ())))))
noncomputable def newN : (zA10 × Unit) → Option (zA22 × Unit) := fun x => (newN_B x).run
abbrev newN_ins : List (Bool × Pat) := [(false, .ty false zA5)]
abbrev newN_outs : List Pat := [.ty false (.ptr (.st (.pair zA5 (.sl zA16))))]
noncomputable abbrev newN_f : Func := Try.f55
noncomputable abbrev newN_P : Program := Try.prog
abbrev newN_kp : List Nat := kpOf newN_ins
abbrev newN_kf : List Nat := kfOf newN_ins
noncomputable def newN_c : Ctx := { cx_copyQ with base := 1024 }
set_option maxRecDepth 100000 in
theorem newN_env : EnvFull newN_P newN_c := env_base (en_copyQ) 1024
abbrev newN_H1 : List Hole := [.slot 4 false (.int .i64), .slot 5 false (.int .i64), .cell 1035 0 false (.sl zA19), .cell 1035 1 false (.int .i64), .cell 1035 2 false (.int .i64), .tv 1025 false zA5, .ar 1724 false 116 zA16]
def newN_S1 : Skel := ⟨43, [(1, D.c (C.ref 1025 0 0)), (3, D.c (C.ref 1035 0 0))], [(1025, []), (1035, [.bad, .bad, .bad, (.mfull 1724)]), (1724, [])]⟩
abbrev newN_H1e0 : List Hole := [.slot 4 false (.int .i64), .cell 1035 0 false (.sl zA19), .cell 1035 1 false (.int .i64), .cell 1035 2 false (.int .i64), .tv 1025 false zA5, .ar 1725 false 116 zA16]
def newN_S1e0 : Skel := ⟨43, [(1, D.c (C.ref 1025 0 0)), (3, D.c (C.ref 1035 0 0))], [(1025, []), (1035, [.bad, .bad, .bad, (.mfull 1725)]), (1725, [])]⟩
def newN_h1 : Exit → Shape
  | .normal => ⟨[(1, .keep), (3, .keep), (4, .as false (.int .i64)), (5, .as false (.int .i64))], [(11, 0, .as false (.sl zA19)), (11, 1, .as false (.int .i64)), (11, 2, .as false (.int .i64)), (11, 3, .row 700 false 116 zA16)], [(1, false), (11, false), (700, false)]⟩
  | .exit 2 => ⟨[(1, .keep), (3, .keep), (4, .as false (.int .i64))], [(11, 0, .as false (.sl zA19)), (11, 1, .as false (.int .i64)), (11, 2, .as false (.int .i64)), (11, 3, .row 701 false 116 zA16)], [(1, false), (11, false), (701, false)]⟩
  | _ => ⟨[], [], []⟩
def newN_e1 : zA24 → Exit × St
  | u => (.exit 2, newN_S1e0.fillK newN_kf newN_H1e0 u)
def newN_t1 : zA24 → Br (Exit × St) := fun u => .ret (.exit 2, newN_S1e0.fillK newN_kf newN_H1e0 u)
noncomputable def newN_C1 : Code := loopAt 1 (bodyOf newN_f)
noncomputable def newN_o1 : St → Br (Exit × St) := loopF newN_kp newN_kf 1024 (newN_h1 .normal) (newN_S1.parseK newN_kf newN_H1) fun x => .opt (newN_w1 x) newN_t1
abbrev newN_H0 : List Hole := [.slot 4 false (.int .i64), .cell 1035 0 false (.sl zA19), .cell 1035 1 false (.int .i64), .cell 1035 2 false (.int .i64), .tv 1025 false zA5, .ar 1726 false 116 zA16]
def newN_S0 : Skel := ⟨43, [(1, D.c (C.ref 1025 0 0)), (3, D.c (C.ref 1035 0 0))], [(1025, []), (1035, [.bad, .bad, .bad, (.mfull 1726)]), (1726, [])]⟩
abbrev newN_H0e0 : List Hole := [.cell 1035 0 false (.sl zA19), .cell 1035 1 false (.int .i64), .cell 1035 2 false (.int .i64), .ar 1727 false 116 zA16]
def newN_S0e0 : Skel := ⟨43, [(3, D.c (C.ref 1035 0 0))], [(1035, [.bad, .bad, .bad, (.mfull 1727)]), (1727, [])]⟩
def newN_h0 : Exit → Shape
  | .normal => ⟨[(1, .keep), (3, .keep), (4, .as false (.int .i64))], [(11, 0, .as false (.sl zA19)), (11, 1, .as false (.int .i64)), (11, 2, .as false (.int .i64)), (11, 3, .row 702 false 116 zA16)], [(1, false), (11, false), (702, false)]⟩
  | .exit 0 => ⟨[(3, .keep)], [(11, 0, .as false (.sl zA19)), (11, 1, .as false (.int .i64)), (11, 2, .as false (.int .i64)), (11, 3, .row 703 false 116 zA16)], [(11, false), (703, false)]⟩
  | _ => ⟨[], [], []⟩
def newN_e0 : ((List zA1) × (Int × (Int × zA31))) → Exit × St
  | u => (.exit 0, newN_S0e0.fillK newN_kf newN_H0e0 u)
def newN_t0 : ((List zA1) × (Int × (Int × zA31))) → Br (Exit × St) := fun u => .ret (.exit 0, newN_S0e0.fillK newN_kf newN_H0e0 u)
noncomputable def newN_C0 : Code := loopAt 0 (bodyOf newN_f)
noncomputable def newN_o0 : St → Br (Exit × St) := loopF newN_kp newN_kf 1024 (newN_h0 .normal) (newN_S0.parseK newN_kf newN_H0) fun x => .opt (newN_w0 x) newN_t0
noncomputable def newN_p : Par := { sh := fun _ => none, k := 0, lo := fun i => bif Nat.beq i 3 then some newN_o0 else bif Nat.beq i 6 then some newN_o1 else none }
set_option maxRecDepth 100000 in
theorem newN_r1 (s4_95 : Int) (s5_96 : Int) (c1035_0_97 : (List zA1)) (c1035_1_98 : Int) (c1035_2_99 : Int) (v1025_100 : zA10) (r1724_101 : (List (Int × Int))) : roundF newN_kp newN_kf newN_c newN_p newN_h1 newN_C1 (newN_S1.fillK newN_kf newN_H1 (s4_95, s5_96, c1035_0_97, c1035_1_98, c1035_2_99, v1025_100, r1724_101, ())) = (newN_l1 (s4_95, s5_96, c1035_0_97, c1035_1_98, c1035_2_99, v1025_100, r1724_101, ())).bind (loopLeaf (fun x => newN_S1.fillK newN_kf newN_H1 x) newN_e1) := by kernel_rfl
set_option maxRecDepth 100000 in
theorem newN_ok1 (g : Cfg) (hg : ∀ n, Go.PI.look n g.m0 ≠ Option.none → n ∈ newN_kp) : LoopOk newN_P g newN_o1 newN_C1 := LoopOk.auto newN_env hg newN_p (LoOk.of (l := []) (by kernel_rfl) .nil) newN_h1 (fun x => newN_S1.fillK newN_kf newN_H1 x) (fun s x h => Skel.parseK_ok s x h) newN_l1 newN_e1 (fun _ h => by cases h) newN_t1 (fun _ => rfl) (fun (s4_95, s5_96, c1035_0_97, c1035_1_98, c1035_2_99, v1025_100, r1724_101, ()) => newN_r1 s4_95 s5_96 c1035_0_97 c1035_1_98 c1035_2_99 v1025_100 r1724_101)
set_option maxRecDepth 100000 in
theorem newN_r0 (s4_89 : Int) (c1035_0_90 : (List zA1)) (c1035_1_91 : Int) (c1035_2_92 : Int) (v1025_93 : zA10) (r1726_94 : (List (Int × Int))) : roundF newN_kp newN_kf newN_c newN_p newN_h0 newN_C0 (newN_S0.fillK newN_kf newN_H0 (s4_89, c1035_0_90, c1035_1_91, c1035_2_92, v1025_93, r1726_94, ())) = (newN_l0 (s4_89, c1035_0_90, c1035_1_91, c1035_2_92, v1025_93, r1726_94, ())).bind (loopLeaf (fun x => newN_S0.fillK newN_kf newN_H0 x) newN_e0) := by kernel_rfl
set_option maxRecDepth 100000 in
theorem newN_ok0 (g : Cfg) (hg : ∀ n, Go.PI.look n g.m0 ≠ Option.none → n ∈ newN_kp) : LoopOk newN_P g newN_o0 newN_C0 := LoopOk.auto newN_env hg newN_p (LoOk.of (l := [newN_C1]) (by kernel_rfl) (.cons (newN_ok1 g hg) (by kernel_rfl) .nil)) newN_h0 (fun x => newN_S0.fillK newN_kf newN_H0 x) (fun s x h => Skel.parseK_ok s x h) newN_l0 newN_e0 (fun _ h => by cases h) newN_t0 (fun _ => rfl) (fun (s4_89, c1035_0_90, c1035_1_91, c1035_2_92, v1025_93, r1726_94, ()) => newN_r0 s4_89 c1035_0_90 c1035_1_91 c1035_2_92 v1025_93 r1726_94)
set_option maxRecDepth 100000 in
theorem newN_eq (p0 : zA10) : ocRun newN_c newN_p newN_f newN_ins newN_outs (p0, ()) = newN_B (p0, ()) := by kernel_rfl
set_option maxRecDepth 100000 in
theorem newN_oc : OC newN_P 55 newN_ins newN_outs newN := OC.of_tree newN_env Try.func55 (by kernel_rfl) (by kernel_rfl) (p := newN_p) (fun g hg => LoOk.of (l := [newN_C0, newN_C1]) (by kernel_rfl) (.cons (newN_ok0 g hg) (by kernel_rfl) (.cons (newN_ok1 g hg) (by kernel_rfl) .nil))) (fun (p0, ()) => newN_eq p0)
noncomputable def cx_newN : Ctx := addO cx_copyQ 55 (ocOrc newN_ins newN_outs newN)
theorem en_newN : EnvFull Try.prog cx_newN := env_add (en_copyQ) newN_oc.callOk
noncomputable def lenN_B : (zA22 × Unit) → Br (Int × Unit) := fun (p0, ()) =>
 (.cond (Option.isNone p0)
 (.ret (0, ()))
 (.cond (Option.isSome p0)
 (.ret ((↑(List.length (Prod.snd (Option.rec (([], 0, 0), []) (fun (val : Ty.T (Ty.st (Ty.pair zA3 zA14))) => val) p0))) : Int), ()))
 (.no)))
noncomputable def lenN : (zA22 × Unit) → Option (Int × Unit) := fun x => (lenN_B x).run
abbrev lenN_ins : List (Bool × Pat) := [(false, .ty true (.ptr (.st (.pair zA5 (.sl zA16)))))]
abbrev lenN_outs : List Pat := [.ty false (.int .i64)]
noncomputable abbrev lenN_f : Func := Try.f57
noncomputable abbrev lenN_P : Program := Try.prog
abbrev lenN_kp : List Nat := kpOf lenN_ins
abbrev lenN_kf : List Nat := kfOf lenN_ins
noncomputable def lenN_c : Ctx := { cx_newN with base := 1024 }
set_option maxRecDepth 100000 in
theorem lenN_env : EnvFull lenN_P lenN_c := env_base (en_newN) 1024
noncomputable def lenN_p : Par := { sh := fun _ => none, k := 0, lo := fun _ => none }
set_option maxRecDepth 100000 in
theorem lenN_eq (p0 : zA22) : ocRun lenN_c lenN_p lenN_f lenN_ins lenN_outs (p0, ()) = lenN_B (p0, ()) := by kernel_rfl
set_option maxRecDepth 100000 in
theorem lenN_oc : OC lenN_P 57 lenN_ins lenN_outs lenN := OC.of_tree lenN_env Try.func57 (by kernel_rfl) (by kernel_rfl) (p := lenN_p) (fun g hg => LoOk.of (l := []) (by kernel_rfl) .nil) (fun (p0, ()) => lenN_eq p0)
noncomputable def cx_lenN : Ctx := addO cx_newN 57 (ocOrc lenN_ins lenN_outs lenN)
theorem en_lenN : EnvFull Try.prog cx_lenN := env_add (en_newN) lenN_oc.callOk
noncomputable def atN_B : (zA22 × (Int × Unit)) → Br (((Int × Int) × Bool) × Unit) := fun (p0, p1, ()) =>
 (.cond (decide (p1 < 0))
 (.ret (((0, 0), false), ()))
 (.opt (lenN (p0, ())) fun y3 =>
 (.cond (decide (p1 ≥ y3.1))
 (.ret (((0, 0), false), ()))
 (.cond (Option.isSome p0)
 (.cond (decide (0 ≤ p1) && decide (p1 < (↑(List.length (Prod.snd (Option.rec (([], 0, 0), []) (fun (val : Ty.T (Ty.st (Ty.pair zA3 zA14))) => val) p0))) : Int)))
 (.ret ((List.getD (Prod.snd (Option.rec (([], 0, 0), []) (fun (val : Ty.T (Ty.st (Ty.pair zA3 zA14))) => val) p0)) (Int.toNat p1) (0, 0), true), ()))
 (.no))
 (.no)))))
noncomputable def atN : (zA22 × (Int × Unit)) → Option (((Int × Int) × Bool) × Unit) := fun x => (atN_B x).run
abbrev atN_ins : List (Bool × Pat) := [(false, .ty true (.ptr (.st (.pair zA5 (.sl zA16))))), (false, .ty false (.int .i64))]
abbrev atN_outs : List Pat := [.ty false zA16, .ty false .bool]
noncomputable abbrev atN_f : Func := Try.f64
noncomputable abbrev atN_P : Program := Try.prog
abbrev atN_kp : List Nat := kpOf atN_ins
abbrev atN_kf : List Nat := kfOf atN_ins
noncomputable def atN_c : Ctx := { cx_lenN with base := 1024 }
set_option maxRecDepth 100000 in
theorem atN_env : EnvFull atN_P atN_c := env_base (en_lenN) 1024
noncomputable def atN_p : Par := { sh := fun _ => none, k := 0, lo := fun _ => none }
set_option maxRecDepth 100000 in
theorem atN_eq (p0 : zA22) (p1 : Int) : ocRun atN_c atN_p atN_f atN_ins atN_outs (p0, p1, ()) = atN_B (p0, p1, ()) := by kernel_rfl
set_option maxRecDepth 100000 in
theorem atN_oc : OC atN_P 64 atN_ins atN_outs atN := OC.of_tree atN_env Try.func64 (by kernel_rfl) (by kernel_rfl) (p := atN_p) (fun g hg => LoOk.of (l := []) (by kernel_rfl) .nil) (fun (p0, p1, ()) => atN_eq p0 p1)
noncomputable def cx_atN : Ctx := addO cx_lenN 64 (ocOrc atN_ins atN_outs atN)
theorem en_atN : EnvFull Try.prog cx_atN := env_add (en_lenN) atN_oc.callOk
noncomputable def idxState_l0 : ((List (Int × Int)) × (Int × (Int × ((Int × Int) × Unit)))) → Br (((List (Int × Int)) × (Int × (Int × ((Int × Int) × Unit)))) ⊕ ((Int × Unit) ⊕ Unit)) := fun (s0_22, s7_23, s8_24, v1027_25, ()) =>
 (.cond (decide (s8_24 < s7_23))
 (.cond (decide (0 ≤ s8_24) && decide (s8_24 < (↑(List.length s0_22) : Int)))
 (.cond (decide (v1027_25.1 = Prod.fst (List.getD s0_22 (Int.toNat s8_24) (0, 0))) && decide (v1027_25.2 = Prod.snd (List.getD s0_22 (Int.toNat s8_24) (0, 0))))
 (.ret (.inr (.inl (s8_24, ()))))
 (.ret (.inl (s0_22, s7_23, IntKind.wrap .i64 (s8_24 + 1), v1027_25, ()))))
 (.no))
 (.ret (.inr (.inr (())))))
noncomputable def idxState_w0 : ((List (Int × Int)) × (Int × (Int × ((Int × Int) × Unit)))) → Option ((Int × Unit) ⊕ Unit) := iterO fun x => (idxState_l0 x).run
noncomputable def idxState_B : ((List (Int × Int)) × ((Int × Int) × Unit)) → Br (Int × Unit) := fun (p0, p1, ()) =>
 (.opt (idxState_w0 (p0, (↑(List.length p0) : Int), 0, p1, ())) fun z27 =>
 (.sum z27 (fun u28 =>
 (.ret (u28.1, ()))) (fun z29 =>
 (.ret (-1, ())))))
noncomputable def idxState : ((List (Int × Int)) × ((Int × Int) × Unit)) → Option (Int × Unit) := fun x => (idxState_B x).run
abbrev idxState_ins : List (Bool × Pat) := [(false, .ty true (.sl zA16)), (false, .ty false zA16)]
abbrev idxState_outs : List Pat := [.ty false (.int .i64)]
noncomputable abbrev idxState_f : Func := Try.f147
noncomputable abbrev idxState_P : Program := Try.prog
abbrev idxState_kp : List Nat := kpOf idxState_ins
abbrev idxState_kf : List Nat := kfOf idxState_ins
noncomputable def idxState_c : Ctx := { cx_atN with base := 1024 }
set_option maxRecDepth 100000 in
theorem idxState_env : EnvFull idxState_P idxState_c := env_base (en_atN) 1024
abbrev idxState_H0 : List Hole := [.slot 0 true (.sl zA16), .slot 7 false (.int .i64), .slot 8 false (.int .i64), .tv 1027 false zA16]
def idxState_S0 : Skel := ⟨19, [(3, D.c (C.ref 1027 0 0))], [(1027, [])]⟩
abbrev idxState_H0e0 : List Hole := [.slot 4 false (.int .i64)]
def idxState_S0e0 : Skel := ⟨19, [], []⟩
abbrev idxState_H0e1 : List Hole := []
def idxState_S0e1 : Skel := ⟨19, [], []⟩
def idxState_h0 : Exit → Shape
  | .normal => ⟨[(0, .as true (.sl zA16)), (3, .keep), (7, .as false (.int .i64)), (8, .as false (.int .i64))], [], [(3, false)]⟩
  | .ret => ⟨[(4, .as false (.int .i64))], [], []⟩
  | .exit 0 => ⟨[], [], []⟩
  | _ => ⟨[], [], []⟩
def idxState_e0 : ((Int × Unit) ⊕ Unit) → Exit × St
  | (.inl u) => (.ret, idxState_S0e0.fillK idxState_kf idxState_H0e0 u)
  | (.inr u) => (.exit 0, idxState_S0e1.fillK idxState_kf idxState_H0e1 u)
def idxState_t0 : ((Int × Unit) ⊕ Unit) → Br (Exit × St) := fun z => .sum z (fun u => .ret (.ret, idxState_S0e0.fillK idxState_kf idxState_H0e0 u)) (fun u => .ret (.exit 0, idxState_S0e1.fillK idxState_kf idxState_H0e1 u))
noncomputable def idxState_C0 : Code := loopAt 0 (bodyOf idxState_f)
noncomputable def idxState_o0 : St → Br (Exit × St) := loopF idxState_kp idxState_kf 1024 (idxState_h0 .normal) (idxState_S0.parseK idxState_kf idxState_H0) fun x => .opt (idxState_w0 x) idxState_t0
noncomputable def idxState_p : Par := { sh := fun _ => none, k := 0, lo := fun i => bif Nat.beq i 2 then some idxState_o0 else none }
set_option maxRecDepth 100000 in
theorem idxState_r0 (s0_22 : (List (Int × Int))) (s7_23 : Int) (s8_24 : Int) (v1027_25 : (Int × Int)) : roundF idxState_kp idxState_kf idxState_c idxState_p idxState_h0 idxState_C0 (idxState_S0.fillK idxState_kf idxState_H0 (s0_22, s7_23, s8_24, v1027_25, ())) = (idxState_l0 (s0_22, s7_23, s8_24, v1027_25, ())).bind (loopLeaf (fun x => idxState_S0.fillK idxState_kf idxState_H0 x) idxState_e0) := by kernel_rfl
set_option maxRecDepth 100000 in
theorem idxState_ok0 (g : Cfg) (hg : ∀ n, Go.PI.look n g.m0 ≠ Option.none → n ∈ idxState_kp) : LoopOk idxState_P g idxState_o0 idxState_C0 := LoopOk.auto idxState_env hg idxState_p (LoOk.of (l := []) (by kernel_rfl) .nil) idxState_h0 (fun x => idxState_S0.fillK idxState_kf idxState_H0 x) (fun s x h => Skel.parseK_ok s x h) idxState_l0 idxState_e0 (fun z h => by rcases z with z | z <;> cases h) idxState_t0 (fun z => by rcases z with z | z <;> rfl) (fun (s0_22, s7_23, s8_24, v1027_25, ()) => idxState_r0 s0_22 s7_23 s8_24 v1027_25)
set_option maxRecDepth 100000 in
theorem idxState_eq (p0 : (List (Int × Int))) (p1 : (Int × Int)) : ocRun idxState_c idxState_p idxState_f idxState_ins idxState_outs (p0, p1, ()) = idxState_B (p0, p1, ()) := by kernel_rfl
set_option maxRecDepth 100000 in
theorem idxState_oc : OC idxState_P 147 idxState_ins idxState_outs idxState := OC.of_tree idxState_env Try.func147 (by kernel_rfl) (by kernel_rfl) (p := idxState_p) (fun g hg => LoOk.of (l := [idxState_C0]) (by kernel_rfl) (.cons (idxState_ok0 g hg) (by kernel_rfl) .nil)) (fun (p0, p1, ()) => idxState_eq p0 p1)
noncomputable def cx_idxState : Ctx := addO cx_atN 147 (ocOrc idxState_ins idxState_outs idxState)
theorem en_idxState : EnvFull Try.prog cx_idxState := env_add (en_atN) idxState_oc.callOk
noncomputable def findN_B : (zA22 × ((Int × Int) × Unit)) → Br (Int × Unit) := fun (p0, p1, ()) =>
 (.cond (Option.isNone p0)
 (.ret (-1, ()))
 (.cond (Option.isSome p0)
 (.opt (idxState (Prod.snd (Option.rec (([], 0, 0), []) (fun (val : Ty.T (Ty.st (Ty.pair zA3 zA14))) => val) p0), p1, ())) fun y3 =>
 (.ret (y3.1, ())))
 (.no)))
noncomputable def findN : (zA22 × ((Int × Int) × Unit)) → Option (Int × Unit) := fun x => (findN_B x).run
abbrev findN_ins : List (Bool × Pat) := [(false, .ty true (.ptr (.st (.pair zA5 (.sl zA16))))), (false, .ty false zA16)]
abbrev findN_outs : List Pat := [.ty false (.int .i64)]
noncomputable abbrev findN_f : Func := Try.f109
noncomputable abbrev findN_P : Program := Try.prog
abbrev findN_kp : List Nat := kpOf findN_ins
abbrev findN_kf : List Nat := kfOf findN_ins
noncomputable def findN_c : Ctx := { cx_idxState with base := 1024 }
set_option maxRecDepth 100000 in
theorem findN_env : EnvFull findN_P findN_c := env_base (en_idxState) 1024
noncomputable def findN_p : Par := { sh := fun _ => none, k := 0, lo := fun _ => none }
set_option maxRecDepth 100000 in
theorem findN_eq (p0 : zA22) (p1 : (Int × Int)) : ocRun findN_c findN_p findN_f findN_ins findN_outs (p0, p1, ()) = findN_B (p0, p1, ()) := by kernel_rfl
set_option maxRecDepth 100000 in
theorem findN_oc : OC findN_P 109 findN_ins findN_outs findN := OC.of_tree findN_env Try.func109 (by kernel_rfl) (by kernel_rfl) (p := findN_p) (fun g hg => LoOk.of (l := []) (by kernel_rfl) .nil) (fun (p0, p1, ()) => findN_eq p0 p1)
noncomputable def cx_findN : Ctx := addO cx_idxState 109 (ocOrc findN_ins findN_outs findN)
theorem en_findN : EnvFull Try.prog cx_findN := env_add (en_idxState) findN_oc.callOk
noncomputable def movesN_B : (zA22 × (Int × Unit)) → Br ((List Int) × Unit) := fun (p0, p1, ()) =>
 (.opt (atN (p0, p1, ())) fun y16 =>
 (.cond (!y16.1.2)
 (.ret ([], ()))
 (.opt (findN (p0, (y16.1.1.1, IntKind.wrap .i64 (y16.1.1.2 + 1)), ())) fun y17 =>
 (.cond (decide (y16.1.1.1 ≥ 0))
 (.cond (decide (y17.1 ≥ 0))
 (.cond (decide (List.length (List.set (List.replicate 1 0) 0 y17.1) * 8 ≤ 140737488355328))
 (.cond (decide (y16.1.1.1 ≥ 0))
 (.cond (Option.isSome p0)
 (.cond (decide (0 ≤ y16.1.1.1) && decide (y16.1.1.1 < (↑(List.length (Prod.fst (Prod.fst (Option.rec (([], 0, 0), []) (fun (val : Ty.T (Ty.st (Ty.pair zA3 zA14))) => val) p0)))) : Int)))
 (.cond (decide (y16.1.1.2 < Prod.fst (Prod.snd (Prod.snd (Prod.snd (List.getD (Prod.fst (Prod.fst (Option.rec (([], 0, 0), []) (fun (val : Ty.T (Ty.st (Ty.pair zA3 zA14))) => val) p0))) (Int.toNat y16.1.1.1) (ByteArray.empty, [], false, 0, 0, [])))))))
 (.ret ([y17.1], ()))
 (.cond (Option.isSome p0)
 (.opt (nextQ (Prod.fst (Option.rec (([], 0, 0), []) (fun (val : Ty.T (Ty.st (Ty.pair zA3 zA14))) => val) p0), y16.1.1.1, ())) fun y18 =>
 (.opt (findN (p0, (y18.1, 1), ())) fun y19 =>
 (.cond (decide (y19.1 > 0))
 (.cond (decide ((List.length [y17.1] + List.length (List.set (List.replicate 1 0) 0 y19.1)) * 8 ≤ 140737488355328))
 (.ret ([y17.1, y19.1], ()))
 (.no))
 (.ret ([y17.1], ())))))
 (.no)))
 (.no))
 (.no))
 (.cond (Option.isSome p0)
 (.opt (nextQ (Prod.fst (Option.rec (([], 0, 0), []) (fun (val : Ty.T (Ty.st (Ty.pair zA3 zA14))) => val) p0), y16.1.1.1, ())) fun y20 =>
 (.opt (findN (p0, (y20.1, 1), ())) fun y21 =>
 (.cond (decide (y21.1 > 0))
 (.cond (decide ((List.length [y17.1] + List.length (List.set (List.replicate 1 0) 0 y21.1)) * 8 ≤ 140737488355328))
 (.ret ([y17.1, y21.1], ()))
 (.no))
 (.ret ([y17.1], ())))))
 (.no)))
 (.no))
 (.cond (decide (y16.1.1.1 ≥ 0))
 (.cond (Option.isSome p0)
 (.cond (decide (0 ≤ y16.1.1.1) && decide (y16.1.1.1 < (↑(List.length (Prod.fst (Prod.fst (Option.rec (([], 0, 0), []) (fun (val : Ty.T (Ty.st (Ty.pair zA3 zA14))) => val) p0)))) : Int)))
 (.cond (decide (y16.1.1.2 < Prod.fst (Prod.snd (Prod.snd (Prod.snd (List.getD (Prod.fst (Prod.fst (Option.rec (([], 0, 0), []) (fun (val : Ty.T (Ty.st (Ty.pair zA3 zA14))) => val) p0))) (Int.toNat y16.1.1.1) (ByteArray.empty, [], false, 0, 0, [])))))))
 (.ret ([], ()))
 (.cond (Option.isSome p0)
 (.opt (nextQ (Prod.fst (Option.rec (([], 0, 0), []) (fun (val : Ty.T (Ty.st (Ty.pair zA3 zA14))) => val) p0), y16.1.1.1, ())) fun y22 =>
 (.opt (findN (p0, (y22.1, 1), ())) fun y23 =>
 (.cond (decide (y23.1 > 0))
 (.cond (decide (List.length (List.set (List.replicate 1 0) 0 y23.1) * 8 ≤ 140737488355328))
 (.ret ([y23.1], ()))
 (.no))
 (.ret ([], ())))))
 (.no)))
 (.no))
 (.no))
 (.cond (Option.isSome p0)
 (.opt (nextQ (Prod.fst (Option.rec (([], 0, 0), []) (fun (val : Ty.T (Ty.st (Ty.pair zA3 zA14))) => val) p0), y16.1.1.1, ())) fun y24 =>
 (.opt (findN (p0, (y24.1, 1), ())) fun y25 =>
 (.cond (decide (y25.1 > 0))
 (.cond (decide (List.length (List.set (List.replicate 1 0) 0 y25.1) * 8 ≤ 140737488355328))
 (.ret ([y25.1], ()))
 (.no))
 (.ret ([], ())))))
 (.no))))
 (.cond (decide (y16.1.1.1 ≥ 0))
 (.cond (Option.isSome p0)
 (.cond (decide (0 ≤ y16.1.1.1) && decide (y16.1.1.1 < (↑(List.length (Prod.fst (Prod.fst (Option.rec (([], 0, 0), []) (fun (val : Ty.T (Ty.st (Ty.pair zA3 zA14))) => val) p0)))) : Int)))
 (.cond (decide (y16.1.1.2 < Prod.fst (Prod.snd (Prod.snd (Prod.snd (List.getD (Prod.fst (Prod.fst (Option.rec (([], 0, 0), []) (fun (val : Ty.T (Ty.st (Ty.pair zA3 zA14))) => val) p0))) (Int.toNat y16.1.1.1) (ByteArray.empty, [], false, 0, 0, [])))))))
 (.ret ([], ()))
 (.cond (Option.isSome p0)
 (.opt (nextQ (Prod.fst (Option.rec (([], 0, 0), []) (fun (val : Ty.T (Ty.st (Ty.pair zA3 zA14))) => val) p0), y16.1.1.1, ())) fun y26 =>
 (.opt (findN (p0, (y26.1, 1), ())) fun y27 =>
 (.cond (decide (y27.1 > 0))
 (.cond (decide (List.length (List.set (List.replicate 1 0) 0 y27.1) * 8 ≤ 140737488355328))
 (.ret ([y27.1], ()))
 (.no))
 (.ret ([], ())))))
 (.no)))
 (.no))
 (.no))
 (.cond (Option.isSome p0)
 (.opt (nextQ (Prod.fst (Option.rec (([], 0, 0), []) (fun (val : Ty.T (Ty.st (Ty.pair zA3 zA14))) => val) p0), y16.1.1.1, ())) fun y28 =>
 (.opt (findN (p0, (y28.1, 1), ())) fun y29 =>
 (.cond (decide (y29.1 > 0))
 (.cond (decide (List.length (List.set (List.replicate 1 0) 0 y29.1) * 8 ≤ 140737488355328))
 (.ret ([y29.1], ()))
 (.no))
 (.ret ([], ())))))
 (.no)))))))
noncomputable def movesN : (zA22 × (Int × Unit)) → Option ((List Int) × Unit) := fun x => (movesN_B x).run
abbrev movesN_ins : List (Bool × Pat) := [(false, .ty true (.ptr (.st (.pair zA5 (.sl zA16))))), (false, .ty false (.int .i64))]
abbrev movesN_outs : List Pat := [.ty false (.sl (.int .i64))]
noncomputable abbrev movesN_f : Func := Try.f62
noncomputable abbrev movesN_P : Program := Try.prog
abbrev movesN_kp : List Nat := kpOf movesN_ins
abbrev movesN_kf : List Nat := kfOf movesN_ins
noncomputable def movesN_c : Ctx := { cx_findN with base := 1024 }
set_option maxRecDepth 100000 in
theorem movesN_env : EnvFull movesN_P movesN_c := env_base (en_findN) 1024
noncomputable def movesN_p : Par := { sh := fun _ => none, k := 0, lo := fun _ => none }
set_option maxRecDepth 100000 in
theorem movesN_eq (p0 : zA22) (p1 : Int) : ocRun movesN_c movesN_p movesN_f movesN_ins movesN_outs (p0, p1, ()) = movesN_B (p0, p1, ()) := by kernel_rfl
set_option maxRecDepth 100000 in
theorem movesN_oc : OC movesN_P 62 movesN_ins movesN_outs movesN := OC.of_tree movesN_env Try.func62 (by kernel_rfl) (by kernel_rfl) (p := movesN_p) (fun g hg => LoOk.of (l := []) (by kernel_rfl) .nil) (fun (p0, p1, ()) => movesN_eq p0 p1)
noncomputable def cx_movesN : Ctx := addO cx_findN 62 (ocOrc movesN_ins movesN_outs movesN)
theorem en_movesN : EnvFull Try.prog cx_movesN := env_add (en_findN) movesN_oc.callOk
noncomputable def endsN_B : (zA22 × (Int × Unit)) → Br (Bool × Unit) := fun (p0, p1, ()) =>
 (.opt (atN (p0, p1, ())) fun y4 =>
 (.cond y4.1.2
 (.cond (decide (y4.1.1.1 ≥ 0))
 (.cond (Option.isSome p0)
 (.opt (lastQ (Prod.fst (Option.rec (([], 0, 0), []) (fun (val : Ty.T (Ty.st (Ty.pair zA3 zA14))) => val) p0), ())) fun y5 =>
 (.cond (y4.1.1.1 == y5.1)
 (.cond (Option.isSome p0)
 (.cond (decide (0 ≤ y4.1.1.1) && decide (y4.1.1.1 < (↑(List.length (Prod.fst (Prod.fst (Option.rec (([], 0, 0), []) (fun (val : Ty.T (Ty.st (Ty.pair zA3 zA14))) => val) p0)))) : Int)))
 (.ret (decide (y4.1.1.2 ≥ Prod.fst (Prod.snd (Prod.snd (Prod.snd (List.getD (Prod.fst (Prod.fst (Option.rec (([], 0, 0), []) (fun (val : Ty.T (Ty.st (Ty.pair zA3 zA14))) => val) p0))) (Int.toNat y4.1.1.1) (ByteArray.empty, [], false, 0, 0, [])))))), ()))
 (.no))
 (.no))
 (.ret (false, ()))))
 (.no))
 (.ret (false, ())))
 (.ret (false, ()))))
noncomputable def endsN : (zA22 × (Int × Unit)) → Option (Bool × Unit) := fun x => (endsN_B x).run
abbrev endsN_ins : List (Bool × Pat) := [(false, .ty true (.ptr (.st (.pair zA5 (.sl zA16))))), (false, .ty false (.int .i64))]
abbrev endsN_outs : List Pat := [.ty false .bool]
noncomputable abbrev endsN_f : Func := Try.f145
noncomputable abbrev endsN_P : Program := Try.prog
abbrev endsN_kp : List Nat := kpOf endsN_ins
abbrev endsN_kf : List Nat := kfOf endsN_ins
noncomputable def endsN_c : Ctx := { cx_movesN with base := 1024 }
set_option maxRecDepth 100000 in
theorem endsN_env : EnvFull endsN_P endsN_c := env_base (en_movesN) 1024
noncomputable def endsN_p : Par := { sh := fun _ => none, k := 0, lo := fun _ => none }
set_option maxRecDepth 100000 in
theorem endsN_eq (p0 : zA22) (p1 : Int) : ocRun endsN_c endsN_p endsN_f endsN_ins endsN_outs (p0, p1, ()) = endsN_B (p0, p1, ()) := by kernel_rfl
set_option maxRecDepth 100000 in
theorem endsN_oc : OC endsN_P 145 endsN_ins endsN_outs endsN := OC.of_tree endsN_env Try.func145 (by kernel_rfl) (by kernel_rfl) (p := endsN_p) (fun g hg => LoOk.of (l := []) (by kernel_rfl) .nil) (fun (p0, p1, ()) => endsN_eq p0 p1)
noncomputable def cx_endsN : Ctx := addO cx_movesN 145 (ocOrc endsN_ins endsN_outs endsN)
theorem en_endsN : EnvFull Try.prog cx_endsN := env_add (en_movesN) endsN_oc.callOk
noncomputable def queryN_B : (zA22 × Unit) → Br (zA10 × Unit) := fun (p0, ()) =>
 (.cond (Option.isNone p0)
 (.ret (([], 0, 0), ()))
 (.cond (Option.isSome p0)
 (.opt (copyQ (Prod.fst (Option.rec (([], 0, 0), []) (fun (val : Ty.T (Ty.st (Ty.pair zA3 zA14))) => val) p0), ())) fun y2 =>
 (.ret (y2.1, ())))
 (.no)))
noncomputable def queryN : (zA22 × Unit) → Option (zA10 × Unit) := fun x => (queryN_B x).run
abbrev queryN_ins : List (Bool × Pat) := [(false, .ty false (.ptr (.st (.pair zA5 (.sl zA16)))))]
abbrev queryN_outs : List Pat := [.ty false zA5]
noncomputable abbrev queryN_f : Func := Try.f105
noncomputable abbrev queryN_P : Program := Try.prog
abbrev queryN_kp : List Nat := kpOf queryN_ins
abbrev queryN_kf : List Nat := kfOf queryN_ins
noncomputable def queryN_c : Ctx := { cx_endsN with base := 1024 }
set_option maxRecDepth 100000 in
theorem queryN_env : EnvFull queryN_P queryN_c := env_base (en_endsN) 1024
noncomputable def queryN_p : Par := { sh := fun _ => none, k := 0, lo := fun _ => none }
set_option maxRecDepth 100000 in
theorem queryN_eq (p0 : zA22) : ocRun queryN_c queryN_p queryN_f queryN_ins queryN_outs (p0, ()) = queryN_B (p0, ()) := by kernel_rfl
set_option maxRecDepth 100000 in
theorem queryN_oc : OC queryN_P 105 queryN_ins queryN_outs queryN := OC.of_tree queryN_env Try.func105 (by kernel_rfl) (by kernel_rfl) (p := queryN_p) (fun g hg => LoOk.of (l := []) (by kernel_rfl) .nil) (fun (p0, ()) => queryN_eq p0)
noncomputable def cx_queryN : Ctx := addO cx_endsN 105 (ocOrc queryN_ins queryN_outs queryN)
theorem en_queryN : EnvFull Try.prog cx_queryN := env_add (en_endsN) queryN_oc.callOk
noncomputable def runState_B : (zA6 × Unit) → Br (Int × Unit) := fun (p0, ()) =>
 (.ret (p0.1, ()))
noncomputable def runState : (zA6 × Unit) → Option (Int × Unit) := fun x => (runState_B x).run
abbrev runState_ins : List (Bool × Pat) := [(false, .ty true zA7)]
abbrev runState_outs : List Pat := [.ty false (.int .i64)]
noncomputable abbrev runState_f : Func := Try.f63
noncomputable abbrev runState_P : Program := Try.prog
abbrev runState_kp : List Nat := kpOf runState_ins
abbrev runState_kf : List Nat := kfOf runState_ins
noncomputable def runState_c : Ctx := { cx_queryN with base := 1024 }
set_option maxRecDepth 100000 in
theorem runState_env : EnvFull runState_P runState_c := env_base (en_queryN) 1024
noncomputable def runState_p : Par := { sh := fun _ => none, k := 0, lo := fun _ => none }
set_option maxRecDepth 100000 in
theorem runState_eq (p0 : zA6) : ocRun runState_c runState_p runState_f runState_ins runState_outs (p0, ()) = runState_B (p0, ()) := by kernel_rfl
set_option maxRecDepth 100000 in
theorem runState_oc : OC runState_P 63 runState_ins runState_outs runState := OC.of_tree runState_env Try.func63 (by kernel_rfl) (by kernel_rfl) (p := runState_p) (fun g hg => LoOk.of (l := []) (by kernel_rfl) .nil) (fun (p0, ()) => runState_eq p0)
noncomputable def cx_runState : Ctx := addO cx_queryN 63 (ocOrc runState_ins runState_outs runState)
theorem en_runState : EnvFull Try.prog cx_runState := env_add (en_queryN) runState_oc.callOk
noncomputable def runBlock_B : (zA6 × Unit) → Br (zA6 × Unit) := fun (p0, ()) =>
 (.ret ((p0.1, p0.2.1, p0.2.2.1, p0.2.2.2.1, p0.2.2.2.2.1, true), ()))
noncomputable def runBlock : (zA6 × Unit) → Option (zA6 × Unit) := fun x => (runBlock_B x).run
abbrev runBlock_ins : List (Bool × Pat) := [(false, .ty false zA7)]
abbrev runBlock_outs : List Pat := [.ty false zA7]
noncomputable abbrev runBlock_f : Func := Try.f61
noncomputable abbrev runBlock_P : Program := Try.prog
abbrev runBlock_kp : List Nat := kpOf runBlock_ins
abbrev runBlock_kf : List Nat := kfOf runBlock_ins
noncomputable def runBlock_c : Ctx := { cx_runState with base := 1024 }
set_option maxRecDepth 100000 in
theorem runBlock_env : EnvFull runBlock_P runBlock_c := env_base (en_runState) 1024
noncomputable def runBlock_p : Par := { sh := fun _ => none, k := 0, lo := fun _ => none }
set_option maxRecDepth 100000 in
theorem runBlock_eq (p0 : zA6) : ocRun runBlock_c runBlock_p runBlock_f runBlock_ins runBlock_outs (p0, ()) = runBlock_B (p0, ()) := by kernel_rfl
set_option maxRecDepth 100000 in
theorem runBlock_oc : OC runBlock_P 61 runBlock_ins runBlock_outs runBlock := OC.of_tree runBlock_env Try.func61 (by kernel_rfl) (by kernel_rfl) (p := runBlock_p) (fun g hg => LoOk.of (l := []) (by kernel_rfl) .nil) (fun (p0, ()) => runBlock_eq p0)
noncomputable def cx_runBlock : Ctx := addO cx_runState 61 (ocOrc runBlock_ins runBlock_outs runBlock)
theorem en_runBlock : EnvFull Try.prog cx_runBlock := env_add (en_runState) runBlock_oc.callOk
noncomputable def runBlkd_B : (zA6 × Unit) → Br (Bool × Unit) := fun (p0, ()) =>
 (.ret (p0.2.2.2.2.2, ()))
noncomputable def runBlkd : (zA6 × Unit) → Option (Bool × Unit) := fun x => (runBlkd_B x).run
abbrev runBlkd_ins : List (Bool × Pat) := [(false, .ty true zA7)]
abbrev runBlkd_outs : List Pat := [.ty false .bool]
noncomputable abbrev runBlkd_f : Func := Try.f65
noncomputable abbrev runBlkd_P : Program := Try.prog
abbrev runBlkd_kp : List Nat := kpOf runBlkd_ins
abbrev runBlkd_kf : List Nat := kfOf runBlkd_ins
noncomputable def runBlkd_c : Ctx := { cx_runBlock with base := 1024 }
set_option maxRecDepth 100000 in
theorem runBlkd_env : EnvFull runBlkd_P runBlkd_c := env_base (en_runBlock) 1024
noncomputable def runBlkd_p : Par := { sh := fun _ => none, k := 0, lo := fun _ => none }
set_option maxRecDepth 100000 in
theorem runBlkd_eq (p0 : zA6) : ocRun runBlkd_c runBlkd_p runBlkd_f runBlkd_ins runBlkd_outs (p0, ()) = runBlkd_B (p0, ()) := by kernel_rfl
set_option maxRecDepth 100000 in
theorem runBlkd_oc : OC runBlkd_P 65 runBlkd_ins runBlkd_outs runBlkd := OC.of_tree runBlkd_env Try.func65 (by kernel_rfl) (by kernel_rfl) (p := runBlkd_p) (fun g hg => LoOk.of (l := []) (by kernel_rfl) .nil) (fun (p0, ()) => runBlkd_eq p0)
noncomputable def cx_runBlkd : Ctx := addO cx_runBlock 65 (ocOrc runBlkd_ins runBlkd_outs runBlkd)
theorem en_runBlkd : EnvFull Try.prog cx_runBlkd := env_add (en_runBlock) runBlkd_oc.callOk
noncomputable def runPairs_B : (zA6 × Unit) → Br zA31 := fun (p0, ()) =>
 (.opt (listP (p0.2.1, ())) fun y2 =>
 (.ret (y2.1, ())))
noncomputable def runPairs : (zA6 × Unit) → Option zA31 := fun x => (runPairs_B x).run
abbrev runPairs_ins : List (Bool × Pat) := [(false, .ty false zA7)]
abbrev runPairs_outs : List Pat := [.row 153 zA16]
noncomputable abbrev runPairs_f : Func := Try.f111
noncomputable abbrev runPairs_P : Program := Try.prog
abbrev runPairs_kp : List Nat := kpOf runPairs_ins
abbrev runPairs_kf : List Nat := kfOf runPairs_ins
noncomputable def runPairs_c : Ctx := { cx_runBlkd with base := 1024 }
set_option maxRecDepth 100000 in
theorem runPairs_env : EnvFull runPairs_P runPairs_c := env_base (en_runBlkd) 1024
noncomputable def runPairs_p : Par := { sh := fun _ => none, k := 0, lo := fun _ => none }
set_option maxRecDepth 100000 in
theorem runPairs_eq (p0 : zA6) : ocRun runPairs_c runPairs_p runPairs_f runPairs_ins runPairs_outs (p0, ()) = runPairs_B (p0, ()) := by kernel_rfl
set_option maxRecDepth 100000 in
theorem runPairs_oc : OC runPairs_P 111 runPairs_ins runPairs_outs runPairs := OC.of_tree runPairs_env Try.func111 (by kernel_rfl) (by kernel_rfl) (p := runPairs_p) (fun g hg => LoOk.of (l := []) (by kernel_rfl) .nil) (fun (p0, ()) => runPairs_eq p0)
noncomputable def cx_runPairs : Ctx := addO cx_runBlkd 111 (ocOrc runPairs_ins runPairs_outs runPairs)
theorem en_runPairs : EnvFull Try.prog cx_runPairs := env_add (en_runBlkd) runPairs_oc.callOk
noncomputable def eqPairs_l0 : ((List (Int × Int)) × ((List (Int × Int)) × (Int × (Int × Unit)))) → Br (((List (Int × Int)) × ((List (Int × Int)) × (Int × (Int × Unit)))) ⊕ (Unit ⊕ Unit)) := fun (s0_22, s1_23, s12_24, s13_25, ()) =>
 (.cond (decide (s13_25 < s12_24))
 (.cond (decide (0 ≤ s13_25) && decide (s13_25 < (↑(List.length s0_22) : Int)))
 (.cond (decide (0 ≤ s13_25) && decide (s13_25 < (↑(List.length s1_23) : Int)))
 (.cond (!(decide (Prod.fst (List.getD s0_22 (Int.toNat s13_25) (0, 0)) = Prod.fst (List.getD s1_23 (Int.toNat s13_25) (0, 0))) && decide (Prod.snd (List.getD s0_22 (Int.toNat s13_25) (0, 0)) = Prod.snd (List.getD s1_23 (Int.toNat s13_25) (0, 0)))))
 (.ret (.inr (.inl (()))))
 (.ret (.inl (s0_22, s1_23, s12_24, IntKind.wrap .i64 (s13_25 + 1), ()))))
 (.no))
 (.no))
 (.ret (.inr (.inr (())))))
noncomputable def eqPairs_w0 : ((List (Int × Int)) × ((List (Int × Int)) × (Int × (Int × Unit)))) → Option (Unit ⊕ Unit) := iterO fun x => (eqPairs_l0 x).run
noncomputable def eqPairs_B : ((List (Int × Int)) × zA31) → Br (Bool × Unit) := fun (p0, p1, ()) =>
 (.cond ((↑(List.length p0) : Int) != (↑(List.length p1) : Int))
 (.ret (false, ()))
 (.opt (eqPairs_w0 (p0, p1, (↑(List.length p0) : Int), 0, ())) fun z27 =>
 (.sum z27 (fun u28 =>
 (.ret (false, ()))) (fun z29 =>
 (.ret (true, ()))))))
noncomputable def eqPairs : ((List (Int × Int)) × zA31) → Option (Bool × Unit) := fun x => (eqPairs_B x).run
abbrev eqPairs_ins : List (Bool × Pat) := [(false, .ty true (.sl zA16)), (false, .ty true (.sl zA16))]
abbrev eqPairs_outs : List Pat := [.ty false .bool]
noncomputable abbrev eqPairs_f : Func := Try.f110
noncomputable abbrev eqPairs_P : Program := Try.prog
abbrev eqPairs_kp : List Nat := kpOf eqPairs_ins
abbrev eqPairs_kf : List Nat := kfOf eqPairs_ins
noncomputable def eqPairs_c : Ctx := { cx_runPairs with base := 1024 }
set_option maxRecDepth 100000 in
theorem eqPairs_env : EnvFull eqPairs_P eqPairs_c := env_base (en_runPairs) 1024
abbrev eqPairs_H0 : List Hole := [.slot 0 true (.sl zA16), .slot 1 true (.sl zA16), .slot 12 false (.int .i64), .slot 13 false (.int .i64)]
def eqPairs_S0 : Skel := ⟨26, [], []⟩
abbrev eqPairs_H0e0 : List Hole := []
def eqPairs_S0e0 : Skel := ⟨26, [(4, D.c C.ff)], []⟩
abbrev eqPairs_H0e1 : List Hole := []
def eqPairs_S0e1 : Skel := ⟨26, [], []⟩
def eqPairs_h0 : Exit → Shape
  | .normal => ⟨[(0, .as true (.sl zA16)), (1, .as true (.sl zA16)), (12, .as false (.int .i64)), (13, .as false (.int .i64))], [], []⟩
  | .ret => ⟨[(4, .keep)], [], []⟩
  | .exit 0 => ⟨[], [], []⟩
  | _ => ⟨[], [], []⟩
def eqPairs_e0 : (Unit ⊕ Unit) → Exit × St
  | (.inl u) => (.ret, eqPairs_S0e0.fillK eqPairs_kf eqPairs_H0e0 u)
  | (.inr u) => (.exit 0, eqPairs_S0e1.fillK eqPairs_kf eqPairs_H0e1 u)
def eqPairs_t0 : (Unit ⊕ Unit) → Br (Exit × St) := fun z => .sum z (fun u => .ret (.ret, eqPairs_S0e0.fillK eqPairs_kf eqPairs_H0e0 u)) (fun u => .ret (.exit 0, eqPairs_S0e1.fillK eqPairs_kf eqPairs_H0e1 u))
noncomputable def eqPairs_C0 : Code := loopAt 0 (bodyOf eqPairs_f)
noncomputable def eqPairs_o0 : St → Br (Exit × St) := loopF eqPairs_kp eqPairs_kf 1024 (eqPairs_h0 .normal) (eqPairs_S0.parseK eqPairs_kf eqPairs_H0) fun x => .opt (eqPairs_w0 x) eqPairs_t0
noncomputable def eqPairs_p : Par := { sh := fun _ => none, k := 0, lo := fun i => bif Nat.beq i 4 then some eqPairs_o0 else none }
set_option maxRecDepth 100000 in
theorem eqPairs_r0 (s0_22 : (List (Int × Int))) (s1_23 : (List (Int × Int))) (s12_24 : Int) (s13_25 : Int) : roundF eqPairs_kp eqPairs_kf eqPairs_c eqPairs_p eqPairs_h0 eqPairs_C0 (eqPairs_S0.fillK eqPairs_kf eqPairs_H0 (s0_22, s1_23, s12_24, s13_25, ())) = (eqPairs_l0 (s0_22, s1_23, s12_24, s13_25, ())).bind (loopLeaf (fun x => eqPairs_S0.fillK eqPairs_kf eqPairs_H0 x) eqPairs_e0) := by kernel_rfl
set_option maxRecDepth 100000 in
theorem eqPairs_ok0 (g : Cfg) (hg : ∀ n, Go.PI.look n g.m0 ≠ Option.none → n ∈ eqPairs_kp) : LoopOk eqPairs_P g eqPairs_o0 eqPairs_C0 := LoopOk.auto eqPairs_env hg eqPairs_p (LoOk.of (l := []) (by kernel_rfl) .nil) eqPairs_h0 (fun x => eqPairs_S0.fillK eqPairs_kf eqPairs_H0 x) (fun s x h => Skel.parseK_ok s x h) eqPairs_l0 eqPairs_e0 (fun z h => by rcases z with z | z <;> cases h) eqPairs_t0 (fun z => by rcases z with z | z <;> rfl) (fun (s0_22, s1_23, s12_24, s13_25, ()) => eqPairs_r0 s0_22 s1_23 s12_24 s13_25)
set_option maxRecDepth 100000 in
theorem eqPairs_eq (p0 : (List (Int × Int))) (p1 : (List (Int × Int))) : ocRun eqPairs_c eqPairs_p eqPairs_f eqPairs_ins eqPairs_outs (p0, p1, ()) = eqPairs_B (p0, p1, ()) := by kernel_rfl
set_option maxRecDepth 100000 in
theorem eqPairs_oc : OC eqPairs_P 110 eqPairs_ins eqPairs_outs eqPairs := OC.of_tree eqPairs_env Try.func110 (by kernel_rfl) (by kernel_rfl) (p := eqPairs_p) (fun g hg => LoOk.of (l := [eqPairs_C0]) (by kernel_rfl) (.cons (eqPairs_ok0 g hg) (by kernel_rfl) .nil)) (fun (p0, p1, ()) => eqPairs_eq p0 p1)
noncomputable def cx_eqPairs : Ctx := addO cx_runPairs 110 (ocOrc eqPairs_ins eqPairs_outs eqPairs)
theorem en_eqPairs : EnvFull Try.prog cx_eqPairs := env_add (en_runPairs) eqPairs_oc.callOk
noncomputable def runSame_B : (zA6 × (zA6 × Unit)) → Br (Bool × Unit) := fun (p0, p1, ()) =>
 (.cond (p0.1 == p1.1)
 (.cond (p0.2.2.2.1 == p1.2.2.2.1)
 (.cond (decide (p0.2.2.2.2.1.1 = p1.2.2.2.2.1.1) && (decide (p0.2.2.2.2.1.2.1 = p1.2.2.2.2.1.2.1) && decide (p0.2.2.2.2.1.2.2 = p1.2.2.2.2.1.2.2)))
 (.cond (p0.2.2.2.2.2 == p1.2.2.2.2.2)
 (.opt (runPairs (p0, ())) fun y5 =>
 (.opt (runPairs (p1, ())) fun y6 =>
 (.opt (eqPairs (y5.1, y6.1, ())) fun y7 =>
 (.ret (y7.1, ())))))
 (.ret (false, ())))
 (.ret (false, ())))
 (.ret (false, ())))
 (.ret (false, ())))
noncomputable def runSame : (zA6 × (zA6 × Unit)) → Option (Bool × Unit) := fun x => (runSame_B x).run
abbrev runSame_ins : List (Bool × Pat) := [(false, .ty false zA7), (false, .ty false zA7)]
abbrev runSame_outs : List Pat := [.ty false .bool]
noncomputable abbrev runSame_f : Func := Try.f67
noncomputable abbrev runSame_P : Program := Try.prog
abbrev runSame_kp : List Nat := kpOf runSame_ins
abbrev runSame_kf : List Nat := kfOf runSame_ins
noncomputable def runSame_c : Ctx := { cx_eqPairs with base := 1024 }
set_option maxRecDepth 100000 in
theorem runSame_env : EnvFull runSame_P runSame_c := env_base (en_eqPairs) 1024
noncomputable def runSame_p : Par := { sh := fun _ => none, k := 0, lo := fun _ => none }
set_option maxRecDepth 100000 in
theorem runSame_eq (p0 : zA6) (p1 : zA6) : ocRun runSame_c runSame_p runSame_f runSame_ins runSame_outs (p0, p1, ()) = runSame_B (p0, p1, ()) := by kernel_rfl
set_option maxRecDepth 100000 in
theorem runSame_oc : OC runSame_P 67 runSame_ins runSame_outs runSame := OC.of_tree runSame_env Try.func67 (by kernel_rfl) (by kernel_rfl) (p := runSame_p) (fun g hg => LoOk.of (l := []) (by kernel_rfl) .nil) (fun (p0, p1, ()) => runSame_eq p0 p1)
noncomputable def cx_runSame : Ctx := addO cx_eqPairs 67 (ocOrc runSame_ins runSame_outs runSame)
theorem en_runSame : EnvFull Try.prog cx_runSame := env_add (en_eqPairs) runSame_oc.callOk
noncomputable def runDead_B : (zA6 × (zA10 × (Int × Unit))) → Br (Bool × Unit) := fun (p0, p1, p2, ()) =>
 (.opt (runElem (p0, ())) fun y5 =>
 (.cond (decide (y5.1 < 0))
 (.ret (false, ()))
 (.cond (decide (y5.1 ≥ (↑(List.length p1.1) : Int)))
 (.ret (false, ()))
 (.cond (decide (0 ≤ y5.1) && decide (y5.1 < (↑(List.length p1.1) : Int)))
 (.cond (decide (p2 < Prod.fst (Prod.snd (Prod.snd (Prod.snd (Prod.snd (List.getD p1.1 (Int.toNat y5.1) (ByteArray.empty, [], false, 0, 0, []))))))))
 (.ret (false, ()))
 (.cond p0.2.2.2.2.2
 (.ret (true, ()))
 (.opt (nextQ (p1, y5.1, ())) fun y6 =>
 (.ret (decide (y6.1 < 0), ())))))
 (.no)))))
noncomputable def runDead : (zA6 × (zA10 × (Int × Unit))) → Option (Bool × Unit) := fun x => (runDead_B x).run
abbrev runDead_ins : List (Bool × Pat) := [(false, .ty true zA7), (false, .ty true zA5), (false, .ty false (.int .i64))]
abbrev runDead_outs : List Pat := [.ty false .bool]
noncomputable abbrev runDead_f : Func := Try.f146
noncomputable abbrev runDead_P : Program := Try.prog
abbrev runDead_kp : List Nat := kpOf runDead_ins
abbrev runDead_kf : List Nat := kfOf runDead_ins
noncomputable def runDead_c : Ctx := { cx_runSame with base := 1024 }
set_option maxRecDepth 100000 in
theorem runDead_env : EnvFull runDead_P runDead_c := env_base (en_runSame) 1024
noncomputable def runDead_p : Par := { sh := fun _ => none, k := 0, lo := fun _ => none }
set_option maxRecDepth 100000 in
theorem runDead_eq (p0 : zA6) (p1 : zA10) (p2 : Int) : ocRun runDead_c runDead_p runDead_f runDead_ins runDead_outs (p0, p1, p2, ()) = runDead_B (p0, p1, p2, ()) := by kernel_rfl
set_option maxRecDepth 100000 in
theorem runDead_oc : OC runDead_P 146 runDead_ins runDead_outs runDead := OC.of_tree runDead_env Try.func146 (by kernel_rfl) (by kernel_rfl) (p := runDead_p) (fun g hg => LoOk.of (l := []) (by kernel_rfl) .nil) (fun (p0, p1, p2, ()) => runDead_eq p0 p1 p2)
noncomputable def cx_runDead : Ctx := addO cx_runSame 146 (ocOrc runDead_ins runDead_outs runDead)
theorem en_runDead : EnvFull Try.prog cx_runDead := env_add (en_runSame) runDead_oc.callOk
end Go.Proofs.Ytnhiplibodkciaa
