/- Contracts of functions. Printed by auto.py. The run of pairs, and what variables stand for by pairs: the same. Contracts of functions. Printed by auto.py. The context of law 23's other statement. -/
import Derived.Test.YtnhiplibodkciaaHa
import Derived.Test.YtnhiplibodkciaaF1a
import Derived.Test.YtnhiplibodkciaaHi
import Derived.Test.YtnhiplibodkciaaHg
import Derived.Test.YtnhiplibodkciaaF2a
namespace Go.Proofs.Ytnhiplibodkciaa
open Go.PI Go
noncomputable def find1_B : (zA2 × (Int × Unit)) → Br (Bool × Unit) := fun (p0, p1, ()) =>
 (.ret (p0.2.2.2.1 == p1, ()))
noncomputable def find1 : (zA2 × (Int × Unit)) → Option (Bool × Unit) := fun x => (find1_B x).run
abbrev find1_ins : List (Bool × Pat) := [(false, .ty true zA9), (false, .rf (.int .i64))]
abbrev find1_outs : List Pat := [.ty false .bool]
noncomputable abbrev find1_f : Func := Try.f172
noncomputable abbrev find1_P : Program := Try.prog
noncomputable def find1_c : Ctx := { cx_againR with base := 1024 }
set_option maxRecDepth 100000 in
theorem find1_env : EnvFull find1_P find1_c := env_base (en_againR) 1024
noncomputable def find1_p : Par := { sh := fun _ => none, k := 0, lo := fun _ => none }
set_option maxRecDepth 100000 in
theorem find1_eq (p0 : zA2) (p1 : Int) : ocRun find1_c find1_p find1_f find1_ins find1_outs (p0, p1, ()) = find1_B (p0, p1, ()) := by kernel_rfl
set_option maxRecDepth 100000 in
theorem find1_oc : OC find1_P 172 find1_ins find1_outs find1 := OC.of_tree find1_env Try.func172 (by kernel_rfl) (by kernel_rfl) (p := find1_p) (fun g hg => LoOk.of (l := []) (by kernel_rfl) .nil) (fun (p0, p1, ()) => find1_eq p0 p1)
noncomputable def cx_find1 : Ctx := addO cx_againR 172 (ocOrc find1_ins find1_outs find1)
theorem en_find1 : EnvFull Try.prog cx_find1 := env_add (en_againR) find1_oc.callOk
noncomputable def idxEvT_l0 : ((List zA2) × ((Int × Unit) × (Int × (Int × Unit)))) → Br (((List zA2) × ((Int × Unit) × (Int × (Int × Unit)))) ⊕ ((Int × Unit) ⊕ Unit)) := fun (s0_25, f1_26, s7_27, s8_28, ()) =>
 (.cond (decide (s8_28 < s7_27))
 (.cond (decide (0 ≤ s8_28) && decide (s8_28 < (↑(List.length s0_25) : Int)))
 (.opt (find1 (List.getD s0_25 (Int.toNat s8_28) (ByteArray.empty, ByteArray.empty, 0, 0, []), f1_26.1, ())) fun y29 =>
 (.cond y29.1
 (.ret (.inr (.inl (s8_28, ()))))
 (.ret (.inl (s0_25, (f1_26.1, ()), s7_27, IntKind.wrap .i64 (s8_28 + 1), ())))))
 (.no))
 (.ret (.inr (.inr (())))))
noncomputable def idxEvT_w0 : ((List zA2) × ((Int × Unit) × (Int × (Int × Unit)))) → Option ((Int × Unit) ⊕ Unit) := iterO fun x => (idxEvT_l0 x).run
noncomputable def idxEvT_B : ((List zA2) × (Int × Unit)) → Br (Int × Unit) := fun (p0, p1, ()) =>
 (.opt (idxEvT_w0 (p0, (p1, ()), (↑(List.length p0) : Int), 0, ())) fun z31 =>
 (.sum z31 (fun u32 =>
 (.ret (u32.1, ()))) (fun z33 =>
 (.ret (-1, ())))))
noncomputable def idxEvT : ((List zA2) × (Int × Unit)) → Option (Int × Unit) := fun x => (idxEvT_B x).run
abbrev idxEvT_ins : List (Bool × Pat) := [(false, .ty true (.sl zA9)), (false, .fn 172 (.rf (.int .i64)))]
abbrev idxEvT_outs : List Pat := [.ty false (.int .i64)]
noncomputable abbrev idxEvT_f : Func := Try.f99
noncomputable abbrev idxEvT_P : Program := Try.prog
abbrev idxEvT_kp : List Nat := kpOf idxEvT_ins
abbrev idxEvT_kf : List Nat := kfOf idxEvT_ins
noncomputable def idxEvT_c : Ctx := { cx_find1 with base := 1024 }
set_option maxRecDepth 100000 in
theorem idxEvT_env : EnvFull idxEvT_P idxEvT_c := env_base (en_find1) 1024
abbrev idxEvT_H0 : List Hole := [.slot 0 true (.sl zA9), .cap 1 172 [(.int .i64)], .slot 7 false (.int .i64), .slot 8 false (.int .i64)]
def idxEvT_S0 : Skel := ⟨19, [], []⟩
abbrev idxEvT_H0e0 : List Hole := [.slot 4 false (.int .i64)]
def idxEvT_S0e0 : Skel := ⟨19, [], []⟩
abbrev idxEvT_H0e1 : List Hole := []
def idxEvT_S0e1 : Skel := ⟨19, [], []⟩
def idxEvT_h0 : Exit → Shape
  | .normal => ⟨[(0, .as true (.sl zA9)), (1, .keep), (7, .as false (.int .i64)), (8, .as false (.int .i64))], [], []⟩
  | .ret => ⟨[(4, .as false (.int .i64))], [], []⟩
  | .exit 0 => ⟨[], [], []⟩
  | _ => ⟨[], [], []⟩
def idxEvT_e0 : ((Int × Unit) ⊕ Unit) → Exit × St
  | (.inl u) => (.ret, idxEvT_S0e0.fillK idxEvT_kf idxEvT_H0e0 u)
  | (.inr u) => (.exit 0, idxEvT_S0e1.fillK idxEvT_kf idxEvT_H0e1 u)
def idxEvT_t0 : ((Int × Unit) ⊕ Unit) → Br (Exit × St) := fun z => .sum z (fun u => .ret (.ret, idxEvT_S0e0.fillK idxEvT_kf idxEvT_H0e0 u)) (fun u => .ret (.exit 0, idxEvT_S0e1.fillK idxEvT_kf idxEvT_H0e1 u))
noncomputable def idxEvT_C0 : Code := loopAt 0 (bodyOf idxEvT_f)
noncomputable def idxEvT_o0 : St → Br (Exit × St) := loopF idxEvT_kp idxEvT_kf 1024 (idxEvT_h0 .normal) (idxEvT_S0.parseK idxEvT_kf idxEvT_H0) fun x => .opt (idxEvT_w0 x) idxEvT_t0
noncomputable def idxEvT_p : Par := { sh := fun _ => none, k := 0, lo := fun i => bif Nat.beq i 2 then some idxEvT_o0 else none }
set_option maxRecDepth 100000 in
theorem idxEvT_r0 (s0_25 : (List zA2)) (f1_26 : (Int × Unit)) (s7_27 : Int) (s8_28 : Int) : roundF idxEvT_kp idxEvT_kf idxEvT_c idxEvT_p idxEvT_h0 idxEvT_C0 (idxEvT_S0.fillK idxEvT_kf idxEvT_H0 (s0_25, f1_26, s7_27, s8_28, ())) = (idxEvT_l0 (s0_25, f1_26, s7_27, s8_28, ())).bind (loopLeaf (fun x => idxEvT_S0.fillK idxEvT_kf idxEvT_H0 x) idxEvT_e0) := by kernel_rfl
set_option maxRecDepth 100000 in
theorem idxEvT_ok0 (g : Cfg) (hg : ∀ n, Go.PI.look n g.m0 ≠ Option.none → n ∈ idxEvT_kp) : LoopOk idxEvT_P g idxEvT_o0 idxEvT_C0 := LoopOk.auto idxEvT_env hg idxEvT_p (LoOk.of (l := []) (by kernel_rfl) .nil) idxEvT_h0 (fun x => idxEvT_S0.fillK idxEvT_kf idxEvT_H0 x) (fun s x h => Skel.parseK_ok s x h) idxEvT_l0 idxEvT_e0 (fun z h => by rcases z with z | z <;> cases h) idxEvT_t0 (fun z => by rcases z with z | z <;> rfl) (fun (s0_25, f1_26, s7_27, s8_28, ()) => idxEvT_r0 s0_25 f1_26 s7_27 s8_28)
set_option maxRecDepth 100000 in
theorem idxEvT_eq (p0 : (List zA2)) (p1 : Int) : ocRun idxEvT_c idxEvT_p idxEvT_f idxEvT_ins idxEvT_outs (p0, p1, ()) = idxEvT_B (p0, p1, ()) := by kernel_rfl
set_option maxRecDepth 100000 in
theorem idxEvT_oc : OC idxEvT_P 99 idxEvT_ins idxEvT_outs idxEvT := OC.of_tree idxEvT_env Try.func99 (by kernel_rfl) (by kernel_rfl) (p := idxEvT_p) (fun g hg => LoOk.of (l := [idxEvT_C0]) (by kernel_rfl) (.cons (idxEvT_ok0 g hg) (by kernel_rfl) .nil)) (fun (p0, p1, ()) => idxEvT_eq p0 p1)
noncomputable def cx_idxEvT : Ctx := addO cx_find1 99 (ocOrc idxEvT_ins idxEvT_outs idxEvT)
theorem en_idxEvT : EnvFull Try.prog cx_idxEvT := env_add (en_find1) idxEvT_oc.callOk
noncomputable def findT_B : ((List zA2) × (Int × Unit)) → Br ((zA2 × Int) × Unit) := fun (p0, p1, ()) =>
 (.opt (idxEvT (p0, p1, ())) fun y3 =>
 (.cond (decide (y3.1 < 0))
 (.ret (((ByteArray.empty, ByteArray.empty, 0, 0, []), -1), ()))
 (.cond (decide (0 ≤ y3.1) && decide (y3.1 < (↑(List.length p0) : Int)))
 (.ret ((List.getD p0 (Int.toNat y3.1) (ByteArray.empty, ByteArray.empty, 0, 0, []), y3.1), ()))
 (.no))))
noncomputable def findT : ((List zA2) × (Int × Unit)) → Option ((zA2 × Int) × Unit) := fun x => (findT_B x).run
abbrev findT_ins : List (Bool × Pat) := [(false, .ty false (.sl zA9)), (false, .ty false (.int .i64))]
abbrev findT_outs : List Pat := [.ty false zA9, .ty false (.int .i64)]
noncomputable abbrev findT_f : Func := Try.f141
noncomputable abbrev findT_P : Program := Try.prog
noncomputable def findT_c : Ctx := { cx_idxEvT with base := 1024 }
set_option maxRecDepth 100000 in
theorem findT_env : EnvFull findT_P findT_c := env_base (en_idxEvT) 1024
noncomputable def findT_p : Par := { sh := fun _ => none, k := 0, lo := fun _ => none }
set_option maxRecDepth 100000 in
theorem findT_eq (p0 : (List zA2)) (p1 : Int) : ocRun findT_c findT_p findT_f findT_ins findT_outs (p0, p1, ()) = findT_B (p0, p1, ()) := by kernel_rfl
set_option maxRecDepth 100000 in
theorem findT_oc : OC findT_P 141 findT_ins findT_outs findT := OC.of_tree findT_env Try.func141 (by kernel_rfl) (by kernel_rfl) (p := findT_p) (fun g hg => LoOk.of (l := []) (by kernel_rfl) .nil) (fun (p0, p1, ()) => findT_eq p0 p1)
noncomputable def cx_findT : Ctx := addO cx_idxEvT 141 (ocOrc findT_ins findT_outs findT)
theorem en_findT : EnvFull Try.prog cx_findT := env_add (en_idxEvT) findT_oc.callOk
noncomputable def envT_l0 : ((List zA2) × (Int × ((List (Int × Int)) × (Int × (Int × (zA10 × (zA21 × Unit))))))) → Br (((List zA2) × (Int × ((List (Int × Int)) × (Int × (Int × (zA10 × (zA21 × Unit))))))) ⊕ (zA21 × Unit)) := fun (s1_39, s3_40, s14_41, s15_42, s16_43, v1028_44, r1724_45, ()) =>
 (.cond (decide (s16_43 < s15_42))
 (.cond (decide (0 ≤ s16_43) && decide (s16_43 < (↑(List.length s14_41) : Int)))
 (.cond (decide (Prod.fst (List.getD s14_41 (Int.toNat s16_43) (0, 0)) < 0))
 (.ret (.inl (s1_39, s3_40, s14_41, s15_42, IntKind.wrap .i64 (s16_43 + 1), v1028_44, r1724_45, ())))
 (.cond (decide (Prod.fst (List.getD s14_41 (Int.toNat s16_43) (0, 0)) ≥ (↑(List.length v1028_44.1) : Int)))
 (.ret (.inl (s1_39, s3_40, s14_41, s15_42, IntKind.wrap .i64 (s16_43 + 1), v1028_44, r1724_45, ())))
 (.cond (decide (Prod.fst (List.getD s14_41 (Int.toNat s16_43) (0, 0)) ≥ s3_40))
 (.ret (.inl (s1_39, s3_40, s14_41, s15_42, IntKind.wrap .i64 (s16_43 + 1), v1028_44, r1724_45, ())))
 (.cond (decide (0 ≤ Prod.fst (List.getD s14_41 (Int.toNat s16_43) (0, 0))) && decide (Prod.fst (List.getD s14_41 (Int.toNat s16_43) (0, 0)) < (↑(List.length v1028_44.1) : Int)))
 (.cond (Prod.fst (Prod.snd (Prod.snd (Prod.snd (Prod.snd (List.getD v1028_44.1 (Int.toNat (Prod.fst (List.getD s14_41 (Int.toNat s16_43) (0, 0)))) (ByteArray.empty, [], false, 0, 0, [])))))) != 1)
 (.ret (.inl (s1_39, s3_40, s14_41, s15_42, IntKind.wrap .i64 (s16_43 + 1), v1028_44, r1724_45, ())))
 (.opt (findT (s1_39, Prod.snd (List.getD s14_41 (Int.toNat s16_43) (0, 0)), ())) fun y46 =>
 (.cond (decide (y46.1.2 ≥ 0))
 (.cond (decide (0 ≤ Prod.fst (List.getD s14_41 (Int.toNat s16_43) (0, 0))) && decide (Prod.fst (List.getD s14_41 (Int.toNat s16_43) (0, 0)) < (↑(List.length v1028_44.1) : Int)))
 (.cond (decide ((List.length r1724_45 + List.length (List.set (List.replicate 1 (ByteArray.empty, ByteArray.empty, ByteArray.empty, 0, 0, [])) 0 (Prod.fst (List.getD v1028_44.1 (Int.toNat (Prod.fst (List.getD s14_41 (Int.toNat s16_43) (0, 0)))) (ByteArray.empty, [], false, 0, 0, [])), y46.1.1))) * 88 ≤ 140737488355328))
 (.ret (.inl (s1_39, s3_40, s14_41, s15_42, IntKind.wrap .i64 (s16_43 + 1), v1028_44, r1724_45 ++ List.set (List.replicate 1 (ByteArray.empty, ByteArray.empty, ByteArray.empty, 0, 0, [])) 0 (Prod.fst (List.getD v1028_44.1 (Int.toNat (Prod.fst (List.getD s14_41 (Int.toNat s16_43) (0, 0)))) (ByteArray.empty, [], false, 0, 0, [])), y46.1.1), ())))
 (.no))
 (.no))
 (.ret (.inl (s1_39, s3_40, s14_41, s15_42, IntKind.wrap .i64 (s16_43 + 1), v1028_44, r1724_45, ()))))))
 (.no)))))
 (.no))
 (.ret (.inr (r1724_45, ()))))
noncomputable def envT_w0 : ((List zA2) × (Int × ((List (Int × Int)) × (Int × (Int × (zA10 × (zA21 × Unit))))))) → Option (zA21 × Unit) := iterO fun x => (envT_l0 x).run
noncomputable def envT_B : (zA10 × ((List zA2) × ((List (Int × Int)) × (Int × Unit)))) → Br (zA21 × Unit) := fun (p0, p1, p2, p3, ()) =>
 (.opt (envT_w0 (p1, p3, p2, (↑(List.length p2) : Int), 0, p0, [], ())) fun z48 =>
 (.ret (z48.1, ())))
noncomputable def envT : (zA10 × ((List zA2) × ((List (Int × Int)) × (Int × Unit)))) → Option (zA21 × Unit) := fun x => (envT_B x).run
abbrev envT_ins : List (Bool × Pat) := [(false, .ty true zA5), (false, .ty false (.sl zA9)), (false, .ty true (.sl zA16)), (false, .ty false (.int .i64))]
abbrev envT_outs : List Pat := [.row 58 (.st (.pair .str zA9))]
noncomputable abbrev envT_f : Func := Try.f102
noncomputable abbrev envT_P : Program := Try.prog
abbrev envT_kp : List Nat := kpOf envT_ins
abbrev envT_kf : List Nat := kfOf envT_ins
noncomputable def envT_c : Ctx := { cx_findT with base := 1024 }
set_option maxRecDepth 100000 in
theorem envT_env : EnvFull envT_P envT_c := env_base (en_findT) 1024
abbrev envT_H0 : List Hole := [.slot 1 false (.sl zA9), .slot 3 false (.int .i64), .slot 14 true (.sl zA16), .slot 15 false (.int .i64), .slot 16 false (.int .i64), .tv 1028 true zA5, .ar 1724 false 58 (.st (.pair .str zA9))]
def envT_S0 : Skel := ⟨70, [(4, D.c (C.ref 1028 0 0)), (9, .c (.mfull 1724))], [(1028, []), (1724, [])]⟩
abbrev envT_H0e0 : List Hole := [.ar 1725 false 58 (.st (.pair .str zA9))]
def envT_S0e0 : Skel := ⟨70, [(9, .c (.mfull 1725))], [(1725, [])]⟩
def envT_h0 : Exit → Shape
  | .normal => ⟨[(1, .as false (.sl zA9)), (3, .as false (.int .i64)), (4, .keep), (9, .row 700 false 58 (.st (.pair .str zA9))), (14, .as true (.sl zA16)), (15, .as false (.int .i64)), (16, .as false (.int .i64))], [], [(4, true), (700, false)]⟩
  | .exit 0 => ⟨[(9, .row 701 false 58 (.st (.pair .str zA9)))], [], [(701, false)]⟩
  | _ => ⟨[], [], []⟩
def envT_e0 : (zA21 × Unit) → Exit × St
  | u => (.exit 0, envT_S0e0.fillK envT_kf envT_H0e0 u)
def envT_t0 : (zA21 × Unit) → Br (Exit × St) := fun u => .ret (.exit 0, envT_S0e0.fillK envT_kf envT_H0e0 u)
noncomputable def envT_C0 : Code := loopAt 0 (bodyOf envT_f)
noncomputable def envT_o0 : St → Br (Exit × St) := loopF envT_kp envT_kf 1024 (envT_h0 .normal) (envT_S0.parseK envT_kf envT_H0) fun x => .opt (envT_w0 x) envT_t0
noncomputable def envT_p : Par := { sh := fun _ => none, k := 0, lo := fun i => bif Nat.beq i 3 then some envT_o0 else none }
set_option maxRecDepth 100000 in
theorem envT_r0 (s1_39 : (List zA2)) (s3_40 : Int) (s14_41 : (List (Int × Int))) (s15_42 : Int) (s16_43 : Int) (v1028_44 : zA10) (r1724_45 : zA21) : roundF envT_kp envT_kf envT_c envT_p envT_h0 envT_C0 (envT_S0.fillK envT_kf envT_H0 (s1_39, s3_40, s14_41, s15_42, s16_43, v1028_44, r1724_45, ())) = (envT_l0 (s1_39, s3_40, s14_41, s15_42, s16_43, v1028_44, r1724_45, ())).bind (loopLeaf (fun x => envT_S0.fillK envT_kf envT_H0 x) envT_e0) := by kernel_rfl
set_option maxRecDepth 100000 in
theorem envT_ok0 (g : Cfg) (hg : ∀ n, Go.PI.look n g.m0 ≠ Option.none → n ∈ envT_kp) : LoopOk envT_P g envT_o0 envT_C0 := LoopOk.auto envT_env hg envT_p (LoOk.of (l := []) (by kernel_rfl) .nil) envT_h0 (fun x => envT_S0.fillK envT_kf envT_H0 x) (fun s x h => Skel.parseK_ok s x h) envT_l0 envT_e0 (fun _ h => by cases h) envT_t0 (fun _ => rfl) (fun (s1_39, s3_40, s14_41, s15_42, s16_43, v1028_44, r1724_45, ()) => envT_r0 s1_39 s3_40 s14_41 s15_42 s16_43 v1028_44 r1724_45)
set_option maxRecDepth 100000 in
theorem envT_eq (p0 : zA10) (p1 : (List zA2)) (p2 : (List (Int × Int))) (p3 : Int) : ocRun envT_c envT_p envT_f envT_ins envT_outs (p0, p1, p2, p3, ()) = envT_B (p0, p1, p2, p3, ()) := by kernel_rfl
set_option maxRecDepth 100000 in
theorem envT_oc : OC envT_P 102 envT_ins envT_outs envT := OC.of_tree envT_env Try.func102 (by kernel_rfl) (by kernel_rfl) (p := envT_p) (fun g hg => LoOk.of (l := [envT_C0]) (by kernel_rfl) (.cons (envT_ok0 g hg) (by kernel_rfl) .nil)) (fun (p0, p1, p2, p3, ()) => envT_eq p0 p1 p2 p3)
noncomputable def cx_envT : Ctx := addO cx_findT 102 (ocOrc envT_ins envT_outs envT)
theorem en_envT : EnvFull Try.prog cx_envT := env_add (en_findT) envT_oc.callOk
noncomputable def fitsT_B : ((Option zA11) × (zA10 × ((List zA2) × ((List (Int × Int)) × (Int × (zA2 × Unit)))))) → Br (Bool × Unit) := fun (p0, p1, p2, p3, p4, p5, ()) =>
 (.cond (decide (0 ≤ p4) && decide (p4 < (↑(List.length p1.1) : Int)))
 (.opt (hasStr (Prod.fst (Prod.snd (List.getD p1.1 (Int.toNat p4) (ByteArray.empty, [], false, 0, 0, []))), p5.1, ())) fun y9 =>
 (.cond (!y9.1)
 (.ret (false, ()))
 (.opt (envT (p1, p2, p3, p4, ())) fun y10 =>
 (.cond (decide ((List.length y10.1 + List.length (List.set (List.replicate 1 (ByteArray.empty, ByteArray.empty, ByteArray.empty, 0, 0, [])) 0 (Prod.fst (List.getD p1.1 (Int.toNat p4) (ByteArray.empty, [], false, 0, 0, [])), p5))) * 88 ≤ 140737488355328))
 (.opt (holdsF (p0, Prod.snd (Prod.snd (Prod.snd (Prod.snd (Prod.snd (List.getD p1.1 (Int.toNat p4) (ByteArray.empty, [], false, 0, 0, [])))))), y10.1 ++ List.set (List.replicate 1 (ByteArray.empty, ByteArray.empty, ByteArray.empty, 0, 0, [])) 0 (Prod.fst (List.getD p1.1 (Int.toNat p4) (ByteArray.empty, [], false, 0, 0, [])), p5), ())) fun y11 =>
 (.ret (y11.1, ())))
 (.no)))))
 (.no))
noncomputable def fitsT : ((Option zA11) × (zA10 × ((List zA2) × ((List (Int × Int)) × (Int × (zA2 × Unit)))))) → Option (Bool × Unit) := fun x => (fitsT_B x).run
abbrev fitsT_ins : List (Bool × Pat) := [(false, .ty true zA17), (false, .ty true zA5), (false, .ty false (.sl zA9)), (false, .ty true (.sl zA16)), (false, .ty false (.int .i64)), (false, .ty false zA9)]
abbrev fitsT_outs : List Pat := [.ty false .bool]
noncomputable abbrev fitsT_f : Func := Try.f54
noncomputable abbrev fitsT_P : Program := Try.prog
noncomputable def fitsT_c : Ctx := { cx_envT with base := 1024 }
set_option maxRecDepth 100000 in
theorem fitsT_env : EnvFull fitsT_P fitsT_c := env_base (en_envT) 1024
noncomputable def fitsT_p : Par := { sh := fun _ => none, k := 0, lo := fun _ => none }
set_option maxRecDepth 100000 in
theorem fitsT_eq (p0 : (Option zA11)) (p1 : zA10) (p2 : (List zA2)) (p3 : (List (Int × Int))) (p4 : Int) (p5 : zA2) : ocRun fitsT_c fitsT_p fitsT_f fitsT_ins fitsT_outs (p0, p1, p2, p3, p4, p5, ()) = fitsT_B (p0, p1, p2, p3, p4, p5, ()) := by kernel_rfl
set_option maxRecDepth 100000 in
theorem fitsT_oc : OC fitsT_P 54 fitsT_ins fitsT_outs fitsT := OC.of_tree fitsT_env Try.func54 (by kernel_rfl) (by kernel_rfl) (p := fitsT_p) (fun g hg => LoOk.of (l := []) (by kernel_rfl) .nil) (fun (p0, p1, p2, p3, p4, p5, ()) => fitsT_eq p0 p1 p2 p3 p4 p5)
noncomputable def cx_fitsT : Ctx := addO cx_envT 54 (ocOrc fitsT_ins fitsT_outs fitsT)
theorem en_fitsT : EnvFull Try.prog cx_fitsT := env_add (en_envT) fitsT_oc.callOk
end Go.Proofs.Ytnhiplibodkciaa

namespace Go.Proofs.Ytnhiplibodkciaa
open Go.PI Go

def evOf (x : List Evt) (s : Int) : Option Evt := x.find? fun e => e.2.2.2.1 == s
theorem idxEvA_at (x : List Evt) (hx : x.length ≤ 1000) (p : Prs) : ∃ i : Int, idxEvA (x, p, ()) = some (i, ()) ∧ ((i = -1 ∧ evOf x p.2 = none) ∨ (0 ≤ i ∧ i < x.length ∧ evOf x p.2 = some (x.getD i.toNat evZ))) := by
  unfold idxEvA idxEvA_B
  obtain ⟨z, hz, hq⟩ : ∃ z, idxEvA_w0 (x, (p, ()), (x.length : Int), 0, ()) = some z ∧ ((∃ i : Int, z = .inl (i, ()) ∧ 0 ≤ i ∧ i < x.length ∧ evOf x p.2 = some (x.getD i.toNat evZ)) ∨ (z = .inr () ∧ evOf x p.2 = none)) := by
    refine iterO_bt (step := idxEvA_l0) (fun y => ∃ i : Int, y = (x, (p, ()), (x.length : Int), i, ()) ∧ 0 ≤ i ∧ i ≤ x.length ∧ evOf x p.2 = evOf (x.drop i.toNat) p.2) (fun y => ((x.length : Int) - y.2.2.2.1).toNat) _ ?_ _ ⟨0, rfl, Int.le_refl 0, by omega, rfl⟩
    rintro y ⟨i, rfl, h0, h1, h2⟩
    unfold idxEvA_l0
    by_cases hi : i < (x.length : Int)
    · have hw : IntKind.wrap .i64 (i + 1) = i + 1 := Go.PI.wrap_small (by omega) (by omega)
      rw [drop_get x i evZ h0 hi] at h2
      refine BT.lt (decide_eq_true hi) (BT.yes (in2 h0 hi) (BT.opt ⟨_, rfl, BT.cond (fun hb => BT.ends (.inl ⟨i, rfl, h0, hi, ?_⟩)) (fun hb => BT.goes ⟨⟨i + 1, by rw [hw], by omega, by omega, ?_⟩, ?_⟩)⟩))
      · rw [h2]
        show List.find? _ _ = _
        rw [List.find?_cons, show ((x.getD i.toNat evZ).2.2.2.1 == p.2) = true from hb]
      · rw [h2]
        show List.find? _ _ = _
        rw [List.find?_cons, show ((x.getD i.toNat evZ).2.2.2.1 == p.2) = false from hb]
        rfl
      · dsimp only
        rw [hw]
        omega
    · refine BT.ge (decide_eq_false hi) (BT.ends (.inr ⟨rfl, ?_⟩))
      rw [h2, List.drop_eq_nil_of_le (by omega)]
      rfl
  simp only [Br.run, hz]
  rcases hq with ⟨i, rfl, k⟩ | ⟨rfl, k⟩
  · exact ⟨i, rfl, .inr k⟩
  · exact ⟨-1, rfl, .inl ⟨rfl, k⟩⟩
theorem idxEvT_at (x : List Evt) (hx : x.length ≤ 1000) (s : Int) : ∃ i : Int, idxEvT (x, s, ()) = some (i, ()) ∧ ((i = -1 ∧ evOf x s = none) ∨ (0 ≤ i ∧ i < x.length ∧ evOf x s = some (x.getD i.toNat evZ))) := by
  unfold idxEvT idxEvT_B
  obtain ⟨z, hz, hq⟩ : ∃ z, idxEvT_w0 (x, (s, ()), (x.length : Int), 0, ()) = some z ∧ ((∃ i : Int, z = .inl (i, ()) ∧ 0 ≤ i ∧ i < x.length ∧ evOf x s = some (x.getD i.toNat evZ)) ∨ (z = .inr () ∧ evOf x s = none)) := by
    refine iterO_bt (step := idxEvT_l0) (fun y => ∃ i : Int, y = (x, (s, ()), (x.length : Int), i, ()) ∧ 0 ≤ i ∧ i ≤ x.length ∧ evOf x s = evOf (x.drop i.toNat) s) (fun y => ((x.length : Int) - y.2.2.2.1).toNat) _ ?_ _ ⟨0, rfl, Int.le_refl 0, by omega, rfl⟩
    rintro y ⟨i, rfl, h0, h1, h2⟩
    unfold idxEvT_l0
    by_cases hi : i < (x.length : Int)
    · have hw : IntKind.wrap .i64 (i + 1) = i + 1 := Go.PI.wrap_small (by omega) (by omega)
      rw [drop_get x i evZ h0 hi] at h2
      refine BT.lt (decide_eq_true hi) (BT.yes (in2 h0 hi) (BT.opt ⟨_, rfl, BT.cond (fun hb => BT.ends (.inl ⟨i, rfl, h0, hi, ?_⟩)) (fun hb => BT.goes ⟨⟨i + 1, by rw [hw], by omega, by omega, ?_⟩, ?_⟩)⟩))
      · rw [h2]
        show List.find? _ _ = _
        rw [List.find?_cons, show ((x.getD i.toNat evZ).2.2.2.1 == s) = true from hb]
      · rw [h2]
        show List.find? _ _ = _
        rw [List.find?_cons, show ((x.getD i.toNat evZ).2.2.2.1 == s) = false from hb]
        rfl
      · dsimp only
        rw [hw]
        omega
    · refine BT.ge (decide_eq_false hi) (BT.ends (.inr ⟨rfl, ?_⟩))
      rw [h2, List.drop_eq_nil_of_le (by omega)]
      rfl
  simp only [Br.run, hz]
  rcases hq with ⟨i, rfl, k⟩ | ⟨rfl, k⟩
  · exact ⟨i, rfl, .inr k⟩
  · exact ⟨-1, rfl, .inl ⟨rfl, k⟩⟩

def againS (q : Qry) (x : List Evt) (r : RunT) (p : Prs) : RunT := match evOf x p.2 with
  | some e => withR r q 1 p.1 e
  | none => r
theorem againS_len (q : Qry) (x : List Evt) (r : RunT) (p : Prs) : (againS q x r p).2.1.length ≤ r.2.1.length + 1 ∧ (againS q x r p).2.2.1.length ≤ r.2.2.1.length + 1 := by
  unfold againS
  split
  · refine ⟨Nat.le_refl _, ?_⟩
    unfold withR
    dsimp only
    split
    · exact Nat.le_refl _
    · omega
  · omega
theorem againR_at (q : Qry) (x : List Evt) (hx : x.length ≤ 1000) (hE : ∀ e ∈ x, EvGood e) (m : List Prs) (hm : m.length ≤ 1000) : againR (q, 1, m, x, ()) = some ((1, (m.foldl (againS q x) run0).2), ()) := by
  unfold againR againR_B
  obtain ⟨z, hz, rfl⟩ : ∃ z, againR_w0 (1, x, m, (m.length : Int), 0, 0, 0, 0, 0, 0, false, q, run0, ()) = some z ∧ z = (1, 0, 0, 0, 0, 0, false, m.foldl (againS q x) run0, ()) := by
    refine iterO_bt (step := againR_l0) (fun y => ∃ (i : Int) (r : RunT), y = (1, x, m, (m.length : Int), i, 0, 0, 0, 0, 0, false, q, r, ()) ∧ 0 ≤ i ∧ i ≤ m.length ∧ (r.2.1.length : Int) ≤ i ∧ (r.2.2.1.length : Int) ≤ i ∧ m.foldl (againS q x) run0 = (m.drop i.toNat).foldl (againS q x) r) (fun y => ((m.length : Int) - y.2.2.2.2.1).toNat) _ ?_ _ ⟨0, run0, rfl, Int.le_refl 0, by omega, by simp, by simp, rfl⟩
    rintro y ⟨i, r, rfl, h0, h1, h2, h3, h4⟩
    unfold againR_l0
    by_cases hi : i < (m.length : Int)
    · have hw : IntKind.wrap .i64 (i + 1) = i + 1 := Go.PI.wrap_small (by omega) (by omega)
      rw [drop_get m i (0, 0) h0 hi] at h4
      obtain ⟨j, e1, e2⟩ := idxEvA_at x hx (m.getD i.toNat (0, 0))
      refine BT.lt (decide_eq_true hi) (BT.yes (in2 h0 hi) (BT.opt ⟨_, e1, ?_⟩))
      have hl := againS_len q x r (m.getD i.toNat (0, 0))
      rcases e2 with ⟨rfl, e2⟩ | ⟨j0, j1, e2⟩
      · have e : againS q x r (m.getD i.toNat (0, 0)) = r := by unfold againS; rw [e2]
        rw [List.foldl_cons, e] at h4
        refine BT.ge (decide_eq_false (show ¬ (-1 : Int) ≥ 0 by decide)) (BT.goes ⟨⟨i + 1, r, by rw [hw], by omega, by omega, by omega, by omega, h4⟩, ?_⟩)
        dsimp only
        rw [hw]
        omega
      · have e : againS q x r (m.getD i.toNat (0, 0)) = withR r q 1 (m.getD i.toNat (0, 0)).1 (x.getD j.toNat evZ) := by unfold againS; rw [e2]
        rw [List.foldl_cons, e] at h4
        rw [e] at hl
        have jlt : j.toNat < x.length := by omega
        have hg : EvGood (x.getD j.toNat evZ) := by rw [getD_in _ _ _ jlt]; exact hE _ (List.getElem_mem jlt)
        refine BT.lt (decide_eq_true (show j ≥ 0 from j0)) (BT.yes (in2 j0 j1) (BT.opt ⟨_, runWith_at r q 1 (m.getD i.toNat (0, 0)).1 (x.getD j.toNat evZ) (by omega) (by omega) (by have := hg.1; omega), BT.goes ⟨⟨i + 1, _, by rw [hw], by omega, by omega, by omega, by omega, h4⟩, ?_⟩⟩))
        dsimp only
        rw [hw]
        omega
    · refine BT.ge (decide_eq_false hi) (BT.ends ?_)
      rw [List.drop_eq_nil_of_le (by omega)] at h4
      rw [h4]
      rfl
  have hz' : againR_w0 (1, x, m, (m.length : Int), 0, 0, 0, 0, 0, 0, false, q, (0, [], [], 0, (0, 0, 0), false), ()) = _ := hz
  show Br.run (.opt (againR_w0 (1, x, m, (m.length : Int), 0, 0, 0, 0, 0, 0, false, q, (0, [], [], 0, (0, 0, 0), false), ())) _) = _
  rw [hz']
  rfl

def pick (q : Qry) (x : List Evt) (p : Prs) : Option Bnd := match evOf x p.2 with
  | some e => if 0 ≤ p.1 ∧ p.1 < q.1.length ∧ (q.1.getD p.1.toNat elmZ).2.2.2.2.1 = 1 then some ((q.1.getD p.1.toNat elmZ).1, e) else none
  | none => none
theorem again_env (q : Qry) (x : List Evt) : ∀ (m : List Prs) (r : RunT), (m.foldl (againS q x) r).2.2.1 = (m.filterMap (pick q x)).reverse ++ r.2.2.1
  | [], r => rfl
  | p :: m, r => by
    rw [List.foldl_cons, again_env q x m, List.filterMap_cons]
    unfold againS pick
    cases evOf x p.2 with
    | none => rfl
    | some e =>
      by_cases h : 0 ≤ p.1 ∧ p.1 < q.1.length ∧ (q.1.getD p.1.toNat elmZ).2.2.2.2.1 = 1
      · simp only [if_pos h, withR, List.reverse_cons, List.append_assoc, List.singleton_append]
      · simp only [if_neg h, withR]
theorem again_ge (q : Qry) (x : List Evt) (c : Int) : ∀ (m : List Prs) (r : RunT), c ≤ elemR r → (∀ p ∈ m, c ≤ p.1) → c ≤ elemR (m.foldl (againS q x) r)
  | [], r, h, _ => h
  | p :: m, r, h, k => by
    rw [List.foldl_cons]
    refine again_ge q x c m _ ?_ fun u hu => k u (List.mem_cons_of_mem _ hu)
    unfold againS
    split
    · exact k p (List.mem_cons_self ..)
    · exact h
theorem again_lt (q : Qry) (x : List Evt) (c : Int) : ∀ (m : List Prs) (r : RunT), elemR r < c → (∀ p ∈ m, p.1 < c) → elemR (m.foldl (againS q x) r) < c
  | [], r, h, _ => h
  | p :: m, r, h, k => by
    rw [List.foldl_cons]
    refine again_lt q x c m _ ?_ fun u hu => k u (List.mem_cons_of_mem _ hu)
    unfold againS
    split
    · exact k p (List.mem_cons_self ..)
    · exact h
theorem again_last (q : Qry) (x : List Evt) : ∀ (m : List Prs) (r : RunT), m.Pairwise (fun a b => a.1 ≤ b.1) → ∀ p ∈ m, (evOf x p.2).isSome = true → p.1 ≤ elemR (m.foldl (againS q x) r)
  | [], r, _, p, hp, _ => by simp at hp
  | u :: m, r, h, p, hp, hf => by
    obtain ⟨h1, h2⟩ := List.pairwise_cons.1 h
    rw [List.foldl_cons]
    rcases List.mem_cons.1 hp with rfl | hp
    · refine again_ge q x p.1 m _ ?_ h1
      unfold againS
      cases he : evOf x p.2 with
      | none => rw [he] at hf; cases hf
      | some e => exact Int.le_refl _
    · exact again_last q x m _ h2 p hp hf

def pickT (q : Qry) (x : List Evt) (a : Int) (p : Prs) : Option Bnd := if p.1 < a then pick q x p else none
theorem findT_at (x : List Evt) (hx : x.length ≤ 1000) (s : Int) : ∃ (e : Evt) (i : Int), findT (x, s, ()) = some ((e, i), ()) ∧ ((i = -1 ∧ evOf x s = none) ∨ (0 ≤ i ∧ i < x.length ∧ e = x.getD i.toNat evZ ∧ evOf x s = some e)) := by
  unfold findT findT_B
  obtain ⟨i, h1, h2⟩ := idxEvT_at x hx s
  rcases h2 with ⟨rfl, h2⟩ | ⟨i0, i1, h2⟩
  · simp only [Br.run, h1, show decide ((-1 : Int) < 0) = true from rfl, cond_true]
    exact ⟨_, _, rfl, .inl ⟨rfl, h2⟩⟩
  · have hn : ¬ i < 0 := by omega
    simp only [Br.run, h1, decide_eq_false hn, cond_false, decide_eq_true i0, decide_eq_true i1, Bool.and_self, cond_true]
    exact ⟨_, _, rfl, .inr ⟨i0, i1, rfl, h2⟩⟩

theorem envT_at (q : Qry) (x : List Evt) (hx : x.length ≤ 1000) (m : List Prs) (hm : m.length ≤ 1000) (a : Int) : envT (q, x, m, a, ()) = some (m.filterMap (pickT q x a), ()) := by
  unfold envT envT_B
  obtain ⟨z, hz, rfl⟩ : ∃ z, envT_w0 (x, a, m, (m.length : Int), 0, q, [], ()) = some z ∧ z = (m.filterMap (pickT q x a), ()) := by
    refine iterO_bt (step := envT_l0) (fun y => ∃ (i : Int) (acc : List Bnd), y = (x, a, m, (m.length : Int), i, q, acc, ()) ∧ 0 ≤ i ∧ i ≤ m.length ∧ (acc.length : Int) ≤ i ∧ m.filterMap (pickT q x a) = acc ++ (m.drop i.toNat).filterMap (pickT q x a)) (fun y => ((m.length : Int) - y.2.2.2.2.1).toNat) _ ?_ _ ⟨0, [], rfl, Int.le_refl 0, by omega, by simp, rfl⟩
    rintro y ⟨i, acc, rfl, h0, h1, h2, h3⟩
    unfold envT_l0
    by_cases hi : i < (m.length : Int)
    · have hw : IntKind.wrap .i64 (i + 1) = i + 1 := Go.PI.wrap_small (by omega) (by omega)
      rw [drop_get m i (0, 0) h0 hi, List.filterMap_cons] at h3
      refine BT.lt (decide_eq_true hi) (BT.yes (in2 h0 hi) ?_)
      generalize m.getD i.toNat (0, 0) = p at h3 ⊢
      have go : ∀ acc' : List Bnd, (acc'.length : Int) ≤ i + 1 → m.filterMap (pickT q x a) = acc' ++ (m.drop (i + 1).toNat).filterMap (pickT q x a) →
          BT (fun s : _ ⊕ _ => (∃ y, s = .inl y ∧ (∃ (i : Int) (acc : List Bnd), y = (x, a, m, (m.length : Int), i, q, acc, ()) ∧ 0 ≤ i ∧ i ≤ m.length ∧ (acc.length : Int) ≤ i ∧ m.filterMap (pickT q x a) = acc ++ (m.drop i.toNat).filterMap (pickT q x a)) ∧ ((m.length : Int) - y.2.2.2.2.1).toNat < ((m.length : Int) - i).toNat) ∨ ∃ z : List Bnd × Unit, s = .inr z ∧ z = (m.filterMap (pickT q x a), ()))
            (.ret (.inl (x, a, m, (m.length : Int), IntKind.wrap .i64 (i + 1), q, acc', ()))) := by
        intro acc' k1 k2
        refine BT.goes ⟨⟨i + 1, acc', by rw [hw], by omega, by omega, k1, k2⟩, ?_⟩
        dsimp only
        rw [hw]
        omega
      have skip : pickT q x a p = none → _ := fun h => go acc (by omega) (by rw [h3, h])
      refine BT.cond (fun c => skip ?_) (fun c1 => BT.cond (fun c => skip ?_) (fun c2 => BT.cond (fun c => skip ?_) (fun c3 => ?_)))
      · have c := of_decide_eq_true c
        unfold pickT pick
        split
        · split
          · exact if_neg (by omega)
          · rfl
        · rfl
      · have c := of_decide_eq_true c
        unfold pickT pick
        split
        · split
          · exact if_neg (by omega)
          · rfl
        · rfl
      · have c := of_decide_eq_true c
        unfold pickT
        exact if_neg (by omega)
      · have c1 := of_decide_eq_false c1
        have c2 := of_decide_eq_false c2
        have c3 := of_decide_eq_false c3
        have p0 : 0 ≤ p.1 := by omega
        have p1 : p.1 < (q.1.length : Int) := by omega
        refine BT.yes (in2 p0 p1) (BT.cond (fun c => skip ?_) (fun c4 => ?_))
        · have c : ¬ (q.1.getD p.1.toNat elmZ).2.2.2.2.1 = 1 := bne_iff_ne.1 c
          unfold pickT pick
          split
          · split
            · exact if_neg (by omega)
            · rfl
          · rfl
        · have c4 : (q.1.getD p.1.toNat elmZ).2.2.2.2.1 = 1 := by simpa using c4
          obtain ⟨e, j, f1, f2⟩ := findT_at x hx p.2
          refine BT.opt ⟨_, f1, ?_⟩
          rcases f2 with ⟨rfl, f2⟩ | ⟨j0, j1, -, f2⟩
          · refine BT.ge (decide_eq_false (show ¬ (-1 : Int) ≥ 0 by decide)) (skip ?_)
            unfold pickT pick
            rw [f2, ite_self]
          · refine BT.lt (decide_eq_true (show j ≥ 0 from j0)) (BT.yes (in2 p0 p1) (BT.yes (decide_eq_true ?_) (go _ ?_ ?_)))
            · show (acc.length + 1) * 88 ≤ 140737488355328
              omega
            · show (((acc ++ [_]).length : Nat) : Int) ≤ i + 1
              rw [List.length_append, List.length_singleton]; omega
            · have hp : pickT q x a p = some ((q.1.getD p.1.toNat elmZ).1, e) := by
                unfold pickT pick
                rw [f2, if_pos (by omega)]
                exact if_pos ⟨p0, p1, c4⟩
              rw [h3, hp]
              show acc ++ ((q.1.getD p.1.toNat elmZ).1, e) :: _ = (acc ++ [((q.1.getD p.1.toNat elmZ).1, e)]) ++ _
              rw [List.append_assoc]
              rfl
    · refine BT.ge (decide_eq_false hi) (BT.ends ?_)
      rw [List.drop_eq_nil_of_le (by omega)] at h3
      rw [h3]
      simp
  simp only [Br.run, hz]
end Go.Proofs.Ytnhiplibodkciaa

namespace Go.Proofs.Ytnhiplibodkciaa
open Go.PI Go
noncomputable def awake23_B : Unit → Br (Bool × Unit) := fun (()) =>
 (.opt (newS ([({ data := #[65] }, []), ({ data := #[66] }, [])], ())) fun y5 =>
 (.opt (runWith ((0, [], [], 0, (0, 0, 0), false), ([({ data := #[97] }, [{ data := #[65] }], false, 1, 1, []), ({ data := #[98] }, [{ data := #[66] }], true, 1, 1, []), ({ data := #[99] }, [{ data := #[65] }], false, 1, 1, [])], 0, 0), 1, 0, ({ data := #[65] }, ByteArray.empty, 0, 1, []), ())) fun y6 =>
 (.opt (blocksG (y5.1.1, ([({ data := #[97] }, [{ data := #[65] }], false, 1, 1, []), ({ data := #[98] }, [{ data := #[66] }], true, 1, 1, []), ({ data := #[99] }, [{ data := #[65] }], false, 1, 1, [])], 0, 0), y6.1, ({ data := #[66] }, ByteArray.empty, 0, 2, []), ())) fun y7 =>
 (.cond y7.1
 (.opt (blocksG (y5.1.1, ([({ data := #[97] }, [{ data := #[65] }], false, 1, 1, []), ({ data := #[98] }, [{ data := #[66] }], true, 1, 1, []), ({ data := #[99] }, [{ data := #[65] }], false, 1, 1, [])], 0, 0), y6.1, ({ data := #[65] }, ByteArray.empty, 0, 2, []), ())) fun y8 =>
 (.cond (!y8.1)
 (.opt (blocksG (y5.1.1, ([({ data := #[97] }, [{ data := #[65] }], false, 1, 1, []), ({ data := #[98] }, [{ data := #[66] }], true, 1, 1, []), ({ data := #[99] }, [{ data := #[65] }], false, 1, 1, [])], 0, 0), (0, [], [], 0, (0, 0, 0), false), ({ data := #[66] }, ByteArray.empty, 0, 0, []), ())) fun y9 =>
 (.ret (!y9.1, ())))
 (.ret (false, ()))))
 (.ret (false, ()))))))
noncomputable def awake23 : Unit → Option (Bool × Unit) := fun x => (awake23_B x).run
abbrev awake23_ins : List (Bool × Pat) := []
abbrev awake23_outs : List Pat := [.ty false .bool]
noncomputable abbrev awake23_f : Func := Try.f46
noncomputable abbrev awake23_P : Program := Try.prog
noncomputable def awake23_c : Ctx := { cxP3 with base := 1024 }
set_option maxRecDepth 100000 in
theorem awake23_env : EnvFull awake23_P awake23_c := env_base (enP3) 1024
noncomputable def awake23_p : Par := { sh := fun _ => none, k := 0, lo := fun _ => none }
set_option maxRecDepth 100000 in
theorem awake23_eq  : ocRun awake23_c awake23_p awake23_f awake23_ins awake23_outs (()) = awake23_B (()) := by kernel_rfl
set_option maxRecDepth 100000 in
theorem awake23_oc : OC awake23_P 46 awake23_ins awake23_outs awake23 := OC.of_tree awake23_env Try.func46 (by kernel_rfl) (by kernel_rfl) (p := awake23_p) (fun g hg => LoOk.of (l := []) (by kernel_rfl) .nil) (fun (()) => awake23_eq )
end Go.Proofs.Ytnhiplibodkciaa

namespace Go.Proofs.Ytnhiplibodkciaa
open Go.PI Go
noncomputable def cxF3 : Ctx := addO cx_fitsT 51 (ocOrc allM_ins allM_outs allM)
theorem enF3 : EnvFull Try.prog cxF3 := env_add en_fitsT allM_oc.callOk
noncomputable def cxF4 : Ctx := addO cxF3 46 (ocOrc awake23_ins awake23_outs awake23)
theorem enF4 : EnvFull Try.prog cxF4 := env_add enF3 awake23_oc.callOk
end Go.Proofs.Ytnhiplibodkciaa
