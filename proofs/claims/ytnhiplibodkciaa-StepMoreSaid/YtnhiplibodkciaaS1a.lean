/- Contracts of functions. Printed by auto.py. -/
import Derived.Test.YtnhiplibodkciaaAbA
import Derived.Test.YtnhiplibodkciaaS1c
namespace Go.Proofs.Ytnhiplibodkciaa
open Go.PI Go
noncomputable def cloneElem : ((List zA1) × Unit) → Option ((List zA1) × Unit) := fun x => bif bound (0 + List.length x.1) 88 then some (x.1, ()) else none
set_option maxRecDepth 100000 in
theorem cloneElem_oc : OC Try.prog 142 [(false, .ty false (.sl zA19))] [.row 98 zA19] cloneElem := clone_rowB (t := 84) (e := 98) (by_ := 24) (b2 := 88) (enS1) Try.func142 (by kernel_rfl) (by kernel_rfl) (by kernel_rfl) (by kernel_rfl) (by kernel_rfl) false rfl fun l => ⟨.c .bad, [1031, 1029, 1029], by kernel_rfl⟩
noncomputable def cx_cloneElem : Ctx := addO cxS1 142 (ocOrc [(false, .ty false (.sl zA19))] [.row 98 zA19] cloneElem)
theorem en_cloneElem : EnvFull Try.prog cx_cloneElem := env_add (enS1) cloneElem_oc.callOk
noncomputable def cloneStrs : ((List ByteArray) × Unit) → Option ((List ByteArray) × Unit) := fun x => bif bound (0 + List.length x.1) 16 then some (x.1, ()) else none
set_option maxRecDepth 100000 in
theorem cloneStrs_oc : OC Try.prog 143 [(false, .ty false (.sl .str))] [.ty false (.sl .str)] cloneStrs := OC.clone (k := true) (clone_specB (t := 96) (e := 9) (by_ := 24) (b2 := 16) (en_cloneElem) Try.func143 (by kernel_rfl) (by kernel_rfl) (by kernel_rfl) (by kernel_rfl) (by kernel_rfl) false rfl fun l => ⟨.c .bad, [1031, 1029, 1029], by kernel_rfl⟩)
noncomputable def cx_cloneStrs : Ctx := addO cx_cloneElem 143 (ocOrc [(false, .ty false (.sl .str))] [.ty false (.sl .str)] cloneStrs)
theorem en_cloneStrs : EnvFull Try.prog cx_cloneStrs := env_add (en_cloneElem) cloneStrs_oc.callOk
noncomputable def cloneNodes : ((List zA12) × Unit) → Option ((List zA12) × Unit) := fun x => bif bound (0 + List.length x.1) 80 then some (x.1, ()) else none
set_option maxRecDepth 100000 in
theorem cloneNodes_oc : OC Try.prog 144 [(false, .ty false (.sl zA13))] [.ty false (.sl zA13)] cloneNodes := OC.clone (k := true) (clone_specB (t := 60) (e := 74) (by_ := 24) (b2 := 80) (en_cloneStrs) Try.func144 (by kernel_rfl) (by kernel_rfl) (by kernel_rfl) (by kernel_rfl) (by kernel_rfl) false rfl fun l => ⟨.c .bad, [1031, 1029, 1029], by kernel_rfl⟩)
noncomputable def cx_cloneNodes : Ctx := addO cx_cloneStrs 144 (ocOrc [(false, .ty false (.sl zA13))] [.ty false (.sl zA13)] cloneNodes)
theorem en_cloneNodes : EnvFull Try.prog cx_cloneNodes := env_add (en_cloneStrs) cloneNodes_oc.callOk
noncomputable def nextQ_l0 : (Int × (Int × (zA10 × Unit))) → Br ((Int × (Int × (zA10 × Unit))) ⊕ ((Int × Unit) ⊕ Unit)) := fun (s1_19, s5_20, v1026_21, ()) =>
 (.cond (decide (s5_20 < (↑(List.length v1026_21.1) : Int)))
 (.cond (decide (s1_19 < (↑(List.length v1026_21.1) : Int)))
 (.cond (decide (0 ≤ s5_20) && decide (s5_20 < (↑(List.length v1026_21.1) : Int)))
 (.cond (!Prod.fst (Prod.snd (Prod.snd (List.getD v1026_21.1 (Int.toNat s5_20) (ByteArray.empty, [], false, 0, 0, [])))))
 (.ret (.inr (.inl (s5_20, ()))))
 (.ret (.inl (s1_19, IntKind.wrap .i64 (s5_20 + 1), v1026_21, ()))))
 (.no))
 (.ret (.inr (.inr (())))))
 (.ret (.inr (.inr (())))))
noncomputable def nextQ_w0 : (Int × (Int × (zA10 × Unit))) → Option ((Int × Unit) ⊕ Unit) := iterO fun x => (nextQ_l0 x).run
noncomputable def nextQ_B : (zA10 × (Int × Unit)) → Br (Int × Unit) := fun (p0, p1, ()) =>
 (.opt (nextQ_w0 (p1, if IntKind.wrap .i64 (p1 + 1) < 0 then 0 else IntKind.wrap .i64 (p1 + 1), p0, ())) fun z23 =>
 (.sum z23 (fun u24 =>
 (.ret (u24.1, ()))) (fun z25 =>
 (.ret (-1, ())))))
noncomputable def nextQ : (zA10 × (Int × Unit)) → Option (Int × Unit) := fun x => (nextQ_B x).run
abbrev nextQ_ins : List (Bool × Pat) := [(false, .ty true zA5), (false, .ty false (.int .i64))]
abbrev nextQ_outs : List Pat := [.ty false (.int .i64)]
noncomputable abbrev nextQ_f : Func := Try.f104
noncomputable abbrev nextQ_P : Program := Try.prog
abbrev nextQ_kp : List Nat := kpOf nextQ_ins
abbrev nextQ_kf : List Nat := kfOf nextQ_ins
noncomputable def nextQ_c : Ctx := { cx_cloneNodes with base := 1024 }
set_option maxRecDepth 100000 in
theorem nextQ_env : EnvFull nextQ_P nextQ_c := env_base (en_cloneNodes) 1024
abbrev nextQ_H0 : List Hole := [.slot 1 false (.int .i64), .slot 5 false (.int .i64), .tv 1026 true zA5]
def nextQ_S0 : Skel := ⟨31, [(2, D.c (C.ref 1026 0 0))], [(1026, [])]⟩
abbrev nextQ_H0e0 : List Hole := [.slot 4 false (.int .i64)]
def nextQ_S0e0 : Skel := ⟨31, [], []⟩
abbrev nextQ_H0e1 : List Hole := []
def nextQ_S0e1 : Skel := ⟨31, [], []⟩
def nextQ_h0 : Exit → Shape
  | .normal => ⟨[(1, .as false (.int .i64)), (2, .keep), (5, .as false (.int .i64))], [], [(2, true)]⟩
  | .ret => ⟨[(4, .as false (.int .i64))], [], []⟩
  | .exit 0 => ⟨[], [], []⟩
  | _ => ⟨[], [], []⟩
def nextQ_e0 : ((Int × Unit) ⊕ Unit) → Exit × St
  | (.inl u) => (.ret, nextQ_S0e0.fillK nextQ_kf nextQ_H0e0 u)
  | (.inr u) => (.exit 0, nextQ_S0e1.fillK nextQ_kf nextQ_H0e1 u)
def nextQ_t0 : ((Int × Unit) ⊕ Unit) → Br (Exit × St) := fun z => .sum z (fun u => .ret (.ret, nextQ_S0e0.fillK nextQ_kf nextQ_H0e0 u)) (fun u => .ret (.exit 0, nextQ_S0e1.fillK nextQ_kf nextQ_H0e1 u))
noncomputable def nextQ_C0 : Code := loopAt 0 (bodyOf nextQ_f)
noncomputable def nextQ_o0 : St → Br (Exit × St) := loopF nextQ_kp nextQ_kf 1024 (nextQ_h0 .normal) (nextQ_S0.parseK nextQ_kf nextQ_H0) fun x => .opt (nextQ_w0 x) nextQ_t0
noncomputable def nextQ_p : Par := { sh := fun _ => none, k := 0, lo := fun i => bif Nat.beq i 2 then some nextQ_o0 else none }
set_option maxRecDepth 100000 in
theorem nextQ_r0 (s1_19 : Int) (s5_20 : Int) (v1026_21 : zA10) : roundF nextQ_kp nextQ_kf nextQ_c nextQ_p nextQ_h0 nextQ_C0 (nextQ_S0.fillK nextQ_kf nextQ_H0 (s1_19, s5_20, v1026_21, ())) = (nextQ_l0 (s1_19, s5_20, v1026_21, ())).bind (loopLeaf (fun x => nextQ_S0.fillK nextQ_kf nextQ_H0 x) nextQ_e0) := by kernel_rfl
set_option maxRecDepth 100000 in
theorem nextQ_ok0 (g : Cfg) (hg : ∀ n, Go.PI.look n g.m0 ≠ Option.none → n ∈ nextQ_kp) : LoopOk nextQ_P g nextQ_o0 nextQ_C0 := LoopOk.auto nextQ_env hg nextQ_p (LoOk.of (l := []) (by kernel_rfl) .nil) nextQ_h0 (fun x => nextQ_S0.fillK nextQ_kf nextQ_H0 x) (fun s x h => Skel.parseK_ok s x h) nextQ_l0 nextQ_e0 (fun z h => by rcases z with z | z <;> cases h) nextQ_t0 (fun z => by rcases z with z | z <;> rfl) (fun (s1_19, s5_20, v1026_21, ()) => nextQ_r0 s1_19 s5_20 v1026_21)
set_option maxRecDepth 100000 in
theorem nextQ_eq (p0 : zA10) (p1 : Int) : ocRun nextQ_c nextQ_p nextQ_f nextQ_ins nextQ_outs (p0, p1, ()) = nextQ_B (p0, p1, ()) := by kernel_rfl
set_option maxRecDepth 100000 in
theorem nextQ_oc : OC nextQ_P 104 nextQ_ins nextQ_outs nextQ := OC.of_tree nextQ_env Try.func104 (by kernel_rfl) (by kernel_rfl) (p := nextQ_p) (fun g hg => LoOk.of (l := [nextQ_C0]) (by kernel_rfl) (.cons (nextQ_ok0 g hg) (by kernel_rfl) .nil)) (fun (p0, p1, ()) => nextQ_eq p0 p1)
noncomputable def cx_nextQ : Ctx := addO cx_cloneNodes 104 (ocOrc nextQ_ins nextQ_outs nextQ)
theorem en_nextQ : EnvFull Try.prog cx_nextQ := env_add (en_cloneNodes) nextQ_oc.callOk
noncomputable def lastQ_l0 : (Int × (zA10 × Unit)) → Br ((Int × (zA10 × Unit)) ⊕ ((Int × Unit) ⊕ Unit)) := fun (s3_15, v1025_16, ()) =>
 (.cond (decide (s3_15 ≥ 0))
 (.cond (decide (0 ≤ s3_15) && decide (s3_15 < (↑(List.length v1025_16.1) : Int)))
 (.cond (!Prod.fst (Prod.snd (Prod.snd (List.getD v1025_16.1 (Int.toNat s3_15) (ByteArray.empty, [], false, 0, 0, [])))))
 (.ret (.inr (.inl (s3_15, ()))))
 (.ret (.inl (IntKind.wrap .i64 (s3_15 - 1), v1025_16, ()))))
 (.no))
 (.ret (.inr (.inr (())))))
noncomputable def lastQ_w0 : (Int × (zA10 × Unit)) → Option ((Int × Unit) ⊕ Unit) := iterO fun x => (lastQ_l0 x).run
noncomputable def lastQ_B : (zA10 × Unit) → Br (Int × Unit) := fun (p0, ()) =>
 (.opt (lastQ_w0 (IntKind.wrap .i64 ((↑(List.length p0.1) : Int) - 1), p0, ())) fun z18 =>
 (.sum z18 (fun u19 =>
 (.ret (u19.1, ()))) (fun z20 =>
 (.ret (-1, ())))))
noncomputable def lastQ : (zA10 × Unit) → Option (Int × Unit) := fun x => (lastQ_B x).run
abbrev lastQ_ins : List (Bool × Pat) := [(false, .ty true zA5)]
abbrev lastQ_outs : List Pat := [.ty false (.int .i64)]
noncomputable abbrev lastQ_f : Func := Try.f173
noncomputable abbrev lastQ_P : Program := Try.prog
abbrev lastQ_kp : List Nat := kpOf lastQ_ins
abbrev lastQ_kf : List Nat := kfOf lastQ_ins
noncomputable def lastQ_c : Ctx := { cx_nextQ with base := 1024 }
set_option maxRecDepth 100000 in
theorem lastQ_env : EnvFull lastQ_P lastQ_c := env_base (en_nextQ) 1024
abbrev lastQ_H0 : List Hole := [.slot 3 false (.int .i64), .tv 1025 true zA5]
def lastQ_S0 : Skel := ⟨20, [(1, D.c (C.ref 1025 0 0))], [(1025, [])]⟩
abbrev lastQ_H0e0 : List Hole := [.slot 2 false (.int .i64)]
def lastQ_S0e0 : Skel := ⟨20, [], []⟩
abbrev lastQ_H0e1 : List Hole := []
def lastQ_S0e1 : Skel := ⟨20, [], []⟩
def lastQ_h0 : Exit → Shape
  | .normal => ⟨[(1, .keep), (3, .as false (.int .i64))], [], [(1, true)]⟩
  | .ret => ⟨[(2, .as false (.int .i64))], [], []⟩
  | .exit 0 => ⟨[], [], []⟩
  | _ => ⟨[], [], []⟩
def lastQ_e0 : ((Int × Unit) ⊕ Unit) → Exit × St
  | (.inl u) => (.ret, lastQ_S0e0.fillK lastQ_kf lastQ_H0e0 u)
  | (.inr u) => (.exit 0, lastQ_S0e1.fillK lastQ_kf lastQ_H0e1 u)
def lastQ_t0 : ((Int × Unit) ⊕ Unit) → Br (Exit × St) := fun z => .sum z (fun u => .ret (.ret, lastQ_S0e0.fillK lastQ_kf lastQ_H0e0 u)) (fun u => .ret (.exit 0, lastQ_S0e1.fillK lastQ_kf lastQ_H0e1 u))
noncomputable def lastQ_C0 : Code := loopAt 0 (bodyOf lastQ_f)
noncomputable def lastQ_o0 : St → Br (Exit × St) := loopF lastQ_kp lastQ_kf 1024 (lastQ_h0 .normal) (lastQ_S0.parseK lastQ_kf lastQ_H0) fun x => .opt (lastQ_w0 x) lastQ_t0
noncomputable def lastQ_p : Par := { sh := fun _ => none, k := 0, lo := fun i => bif Nat.beq i 2 then some lastQ_o0 else none }
set_option maxRecDepth 100000 in
theorem lastQ_r0 (s3_15 : Int) (v1025_16 : zA10) : roundF lastQ_kp lastQ_kf lastQ_c lastQ_p lastQ_h0 lastQ_C0 (lastQ_S0.fillK lastQ_kf lastQ_H0 (s3_15, v1025_16, ())) = (lastQ_l0 (s3_15, v1025_16, ())).bind (loopLeaf (fun x => lastQ_S0.fillK lastQ_kf lastQ_H0 x) lastQ_e0) := by kernel_rfl
set_option maxRecDepth 100000 in
theorem lastQ_ok0 (g : Cfg) (hg : ∀ n, Go.PI.look n g.m0 ≠ Option.none → n ∈ lastQ_kp) : LoopOk lastQ_P g lastQ_o0 lastQ_C0 := LoopOk.auto lastQ_env hg lastQ_p (LoOk.of (l := []) (by kernel_rfl) .nil) lastQ_h0 (fun x => lastQ_S0.fillK lastQ_kf lastQ_H0 x) (fun s x h => Skel.parseK_ok s x h) lastQ_l0 lastQ_e0 (fun z h => by rcases z with z | z <;> cases h) lastQ_t0 (fun z => by rcases z with z | z <;> rfl) (fun (s3_15, v1025_16, ()) => lastQ_r0 s3_15 v1025_16)
set_option maxRecDepth 100000 in
theorem lastQ_eq (p0 : zA10) : ocRun lastQ_c lastQ_p lastQ_f lastQ_ins lastQ_outs (p0, ()) = lastQ_B (p0, ()) := by kernel_rfl
set_option maxRecDepth 100000 in
theorem lastQ_oc : OC lastQ_P 173 lastQ_ins lastQ_outs lastQ := OC.of_tree lastQ_env Try.func173 (by kernel_rfl) (by kernel_rfl) (p := lastQ_p) (fun g hg => LoOk.of (l := [lastQ_C0]) (by kernel_rfl) (.cons (lastQ_ok0 g hg) (by kernel_rfl) .nil)) (fun (p0, ()) => lastQ_eq p0)
noncomputable def cx_lastQ : Ctx := addO cx_nextQ 173 (ocOrc lastQ_ins lastQ_outs lastQ)
theorem en_lastQ : EnvFull Try.prog cx_lastQ := env_add (en_nextQ) lastQ_oc.callOk
noncomputable def copyQ_l0 : (Int × (Int × zA30)) → Br ((Int × (Int × zA30)) ⊕ zA30) := fun (s11_35, s12_36, c1025_1_37, c1025_2_38, c1026_1_39, c1026_2_40, r1057668_41, ()) =>
 (.cond (decide (s12_36 < s11_35))
 (.cond (decide (0 ≤ s12_36) && decide (s12_36 < (↑(List.length r1057668_41) : Int)))
 (.opt (cloneStrs (Prod.fst (Prod.snd (List.getD r1057668_41 (Int.toNat s12_36) (ByteArray.empty, [], false, 0, 0, []))), ())) fun y42 =>
 (.opt (cloneNodes (Prod.snd (Prod.snd (Prod.snd (Prod.snd (Prod.snd (List.getD r1057668_41 (Int.toNat s12_36) (ByteArray.empty, [], false, 0, 0, [])))))), ())) fun y43 =>
 (.ret (.inl (s11_35, IntKind.wrap .i64 (s12_36 + 1), c1025_1_37, c1025_2_38, c1026_1_39, c1026_2_40, List.set (List.set r1057668_41 (Int.toNat s12_36) (Prod.fst (List.getD r1057668_41 (Int.toNat s12_36) (ByteArray.empty, [], false, 0, 0, [])), y42.1, Prod.snd (Prod.snd (List.getD r1057668_41 (Int.toNat s12_36) (ByteArray.empty, [], false, 0, 0, []))))) (Int.toNat s12_36) (Prod.fst (List.getD (List.set r1057668_41 (Int.toNat s12_36) (Prod.fst (List.getD r1057668_41 (Int.toNat s12_36) (ByteArray.empty, [], false, 0, 0, [])), y42.1, Prod.snd (Prod.snd (List.getD r1057668_41 (Int.toNat s12_36) (ByteArray.empty, [], false, 0, 0, []))))) (Int.toNat s12_36) (ByteArray.empty, [], false, 0, 0, [])), Prod.fst (Prod.snd (List.getD (List.set r1057668_41 (Int.toNat s12_36) (Prod.fst (List.getD r1057668_41 (Int.toNat s12_36) (ByteArray.empty, [], false, 0, 0, [])), y42.1, Prod.snd (Prod.snd (List.getD r1057668_41 (Int.toNat s12_36) (ByteArray.empty, [], false, 0, 0, []))))) (Int.toNat s12_36) (ByteArray.empty, [], false, 0, 0, []))), Prod.fst (Prod.snd (Prod.snd (List.getD (List.set r1057668_41 (Int.toNat s12_36) (Prod.fst (List.getD r1057668_41 (Int.toNat s12_36) (ByteArray.empty, [], false, 0, 0, [])), y42.1, Prod.snd (Prod.snd (List.getD r1057668_41 (Int.toNat s12_36) (ByteArray.empty, [], false, 0, 0, []))))) (Int.toNat s12_36) (ByteArray.empty, [], false, 0, 0, [])))), Prod.fst (Prod.snd (Prod.snd (Prod.snd (List.getD (List.set r1057668_41 (Int.toNat s12_36) (Prod.fst (List.getD r1057668_41 (Int.toNat s12_36) (ByteArray.empty, [], false, 0, 0, [])), y42.1, Prod.snd (Prod.snd (List.getD r1057668_41 (Int.toNat s12_36) (ByteArray.empty, [], false, 0, 0, []))))) (Int.toNat s12_36) (ByteArray.empty, [], false, 0, 0, []))))), Prod.fst (Prod.snd (Prod.snd (Prod.snd (Prod.snd (List.getD (List.set r1057668_41 (Int.toNat s12_36) (Prod.fst (List.getD r1057668_41 (Int.toNat s12_36) (ByteArray.empty, [], false, 0, 0, [])), y42.1, Prod.snd (Prod.snd (List.getD r1057668_41 (Int.toNat s12_36) (ByteArray.empty, [], false, 0, 0, []))))) (Int.toNat s12_36) (ByteArray.empty, [], false, 0, 0, [])))))), y43.1), ())))))
 (.no))
 (.ret (.inr (c1025_1_37, c1025_2_38, c1026_1_39, c1026_2_40, r1057668_41, ()))))
noncomputable def copyQ_w0 : (Int × (Int × zA30)) → Option zA30 := iterO fun x => (copyQ_l0 x).run
noncomputable def copyQ_B : (zA10 × Unit) → Br (zA10 × Unit) := fun (p0, ()) =>
 (.opt (cloneElem (p0.1, ())) fun y34 =>
 (.opt (copyQ_w0 ((↑(List.length y34.1) : Int), 0, p0.2.1, p0.2.2, 0, 0, y34.1, ())) fun z45 =>
 (.ret ((z45.2.2.2.2.1, z45.1, z45.2.1), ()))))
noncomputable def copyQ : (zA10 × Unit) → Option (zA10 × Unit) := fun x => (copyQ_B x).run
abbrev copyQ_ins : List (Bool × Pat) := [(false, .ty false zA5)]
abbrev copyQ_outs : List Pat := [.ty false zA5]
noncomputable abbrev copyQ_f : Func := Try.f103
noncomputable abbrev copyQ_P : Program := Try.prog
abbrev copyQ_kp : List Nat := kpOf copyQ_ins
abbrev copyQ_kf : List Nat := kfOf copyQ_ins
noncomputable def copyQ_c : Ctx := { cx_lastQ with base := 1024 }
set_option maxRecDepth 100000 in
theorem copyQ_env : EnvFull copyQ_P copyQ_c := env_base (en_lastQ) 1024
abbrev copyQ_H0 : List Hole := [.slot 11 false (.int .i64), .slot 12 false (.int .i64), .cell 1025 1 false (.int .i64), .cell 1025 2 false (.int .i64), .cell 1026 1 false (.int .i64), .cell 1026 2 false (.int .i64), .ar 1057668 false 98 zA19]
def copyQ_S0 : Skel := ⟨37, [(1, D.c (C.ref 1025 0 0)), (2, D.c (C.ref 1026 0 0))], [(1025, [C.mfull 1057668, .bad, .bad]), (1026, [C.nils, .bad, .bad]), (1057668, [])]⟩
abbrev copyQ_H0e0 : List Hole := [.cell 1025 1 false (.int .i64), .cell 1025 2 false (.int .i64), .cell 1026 1 false (.int .i64), .cell 1026 2 false (.int .i64), .ar 1057668 false 98 zA19]
def copyQ_S0e0 : Skel := ⟨37, [(1, D.c (C.ref 1025 0 0)), (2, D.c (C.ref 1026 0 0))], [(1025, [C.mfull 1057668, .bad, .bad]), (1026, [C.nils, .bad, .bad]), (1057668, [])]⟩
def copyQ_h0 : Exit → Shape
  | .normal => ⟨[(1, .keep), (2, .keep), (11, .as false (.int .i64)), (12, .as false (.int .i64))], [(1, 1, .as false (.int .i64)), (1, 2, .as false (.int .i64)), (2, 1, .as false (.int .i64)), (2, 2, .as false (.int .i64))], [(1, false), (2, false), (1056644, false)]⟩
  | .exit 0 => ⟨[(1, .keep), (2, .keep)], [(1, 1, .as false (.int .i64)), (1, 2, .as false (.int .i64)), (2, 1, .as false (.int .i64)), (2, 2, .as false (.int .i64))], [(1, false), (2, false), (1056644, false)]⟩
  | _ => ⟨[], [], []⟩
def copyQ_e0 : zA30 → Exit × St
  | u => (.exit 0, copyQ_S0e0.fillK copyQ_kf copyQ_H0e0 u)
def copyQ_t0 : zA30 → Br (Exit × St) := fun u => .ret (.exit 0, copyQ_S0e0.fillK copyQ_kf copyQ_H0e0 u)
noncomputable def copyQ_C0 : Code := loopAt 0 (bodyOf copyQ_f)
noncomputable def copyQ_o0 : St → Br (Exit × St) := loopF copyQ_kp copyQ_kf 1024 (copyQ_h0 .normal) (copyQ_S0.parseK copyQ_kf copyQ_H0) fun x => .opt (copyQ_w0 x) copyQ_t0
noncomputable def copyQ_p : Par := { sh := fun _ => none, k := 0, lo := fun i => bif Nat.beq i 3 then some copyQ_o0 else none }
set_option maxRecDepth 100000 in
theorem copyQ_r0 (s11_35 : Int) (s12_36 : Int) (c1025_1_37 : Int) (c1025_2_38 : Int) (c1026_1_39 : Int) (c1026_2_40 : Int) (r1057668_41 : (List zA1)) : roundF copyQ_kp copyQ_kf copyQ_c copyQ_p copyQ_h0 copyQ_C0 (copyQ_S0.fillK copyQ_kf copyQ_H0 (s11_35, s12_36, c1025_1_37, c1025_2_38, c1026_1_39, c1026_2_40, r1057668_41, ())) = (copyQ_l0 (s11_35, s12_36, c1025_1_37, c1025_2_38, c1026_1_39, c1026_2_40, r1057668_41, ())).bind (loopLeaf (fun x => copyQ_S0.fillK copyQ_kf copyQ_H0 x) copyQ_e0) := by kernel_rfl
set_option maxRecDepth 100000 in
theorem copyQ_ok0 (g : Cfg) (hg : ∀ n, Go.PI.look n g.m0 ≠ Option.none → n ∈ copyQ_kp) : LoopOk copyQ_P g copyQ_o0 copyQ_C0 := LoopOk.auto copyQ_env hg copyQ_p (LoOk.of (l := []) (by kernel_rfl) .nil) copyQ_h0 (fun x => copyQ_S0.fillK copyQ_kf copyQ_H0 x) (fun s x h => Skel.parseK_ok s x h) copyQ_l0 copyQ_e0 (fun _ h => by cases h) copyQ_t0 (fun _ => rfl) (fun (s11_35, s12_36, c1025_1_37, c1025_2_38, c1026_1_39, c1026_2_40, r1057668_41, ()) => copyQ_r0 s11_35 s12_36 c1025_1_37 c1025_2_38 c1026_1_39 c1026_2_40 r1057668_41)
set_option maxRecDepth 100000 in
theorem copyQ_eq (p0 : zA10) : ocRun copyQ_c copyQ_p copyQ_f copyQ_ins copyQ_outs (p0, ()) = copyQ_B (p0, ()) := by kernel_rfl
set_option maxRecDepth 100000 in
theorem copyQ_oc : OC copyQ_P 103 copyQ_ins copyQ_outs copyQ := OC.of_tree copyQ_env Try.func103 (by kernel_rfl) (by kernel_rfl) (p := copyQ_p) (fun g hg => LoOk.of (l := [copyQ_C0]) (by kernel_rfl) (.cons (copyQ_ok0 g hg) (by kernel_rfl) .nil)) (fun (p0, ()) => copyQ_eq p0)
noncomputable def cx_copyQ : Ctx := addO cx_lastQ 103 (ocOrc copyQ_ins copyQ_outs copyQ)
theorem en_copyQ : EnvFull Try.prog cx_copyQ := env_add (en_lastQ) copyQ_oc.callOk
end Go.Proofs.Ytnhiplibodkciaa
