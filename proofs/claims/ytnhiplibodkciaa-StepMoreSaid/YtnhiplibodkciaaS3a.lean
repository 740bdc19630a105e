/- Contracts of functions. Printed by auto.py. -/
import Derived.Test.YtnhiplibodkciaaAbA
import Derived.Test.YtnhiplibodkciaaS2a
namespace Go.Proofs.Ytnhiplibodkciaa
open Go.PI Go
noncomputable def newM_B : ((Option zA11) × (zA10 × Unit)) → Br (zA15 × Unit) := fun (p0, p1, ()) =>
 (.opt (newN (p1, ())) fun y4 =>
 (.opt (queryN (y4.1, ())) fun y5 =>
 (.ret (some (p0, y5.1, y4.1), ()))))
noncomputable def newM : ((Option zA11) × (zA10 × Unit)) → Option (zA15 × Unit) := fun x => (newM_B x).run
abbrev newM_ins : List (Bool × Pat) := [(false, .ty false zA17), (false, .ty false zA5)]
abbrev newM_outs : List Pat := [.ty false zA26]
noncomputable abbrev newM_f : Func := Try.f56
noncomputable abbrev newM_P : Program := Try.prog
abbrev newM_kp : List Nat := kpOf newM_ins
abbrev newM_kf : List Nat := kfOf newM_ins
noncomputable def newM_c : Ctx := { cx_runDead with base := 1024 }
set_option maxRecDepth 100000 in
theorem newM_env : EnvFull newM_P newM_c := env_base (en_runDead) 1024
noncomputable def newM_p : Par := { sh := fun _ => none, k := 0, lo := fun _ => none }
set_option maxRecDepth 100000 in
theorem newM_eq (p0 : (Option zA11)) (p1 : zA10) : ocRun newM_c newM_p newM_f newM_ins newM_outs (p0, p1, ()) = newM_B (p0, p1, ()) := by kernel_rfl
set_option maxRecDepth 100000 in
theorem newM_oc : OC newM_P 56 newM_ins newM_outs newM := OC.of_tree newM_env Try.func56 (by kernel_rfl) (by kernel_rfl) (p := newM_p) (fun g hg => LoOk.of (l := []) (by kernel_rfl) .nil) (fun (p0, p1, ()) => newM_eq p0 p1)
noncomputable def cx_newM : Ctx := addO cx_runDead 56 (ocOrc newM_ins newM_outs newM)
theorem en_newM : EnvFull Try.prog cx_newM := env_add (en_runDead) newM_oc.callOk
noncomputable def queryM_B : (zA15 × Unit) → Br (zA10 × Unit) := fun (p0, ()) =>
 (.cond (Option.isNone p0)
 (.ret (([], 0, 0), ()))
 (.cond (Option.isSome p0)
 (.opt (queryN (Prod.snd (Prod.snd (Option.rec (none, ([], 0, 0), none) (fun (val : Ty.T (Ty.st (Ty.pair (Ty.ptr zA18) (Ty.pair zA3 (Ty.ptr (Ty.st (Ty.pair zA3 zA14))))))) => val) p0)), ())) fun y2 =>
 (.ret (y2.1, ())))
 (.no)))
noncomputable def queryM : (zA15 × Unit) → Option (zA10 × Unit) := fun x => (queryM_B x).run
abbrev queryM_ins : List (Bool × Pat) := [(false, .ty false zA26)]
abbrev queryM_outs : List Pat := [.ty false zA5]
noncomputable abbrev queryM_f : Func := Try.f69
noncomputable abbrev queryM_P : Program := Try.prog
abbrev queryM_kp : List Nat := kpOf queryM_ins
abbrev queryM_kf : List Nat := kfOf queryM_ins
noncomputable def queryM_c : Ctx := { cx_newM with base := 1024 }
set_option maxRecDepth 100000 in
theorem queryM_env : EnvFull queryM_P queryM_c := env_base (en_newM) 1024
noncomputable def queryM_p : Par := { sh := fun _ => none, k := 0, lo := fun _ => none }
set_option maxRecDepth 100000 in
theorem queryM_eq (p0 : zA15) : ocRun queryM_c queryM_p queryM_f queryM_ins queryM_outs (p0, ()) = queryM_B (p0, ()) := by kernel_rfl
set_option maxRecDepth 100000 in
theorem queryM_oc : OC queryM_P 69 queryM_ins queryM_outs queryM := OC.of_tree queryM_env Try.func69 (by kernel_rfl) (by kernel_rfl) (p := queryM_p) (fun g hg => LoOk.of (l := []) (by kernel_rfl) .nil) (fun (p0, ()) => queryM_eq p0)
noncomputable def cx_queryM : Ctx := addO cx_newM 69 (ocOrc queryM_ins queryM_outs queryM)
theorem en_queryM : EnvFull Try.prog cx_queryM := env_add (en_newM) queryM_oc.callOk
noncomputable def moreM_l0 : (zA15 × ((List Int) × (Int × (Int × (zA6 × (zA2 × ((List zA6) × Unit))))))) → Br ((zA15 × ((List Int) × (Int × (Int × (zA6 × (zA2 × ((List zA6) × Unit))))))) ⊕ ((List zA6) × Unit)) := fun (s0_68, s20_69, s21_70, s22_71, v1028_72, v1029_73, r1724_74, ()) =>
 (.cond (decide (s22_71 < s21_70))
 (.cond (decide (0 ≤ s22_71) && decide (s22_71 < (↑(List.length s20_69) : Int)))
 (.cond (Option.isSome s0_68)
 (.opt (atN (Prod.snd (Prod.snd (Option.rec (none, ([], 0, 0), none) (fun (val : Ty.T (Ty.st (Ty.pair (Ty.ptr zA18) (Ty.pair zA3 (Ty.ptr (Ty.st (Ty.pair zA3 zA14))))))) => val) s0_68)), List.getD s20_69 (Int.toNat s22_71) 0, ())) fun y75 =>
 (.opt (runElem (v1028_72, ())) fun y76 =>
 (.cond (y75.1.1.1 != y76.1)
 (.opt (runBlkd (v1028_72, ())) fun y77 =>
 (.cond y77.1
 (.ret (.inl (s0_68, s20_69, s21_70, IntKind.wrap .i64 (s22_71 + 1), v1028_72, v1029_73, r1724_74, ())))
 (.cond (Option.isSome s0_68)
 (.cond (Option.isSome s0_68)
 (.opt (fitsG (Prod.fst (Option.rec (none, ([], 0, 0), none) (fun (val : Ty.T (Ty.st (Ty.pair (Ty.ptr zA18) (Ty.pair zA3 (Ty.ptr (Ty.st (Ty.pair zA3 zA14))))))) => val) s0_68), Prod.fst (Prod.snd (Option.rec (none, ([], 0, 0), none) (fun (val : Ty.T (Ty.st (Ty.pair (Ty.ptr zA18) (Ty.pair zA3 (Ty.ptr (Ty.st (Ty.pair zA3 zA14))))))) => val) s0_68)), v1028_72, y75.1.1.1, v1029_73, ())) fun y78 =>
 (.cond (!y78.1)
 (.ret (.inl (s0_68, s20_69, s21_70, IntKind.wrap .i64 (s22_71 + 1), v1028_72, v1029_73, r1724_74, ())))
 (.cond (Option.isSome s0_68)
 (.opt (runWith (v1028_72, Prod.fst (Prod.snd (Option.rec (none, ([], 0, 0), none) (fun (val : Ty.T (Ty.st (Ty.pair (Ty.ptr zA18) (Ty.pair zA3 (Ty.ptr (Ty.st (Ty.pair zA3 zA14))))))) => val) s0_68)), List.getD s20_69 (Int.toNat s22_71) 0, y75.1.1.1, v1029_73, ())) fun y80 =>
 (.cond (decide ((List.length r1724_74 + List.length (List.set (List.replicate 1 (0, [], [], 0, (0, 0, 0), false)) 0 y80.1)) * 64 ≤ 140737488355328))
 (.ret (.inl (s0_68, s20_69, s21_70, IntKind.wrap .i64 (s22_71 + 1), v1028_72, v1029_73, r1724_74 ++ List.set (List.replicate 1 (0, [], [], 0, (0, 0, 0), false)) 0 y80.1, ())))
 (.no)))
 (.no))))
 (.no))
 (.no))))
 (.cond (Option.isSome s0_68)
 (.cond (Option.isSome s0_68)
 (.opt (fitsG (Prod.fst (Option.rec (none, ([], 0, 0), none) (fun (val : Ty.T (Ty.st (Ty.pair (Ty.ptr zA18) (Ty.pair zA3 (Ty.ptr (Ty.st (Ty.pair zA3 zA14))))))) => val) s0_68), Prod.fst (Prod.snd (Option.rec (none, ([], 0, 0), none) (fun (val : Ty.T (Ty.st (Ty.pair (Ty.ptr zA18) (Ty.pair zA3 (Ty.ptr (Ty.st (Ty.pair zA3 zA14))))))) => val) s0_68)), v1028_72, y75.1.1.1, v1029_73, ())) fun y79 =>
 (.cond (!y79.1)
 (.ret (.inl (s0_68, s20_69, s21_70, IntKind.wrap .i64 (s22_71 + 1), v1028_72, v1029_73, r1724_74, ())))
 (.cond (Option.isSome s0_68)
 (.opt (runWith (v1028_72, Prod.fst (Prod.snd (Option.rec (none, ([], 0, 0), none) (fun (val : Ty.T (Ty.st (Ty.pair (Ty.ptr zA18) (Ty.pair zA3 (Ty.ptr (Ty.st (Ty.pair zA3 zA14))))))) => val) s0_68)), List.getD s20_69 (Int.toNat s22_71) 0, y75.1.1.1, v1029_73, ())) fun y81 =>
 (.cond (decide ((List.length r1724_74 + List.length (List.set (List.replicate 1 (0, [], [], 0, (0, 0, 0), false)) 0 y81.1)) * 64 ≤ 140737488355328))
 (.ret (.inl (s0_68, s20_69, s21_70, IntKind.wrap .i64 (s22_71 + 1), v1028_72, v1029_73, r1724_74 ++ List.set (List.replicate 1 (0, [], [], 0, (0, 0, 0), false)) 0 y81.1, ())))
 (.no)))
 (.no))))
 (.no))
 (.no)))))
 (.no))
 (.no))
 (.ret (.inr (r1724_74, ()))))
noncomputable def moreM_w0 : (zA15 × ((List Int) × (Int × (Int × (zA6 × (zA2 × ((List zA6) × Unit))))))) → Option ((List zA6) × Unit) := iterO fun x => (moreM_l0 x).run
noncomputable def moreM_B : (zA15 × (zA6 × (zA2 × Unit))) → Br ((List zA6) × Unit) := fun (p0, p1, p2, ()) =>
 (.cond (Option.isNone p0)
 (.ret ([], ()))
 (.cond (Option.isSome p0)
 (.opt (runState (p1, ())) fun y66 =>
 (.opt (movesN (Prod.snd (Prod.snd (Option.rec (none, ([], 0, 0), none) (fun (val : Ty.T (Ty.st (Ty.pair (Ty.ptr zA18) (Ty.pair zA3 (Ty.ptr (Ty.st (Ty.pair zA3 zA14))))))) => val) p0)), y66.1, ())) fun y67 =>
 (.opt (moreM_w0 (p0, y67.1, (↑(List.length y67.1) : Int), 0, p1, p2, [], ())) fun z83 =>
 (.ret (z83.1, ())))))
 (.no)))
noncomputable def moreM : (zA15 × (zA6 × (zA2 × Unit))) → Option ((List zA6) × Unit) := fun x => (moreM_B x).run
abbrev moreM_ins : List (Bool × Pat) := [(false, .ty false zA26), (false, .ty false zA7), (false, .ty false zA9)]
abbrev moreM_outs : List Pat := [.ty false (.sl zA7)]
noncomputable abbrev moreM_f : Func := Try.f66
noncomputable abbrev moreM_P : Program := Try.prog
abbrev moreM_kp : List Nat := kpOf moreM_ins
abbrev moreM_kf : List Nat := kfOf moreM_ins
noncomputable def moreM_c : Ctx := { cx_queryM with base := 1024 }
set_option maxRecDepth 100000 in
theorem moreM_env : EnvFull moreM_P moreM_c := env_base (en_queryM) 1024
abbrev moreM_H0 : List Hole := [.slot 0 false zA26, .slot 20 false (.sl (.int .i64)), .slot 21 false (.int .i64), .slot 22 false (.int .i64), .tv 1028 false zA7, .tv 1029 false zA9, .ar 1724 false 94 zA7]
def moreM_S0 : Skel := ⟨75, [(4, D.c (C.ref 1028 0 0)), (5, D.c (C.ref 1029 0 0)), (7, .c (.mfull 1724))], [(1028, []), (1029, []), (1724, [])]⟩
abbrev moreM_H0e0 : List Hole := [.ar 1725 false 94 zA7]
def moreM_S0e0 : Skel := ⟨75, [(7, .c (.mfull 1725))], [(1725, [])]⟩
def moreM_h0 : Exit → Shape
  | .normal => ⟨[(0, .as false zA26), (4, .keep), (5, .keep), (7, .row 700 false 94 zA7), (20, .as false (.sl (.int .i64))), (21, .as false (.int .i64)), (22, .as false (.int .i64))], [], [(4, false), (5, false), (700, false)]⟩
  | .exit 0 => ⟨[(7, .row 701 false 94 zA7)], [], [(701, false)]⟩
  | _ => ⟨[], [], []⟩
def moreM_e0 : ((List zA6) × Unit) → Exit × St
  | u => (.exit 0, moreM_S0e0.fillK moreM_kf moreM_H0e0 u)
def moreM_t0 : ((List zA6) × Unit) → Br (Exit × St) := fun u => .ret (.exit 0, moreM_S0e0.fillK moreM_kf moreM_H0e0 u)
noncomputable def moreM_C0 : Code := loopAt 0 (bodyOf moreM_f)
noncomputable def moreM_o0 : St → Br (Exit × St) := loopF moreM_kp moreM_kf 1024 (moreM_h0 .normal) (moreM_S0.parseK moreM_kf moreM_H0) fun x => .opt (moreM_w0 x) moreM_t0
noncomputable def moreM_p : Par := { sh := fun _ => none, k := 0, lo := fun i => bif Nat.beq i 5 then some moreM_o0 else none }
set_option maxRecDepth 100000 in
theorem moreM_r0 (s0_68 : zA15) (s20_69 : (List Int)) (s21_70 : Int) (s22_71 : Int) (v1028_72 : zA6) (v1029_73 : zA2) (r1724_74 : (List zA6)) : roundF moreM_kp moreM_kf moreM_c moreM_p moreM_h0 moreM_C0 (moreM_S0.fillK moreM_kf moreM_H0 (s0_68, s20_69, s21_70, s22_71, v1028_72, v1029_73, r1724_74, ())) = (moreM_l0 (s0_68, s20_69, s21_70, s22_71, v1028_72, v1029_73, r1724_74, ())).bind (loopLeaf (fun x => moreM_S0.fillK moreM_kf moreM_H0 x) moreM_e0) := by kernel_rfl
set_option maxRecDepth 100000 in
theorem moreM_ok0 (g : Cfg) (hg : ∀ n, Go.PI.look n g.m0 ≠ Option.none → n ∈ moreM_kp) : LoopOk moreM_P g moreM_o0 moreM_C0 := LoopOk.auto moreM_env hg moreM_p (LoOk.of (l := []) (by kernel_rfl) .nil) moreM_h0 (fun x => moreM_S0.fillK moreM_kf moreM_H0 x) (fun s x h => Skel.parseK_ok s x h) moreM_l0 moreM_e0 (fun _ h => by cases h) moreM_t0 (fun _ => rfl) (fun (s0_68, s20_69, s21_70, s22_71, v1028_72, v1029_73, r1724_74, ()) => moreM_r0 s0_68 s20_69 s21_70 s22_71 v1028_72 v1029_73 r1724_74)
set_option maxRecDepth 100000 in
theorem moreM_eq (p0 : zA15) (p1 : zA6) (p2 : zA2) : ocRun moreM_c moreM_p moreM_f moreM_ins moreM_outs (p0, p1, p2, ()) = moreM_B (p0, p1, p2, ()) := by kernel_rfl
set_option maxRecDepth 100000 in
theorem moreM_oc : OC moreM_P 66 moreM_ins moreM_outs moreM := OC.of_tree moreM_env Try.func66 (by kernel_rfl) (by kernel_rfl) (p := moreM_p) (fun g hg => LoOk.of (l := [moreM_C0]) (by kernel_rfl) (.cons (moreM_ok0 g hg) (by kernel_rfl) .nil)) (fun (p0, p1, p2, ()) => moreM_eq p0 p1 p2)
noncomputable def cx_moreM : Ctx := addO cx_queryM 66 (ocOrc moreM_ins moreM_outs moreM)
theorem en_moreM : EnvFull Try.prog cx_moreM := env_add (en_queryM) moreM_oc.callOk
noncomputable def endsM_B : (zA15 × (zA6 × Unit)) → Br (Bool × Unit) := fun (p0, p1, ()) =>
 (.cond (!Option.isNone p0)
 (.cond (Option.isSome p0)
 (.opt (runState (p1, ())) fun y4 =>
 (.opt (endsN (Prod.snd (Prod.snd (Option.rec (none, ([], 0, 0), none) (fun (val : Ty.T (Ty.st (Ty.pair (Ty.ptr zA18) (Ty.pair zA3 (Ty.ptr (Ty.st (Ty.pair zA3 zA14))))))) => val) p0)), y4.1, ())) fun y5 =>
 (.ret (y5.1, ()))))
 (.no))
 (.ret (false, ())))
noncomputable def endsM : (zA15 × (zA6 × Unit)) → Option (Bool × Unit) := fun x => (endsM_B x).run
abbrev endsM_ins : List (Bool × Pat) := [(false, .ty true zA26), (false, .ty true zA7)]
abbrev endsM_outs : List Pat := [.ty false .bool]
noncomputable abbrev endsM_f : Func := Try.f106
noncomputable abbrev endsM_P : Program := Try.prog
abbrev endsM_kp : List Nat := kpOf endsM_ins
abbrev endsM_kf : List Nat := kfOf endsM_ins
noncomputable def endsM_c : Ctx := { cx_moreM with base := 1024 }
set_option maxRecDepth 100000 in
theorem endsM_env : EnvFull endsM_P endsM_c := env_base (en_moreM) 1024
noncomputable def endsM_p : Par := { sh := fun _ => none, k := 0, lo := fun _ => none }
set_option maxRecDepth 100000 in
theorem endsM_eq (p0 : zA15) (p1 : zA6) : ocRun endsM_c endsM_p endsM_f endsM_ins endsM_outs (p0, p1, ()) = endsM_B (p0, p1, ()) := by kernel_rfl
set_option maxRecDepth 100000 in
theorem endsM_oc : OC endsM_P 106 endsM_ins endsM_outs endsM := OC.of_tree endsM_env Try.func106 (by kernel_rfl) (by kernel_rfl) (p := endsM_p) (fun g hg => LoOk.of (l := []) (by kernel_rfl) .nil) (fun (p0, p1, ()) => endsM_eq p0 p1)
noncomputable def cx_endsM : Ctx := addO cx_moreM 106 (ocOrc endsM_ins endsM_outs endsM)
theorem en_endsM : EnvFull Try.prog cx_endsM := env_add (en_moreM) endsM_oc.callOk
noncomputable def deadM_B : (zA15 × (zA6 × Unit)) → Br (Bool × Unit) := fun (p0, p1, ()) =>
 (.cond (Option.isNone p0)
 (.ret (true, ()))
 (.cond (Option.isSome p0)
 (.opt (runState (p1, ())) fun y5 =>
 (.opt (atN (Prod.snd (Prod.snd (Option.rec (none, ([], 0, 0), none) (fun (val : Ty.T (Ty.st (Ty.pair (Ty.ptr zA18) (Ty.pair zA3 (Ty.ptr (Ty.st (Ty.pair zA3 zA14))))))) => val) p0)), y5.1, ())) fun y6 =>
 (.cond (!y6.1.2)
 (.ret (true, ()))
 (.cond (Option.isSome p0)
 (.opt (runDead (p1, Prod.fst (Prod.snd (Option.rec (none, ([], 0, 0), none) (fun (val : Ty.T (Ty.st (Ty.pair (Ty.ptr zA18) (Ty.pair zA3 (Ty.ptr (Ty.st (Ty.pair zA3 zA14))))))) => val) p0)), y6.1.1.2, ())) fun y7 =>
 (.ret (y7.1, ())))
 (.no)))))
 (.no)))
noncomputable def deadM : (zA15 × (zA6 × Unit)) → Option (Bool × Unit) := fun x => (deadM_B x).run
abbrev deadM_ins : List (Bool × Pat) := [(false, .ty true zA26), (false, .ty true zA7)]
abbrev deadM_outs : List Pat := [.ty false .bool]
noncomputable abbrev deadM_f : Func := Try.f107
noncomputable abbrev deadM_P : Program := Try.prog
abbrev deadM_kp : List Nat := kpOf deadM_ins
abbrev deadM_kf : List Nat := kfOf deadM_ins
noncomputable def deadM_c : Ctx := { cx_endsM with base := 1024 }
set_option maxRecDepth 100000 in
theorem deadM_env : EnvFull deadM_P deadM_c := env_base (en_endsM) 1024
noncomputable def deadM_p : Par := { sh := fun _ => none, k := 0, lo := fun _ => none }
set_option maxRecDepth 100000 in
theorem deadM_eq (p0 : zA15) (p1 : zA6) : ocRun deadM_c deadM_p deadM_f deadM_ins deadM_outs (p0, p1, ()) = deadM_B (p0, p1, ()) := by kernel_rfl
set_option maxRecDepth 100000 in
theorem deadM_oc : OC deadM_P 107 deadM_ins deadM_outs deadM := OC.of_tree deadM_env Try.func107 (by kernel_rfl) (by kernel_rfl) (p := deadM_p) (fun g hg => LoOk.of (l := []) (by kernel_rfl) .nil) (fun (p0, p1, ()) => deadM_eq p0 p1)
noncomputable def cx_deadM : Ctx := addO cx_endsM 107 (ocOrc deadM_ins deadM_outs deadM)
theorem en_deadM : EnvFull Try.prog cx_deadM := env_add (en_endsM) deadM_oc.callOk
noncomputable def same11_l0 : ((List zA12) × ((List zA12) × (Int × Unit))) → Br (((List zA12) × ((List zA12) × (Int × Unit))) ⊕ (Unit ⊕ Unit)) := fun (s0_19, s1_20, s5_21, ()) =>
 (.cond (decide (s5_21 < (↑(List.length s0_19) : Int)))
 (.cond (decide (0 ≤ s5_21) && decide (s5_21 < (↑(List.length s0_19) : Int)))
 (.cond (decide (0 ≤ s5_21) && decide (s5_21 < (↑(List.length s1_20) : Int)))
 (.cond (!(decide (Prod.fst (List.getD s0_19 (Int.toNat s5_21) (0, (0, 0, ByteArray.empty, false), ByteArray.empty, ByteArray.empty)) = Prod.fst (List.getD s1_20 (Int.toNat s5_21) (0, (0, 0, ByteArray.empty, false), ByteArray.empty, ByteArray.empty))) && (decide (Prod.fst (Prod.fst (Prod.snd (List.getD s0_19 (Int.toNat s5_21) (0, (0, 0, ByteArray.empty, false), ByteArray.empty, ByteArray.empty)))) = Prod.fst (Prod.fst (Prod.snd (List.getD s1_20 (Int.toNat s5_21) (0, (0, 0, ByteArray.empty, false), ByteArray.empty, ByteArray.empty))))) && (decide (Prod.fst (Prod.snd (Prod.fst (Prod.snd (List.getD s0_19 (Int.toNat s5_21) (0, (0, 0, ByteArray.empty, false), ByteArray.empty, ByteArray.empty))))) = Prod.fst (Prod.snd (Prod.fst (Prod.snd (List.getD s1_20 (Int.toNat s5_21) (0, (0, 0, ByteArray.empty, false), ByteArray.empty, ByteArray.empty)))))) && (bl (Prod.fst (Prod.snd (Prod.snd (Prod.fst (Prod.snd (List.getD s0_19 (Int.toNat s5_21) (0, (0, 0, ByteArray.empty, false), ByteArray.empty, ByteArray.empty))))))) == bl (Prod.fst (Prod.snd (Prod.snd (Prod.fst (Prod.snd (List.getD s1_20 (Int.toNat s5_21) (0, (0, 0, ByteArray.empty, false), ByteArray.empty, ByteArray.empty))))))) && Prod.snd (Prod.snd (Prod.snd (Prod.fst (Prod.snd (List.getD s0_19 (Int.toNat s5_21) (0, (0, 0, ByteArray.empty, false), ByteArray.empty, ByteArray.empty)))))) == Prod.snd (Prod.snd (Prod.snd (Prod.fst (Prod.snd (List.getD s1_20 (Int.toNat s5_21) (0, (0, 0, ByteArray.empty, false), ByteArray.empty, ByteArray.empty)))))))) && (bl (Prod.fst (Prod.snd (Prod.snd (List.getD s0_19 (Int.toNat s5_21) (0, (0, 0, ByteArray.empty, false), ByteArray.empty, ByteArray.empty))))) == bl (Prod.fst (Prod.snd (Prod.snd (List.getD s1_20 (Int.toNat s5_21) (0, (0, 0, ByteArray.empty, false), ByteArray.empty, ByteArray.empty))))) && bl (Prod.snd (Prod.snd (Prod.snd (List.getD s0_19 (Int.toNat s5_21) (0, (0, 0, ByteArray.empty, false), ByteArray.empty, ByteArray.empty))))) == bl (Prod.snd (Prod.snd (Prod.snd (List.getD s1_20 (Int.toNat s5_21) (0, (0, 0, ByteArray.empty, false), ByteArray.empty, ByteArray.empty)))))))))
 (.ret (.inr (.inl (()))))
 (.ret (.inl (s0_19, s1_20, IntKind.wrap .i64 (s5_21 + 1), ()))))
 (.no))
 (.no))
 (.ret (.inr (.inr (())))))
noncomputable def same11_w0 : ((List zA12) × ((List zA12) × (Int × Unit))) → Option (Unit ⊕ Unit) := iterO fun x => (same11_l0 x).run
noncomputable def same11_B : ((List zA12) × ((List zA12) × Unit)) → Br (Bool × Unit) := fun (p0, p1, ()) =>
 (.cond ((↑(List.length p0) : Int) != (↑(List.length p1) : Int))
 (.ret (false, ()))
 (.opt (same11_w0 (p0, p1, 0, ())) fun z23 =>
 (.sum z23 (fun u24 =>
 (.ret (false, ()))) (fun z25 =>
 (.ret (true, ()))))))
noncomputable def same11 : ((List zA12) × ((List zA12) × Unit)) → Option (Bool × Unit) := fun x => (same11_B x).run
abbrev same11_ins : List (Bool × Pat) := [(false, .ty true (.sl zA13)), (false, .ty true (.sl zA13))]
abbrev same11_outs : List Pat := [.ty false .bool]
noncomputable abbrev same11_f : Func := Try.f112
noncomputable abbrev same11_P : Program := Try.prog
abbrev same11_kp : List Nat := kpOf same11_ins
abbrev same11_kf : List Nat := kfOf same11_ins
noncomputable def same11_c : Ctx := { cx_deadM with base := 1024 }
set_option maxRecDepth 100000 in
theorem same11_env : EnvFull same11_P same11_c := env_base (en_deadM) 1024
abbrev same11_H0 : List Hole := [.slot 0 true (.sl zA13), .slot 1 true (.sl zA13), .slot 5 false (.int .i64)]
def same11_S0 : Skel := ⟨26, [], []⟩
abbrev same11_H0e0 : List Hole := []
def same11_S0e0 : Skel := ⟨26, [(4, D.c C.ff)], []⟩
abbrev same11_H0e1 : List Hole := []
def same11_S0e1 : Skel := ⟨26, [], []⟩
def same11_h0 : Exit → Shape
  | .normal => ⟨[(0, .as true (.sl zA13)), (1, .as true (.sl zA13)), (5, .as false (.int .i64))], [], []⟩
  | .ret => ⟨[(4, .keep)], [], []⟩
  | .exit 0 => ⟨[], [], []⟩
  | _ => ⟨[], [], []⟩
def same11_e0 : (Unit ⊕ Unit) → Exit × St
  | (.inl u) => (.ret, same11_S0e0.fillK same11_kf same11_H0e0 u)
  | (.inr u) => (.exit 0, same11_S0e1.fillK same11_kf same11_H0e1 u)
def same11_t0 : (Unit ⊕ Unit) → Br (Exit × St) := fun z => .sum z (fun u => .ret (.ret, same11_S0e0.fillK same11_kf same11_H0e0 u)) (fun u => .ret (.exit 0, same11_S0e1.fillK same11_kf same11_H0e1 u))
noncomputable def same11_C0 : Code := loopAt 0 (bodyOf same11_f)
noncomputable def same11_o0 : St → Br (Exit × St) := loopF same11_kp same11_kf 1024 (same11_h0 .normal) (same11_S0.parseK same11_kf same11_H0) fun x => .opt (same11_w0 x) same11_t0
noncomputable def same11_p : Par := { sh := fun _ => none, k := 0, lo := fun i => bif Nat.beq i 4 then some same11_o0 else none }
set_option maxRecDepth 100000 in
theorem same11_r0 (s0_19 : (List zA12)) (s1_20 : (List zA12)) (s5_21 : Int) : roundF same11_kp same11_kf same11_c same11_p same11_h0 same11_C0 (same11_S0.fillK same11_kf same11_H0 (s0_19, s1_20, s5_21, ())) = (same11_l0 (s0_19, s1_20, s5_21, ())).bind (loopLeaf (fun x => same11_S0.fillK same11_kf same11_H0 x) same11_e0) := by kernel_rfl
set_option maxRecDepth 100000 in
theorem same11_ok0 (g : Cfg) (hg : ∀ n, Go.PI.look n g.m0 ≠ Option.none → n ∈ same11_kp) : LoopOk same11_P g same11_o0 same11_C0 := LoopOk.auto same11_env hg same11_p (LoOk.of (l := []) (by kernel_rfl) .nil) same11_h0 (fun x => same11_S0.fillK same11_kf same11_H0 x) (fun s x h => Skel.parseK_ok s x h) same11_l0 same11_e0 (fun z h => by rcases z with z | z <;> cases h) same11_t0 (fun z => by rcases z with z | z <;> rfl) (fun (s0_19, s1_20, s5_21, ()) => same11_r0 s0_19 s1_20 s5_21)
set_option maxRecDepth 100000 in
theorem same11_eq (p0 : (List zA12)) (p1 : (List zA12)) : ocRun same11_c same11_p same11_f same11_ins same11_outs (p0, p1, ()) = same11_B (p0, p1, ()) := by kernel_rfl
set_option maxRecDepth 100000 in
theorem same11_oc : OC same11_P 112 same11_ins same11_outs same11 := OC.of_tree same11_env Try.func112 (by kernel_rfl) (by kernel_rfl) (p := same11_p) (fun g hg => LoOk.of (l := [same11_C0]) (by kernel_rfl) (.cons (same11_ok0 g hg) (by kernel_rfl) .nil)) (fun (p0, p1, ()) => same11_eq p0 p1)
noncomputable def cx_same11 : Ctx := addO cx_deadM 112 (ocOrc same11_ins same11_outs same11)
theorem en_same11 : EnvFull Try.prog cx_same11 := env_add (en_deadM) same11_oc.callOk
noncomputable def same16_l1 : (Int × zA20) → Br ((Int × zA20) ⊕ (Unit ⊕ zA20)) := fun (s5_134, s8_135, s54_136, s56_137, s57_138, s61_139, s63_140, s64_141, s68_142, s70_143, s71_144, s75_145, s76_146, s78_147, s79_148, s80_149, s84_150, s86_151, s87_152, s88_153, v1026_154, v1027_155, v1030_156, v1031_157, ()) =>
 (.cond (decide (s8_135 < (↑(List.length v1030_156.2.1) : Int)))
 (.cond (decide (0 ≤ s8_135) && decide (s8_135 < (↑(List.length v1030_156.2.1) : Int)))
 (.cond (decide (0 ≤ s8_135) && decide (s8_135 < (↑(List.length v1031_157.2.1) : Int)))
 (.cond (!bl (List.getD v1030_156.2.1 (Int.toNat s8_135) ByteArray.empty) == bl (List.getD v1031_157.2.1 (Int.toNat s8_135) ByteArray.empty))
 (.ret (.inr (.inl (()))))
 (.ret (.inl (s5_134, IntKind.wrap .i64 (s8_135 + 1), s54_136, s56_137, s57_138, s61_139, s63_140, s64_141, s68_142, s70_143, s71_144, s75_145, s76_146, s78_147, s79_148, s80_149, s84_150, s86_151, s87_152, s88_153, v1026_154, v1027_155, v1030_156, v1031_157, ()))))
 (.no))
 (.no))
 (.ret (.inr (.inr (s5_134, s54_136, s56_137, s57_138, s61_139, s63_140, s64_141, s68_142, s70_143, s71_144, s75_145, s76_146, s78_147, s79_148, s80_149, s84_150, s86_151, s87_152, s88_153, v1026_154, v1027_155, v1030_156, v1031_157, ())))))
noncomputable def same16_w1 : (Int × zA20) → Option (Unit ⊕ zA20) := iterO fun x => (same16_l1 x).run
noncomputable def same16_l0 : (Int × (zA10 × (zA10 × Unit))) → Br ((Int × (zA10 × (zA10 × Unit))) ⊕ (Unit ⊕ Unit)) := fun (s5_130, v1026_131, v1027_132, ()) =>
 (.cond (decide (s5_130 < (↑(List.length v1026_131.1) : Int)))
 (.cond (decide (0 ≤ s5_130) && decide (s5_130 < (↑(List.length v1026_131.1) : Int)))
 (.cond (decide (0 ≤ s5_130) && decide (s5_130 < (↑(List.length v1027_132.1) : Int)))
 (.cond (!bl (Prod.fst (List.getD v1026_131.1 (Int.toNat s5_130) (ByteArray.empty, [], false, 0, 0, []))) == bl (Prod.fst (List.getD v1027_132.1 (Int.toNat s5_130) (ByteArray.empty, [], false, 0, 0, []))))
 (.ret (.inr (.inl (()))))
 (.cond (!Prod.fst (Prod.snd (Prod.snd (List.getD v1026_131.1 (Int.toNat s5_130) (ByteArray.empty, [], false, 0, 0, [])))) == Prod.fst (Prod.snd (Prod.snd (List.getD v1027_132.1 (Int.toNat s5_130) (ByteArray.empty, [], false, 0, 0, [])))))
 (.ret (.inr (.inl (()))))
 (.cond (Prod.fst (Prod.snd (Prod.snd (Prod.snd (List.getD v1026_131.1 (Int.toNat s5_130) (ByteArray.empty, [], false, 0, 0, []))))) != Prod.fst (Prod.snd (Prod.snd (Prod.snd (List.getD v1027_132.1 (Int.toNat s5_130) (ByteArray.empty, [], false, 0, 0, []))))))
 (.ret (.inr (.inl (()))))
 (.cond (Prod.fst (Prod.snd (Prod.snd (Prod.snd (Prod.snd (List.getD v1026_131.1 (Int.toNat s5_130) (ByteArray.empty, [], false, 0, 0, [])))))) != Prod.fst (Prod.snd (Prod.snd (Prod.snd (Prod.snd (List.getD v1027_132.1 (Int.toNat s5_130) (ByteArray.empty, [], false, 0, 0, [])))))))
 (.ret (.inr (.inl (()))))
 (.cond ((↑(List.length (Prod.fst (Prod.snd (List.getD v1026_131.1 (Int.toNat s5_130) (ByteArray.empty, [], false, 0, 0, []))))) : Int) != (↑(List.length (Prod.fst (Prod.snd (List.getD v1027_132.1 (Int.toNat s5_130) (ByteArray.empty, [], false, 0, 0, []))))) : Int))
 (.ret (.inr (.inl (()))))
 (.opt (same11 (Prod.snd (Prod.snd (Prod.snd (Prod.snd (Prod.snd (List.getD v1026_131.1 (Int.toNat s5_130) (ByteArray.empty, [], false, 0, 0, [])))))), Prod.snd (Prod.snd (Prod.snd (Prod.snd (Prod.snd (List.getD v1027_132.1 (Int.toNat s5_130) (ByteArray.empty, [], false, 0, 0, [])))))), ())) fun y133 =>
 (.cond (!y133.1)
 (.ret (.inr (.inl (()))))
 (.opt (same16_w1 (s5_130, 0, Prod.fst (Prod.snd (Prod.snd (List.getD v1026_131.1 (Int.toNat s5_130) (ByteArray.empty, [], false, 0, 0, [])))), Prod.fst (Prod.snd (Prod.snd (List.getD v1027_132.1 (Int.toNat s5_130) (ByteArray.empty, [], false, 0, 0, [])))), !Prod.fst (Prod.snd (Prod.snd (List.getD v1026_131.1 (Int.toNat s5_130) (ByteArray.empty, [], false, 0, 0, [])))) == Prod.fst (Prod.snd (Prod.snd (List.getD v1027_132.1 (Int.toNat s5_130) (ByteArray.empty, [], false, 0, 0, [])))), Prod.fst (Prod.snd (Prod.snd (Prod.snd (List.getD v1026_131.1 (Int.toNat s5_130) (ByteArray.empty, [], false, 0, 0, []))))), Prod.fst (Prod.snd (Prod.snd (Prod.snd (List.getD v1027_132.1 (Int.toNat s5_130) (ByteArray.empty, [], false, 0, 0, []))))), Prod.fst (Prod.snd (Prod.snd (Prod.snd (List.getD v1026_131.1 (Int.toNat s5_130) (ByteArray.empty, [], false, 0, 0, []))))) != Prod.fst (Prod.snd (Prod.snd (Prod.snd (List.getD v1027_132.1 (Int.toNat s5_130) (ByteArray.empty, [], false, 0, 0, []))))), Prod.fst (Prod.snd (Prod.snd (Prod.snd (Prod.snd (List.getD v1026_131.1 (Int.toNat s5_130) (ByteArray.empty, [], false, 0, 0, [])))))), Prod.fst (Prod.snd (Prod.snd (Prod.snd (Prod.snd (List.getD v1027_132.1 (Int.toNat s5_130) (ByteArray.empty, [], false, 0, 0, [])))))), Prod.fst (Prod.snd (Prod.snd (Prod.snd (Prod.snd (List.getD v1026_131.1 (Int.toNat s5_130) (ByteArray.empty, [], false, 0, 0, [])))))) != Prod.fst (Prod.snd (Prod.snd (Prod.snd (Prod.snd (List.getD v1027_132.1 (Int.toNat s5_130) (ByteArray.empty, [], false, 0, 0, [])))))), Prod.fst (Prod.snd (List.getD v1026_131.1 (Int.toNat s5_130) (ByteArray.empty, [], false, 0, 0, []))), (↑(List.length (Prod.fst (Prod.snd (List.getD v1026_131.1 (Int.toNat s5_130) (ByteArray.empty, [], false, 0, 0, []))))) : Int), Prod.fst (Prod.snd (List.getD v1027_132.1 (Int.toNat s5_130) (ByteArray.empty, [], false, 0, 0, []))), (↑(List.length (Prod.fst (Prod.snd (List.getD v1027_132.1 (Int.toNat s5_130) (ByteArray.empty, [], false, 0, 0, []))))) : Int), (↑(List.length (Prod.fst (Prod.snd (List.getD v1026_131.1 (Int.toNat s5_130) (ByteArray.empty, [], false, 0, 0, []))))) : Int) != (↑(List.length (Prod.fst (Prod.snd (List.getD v1027_132.1 (Int.toNat s5_130) (ByteArray.empty, [], false, 0, 0, []))))) : Int), Prod.snd (Prod.snd (Prod.snd (Prod.snd (Prod.snd (List.getD v1026_131.1 (Int.toNat s5_130) (ByteArray.empty, [], false, 0, 0, [])))))), Prod.snd (Prod.snd (Prod.snd (Prod.snd (Prod.snd (List.getD v1027_132.1 (Int.toNat s5_130) (ByteArray.empty, [], false, 0, 0, [])))))), y133.1, !y133.1, v1026_131, v1027_132, List.getD v1026_131.1 (Int.toNat s5_130) (ByteArray.empty, [], false, 0, 0, []), List.getD v1027_132.1 (Int.toNat s5_130) (ByteArray.empty, [], false, 0, 0, []), ())) fun z159 =>
 (.sum z159 (fun u160 =>
 (.ret (.inr (.inl (()))))) (fun z161 =>
 (.ret (.inl (IntKind.wrap .i64 (z161.1 + 1), z161.2.2.2.2.2.2.2.2.2.2.2.2.2.2.2.2.2.2.2.1, z161.2.2.2.2.2.2.2.2.2.2.2.2.2.2.2.2.2.2.2.2.1, ())))))))))))))
 (.no))
 (.no))
 (.ret (.inr (.inr (())))))
noncomputable def same16_w0 : (Int × (zA10 × (zA10 × Unit))) → Option (Unit ⊕ Unit) := iterO fun x => (same16_l0 x).run
noncomputable def same16_B : (zA10 × (zA10 × Unit)) → Br (Bool × Unit) := fun (p0, p1, ()) =>
 (.cond (p0.2.1 != p1.2.1)
 (.ret (false, ()))
 (.cond (p0.2.2 != p1.2.2)
 (.ret (false, ()))
 (.cond ((↑(List.length p0.1) : Int) != (↑(List.length p1.1) : Int))
 (.ret (false, ()))
 (.opt (same16_w0 (0, p0, p1, ())) fun z163 =>
 (.sum z163 (fun u164 =>
 (.ret (false, ()))) (fun z165 =>
 (.ret (true, ()))))))))
noncomputable def same16 : (zA10 × (zA10 × Unit)) → Option (Bool × Unit) := fun x => (same16_B x).run
abbrev same16_ins : List (Bool × Pat) := [(false, .ty true zA5), (false, .ty true zA5)]
abbrev same16_outs : List Pat := [.ty false .bool]
noncomputable abbrev same16_f : Func := Try.f68
noncomputable abbrev same16_P : Program := Try.prog
abbrev same16_kp : List Nat := kpOf same16_ins
abbrev same16_kf : List Nat := kfOf same16_ins
noncomputable def same16_c : Ctx := { cx_same11 with base := 1024 }
set_option maxRecDepth 100000 in
theorem same16_env : EnvFull same16_P same16_c := env_base (en_same11) 1024
abbrev same16_H1 : List Hole := [.slot 5 false (.int .i64), .slot 8 false (.int .i64), .slot 54 false .bool, .slot 56 false .bool, .slot 57 false .bool, .slot 61 false (.int .i64), .slot 63 false (.int .i64), .slot 64 false .bool, .slot 68 false (.int .i64), .slot 70 false (.int .i64), .slot 71 false .bool, .slot 75 true (.sl .str), .slot 76 false (.int .i64), .slot 78 true (.sl .str), .slot 79 false (.int .i64), .slot 80 false .bool, .slot 84 true (.sl zA13), .slot 86 true (.sl zA13), .slot 87 false .bool, .slot 88 false .bool, .tv 1026 true zA5, .tv 1027 true zA5, .tv 1030 true zA19, .tv 1031 true zA19]
def same16_S1 : Skel := ⟨108, [(2, D.c (C.ref 1026 0 0)), (3, D.c (C.ref 1027 0 0)), (6, D.c (C.ref 1030 0 0)), (7, D.c (C.ref 1031 0 0)), (53, D.c (C.ref 1030 0 2)), (55, D.c (C.ref 1031 0 2)), (60, D.c (C.ref 1030 0 3)), (62, D.c (C.ref 1031 0 3)), (67, D.c (C.ref 1030 0 4)), (69, D.c (C.ref 1031 0 4)), (74, D.c (C.ref 1030 0 1)), (77, D.c (C.ref 1031 0 1)), (83, D.c (C.ref 1030 0 5)), (85, D.c (C.ref 1031 0 5))], [(1026, []), (1027, []), (1030, []), (1031, [])]⟩
abbrev same16_H1e0 : List Hole := []
def same16_S1e0 : Skel := ⟨108, [(4, D.c C.ff)], []⟩
abbrev same16_H1e1 : List Hole := [.slot 5 false (.int .i64), .slot 54 false .bool, .slot 56 false .bool, .slot 57 false .bool, .slot 61 false (.int .i64), .slot 63 false (.int .i64), .slot 64 false .bool, .slot 68 false (.int .i64), .slot 70 false (.int .i64), .slot 71 false .bool, .slot 75 true (.sl .str), .slot 76 false (.int .i64), .slot 78 true (.sl .str), .slot 79 false (.int .i64), .slot 80 false .bool, .slot 84 true (.sl zA13), .slot 86 true (.sl zA13), .slot 87 false .bool, .slot 88 false .bool, .tv 1026 true zA5, .tv 1027 true zA5, .tv 1030 true zA19, .tv 1031 true zA19]
def same16_S1e1 : Skel := ⟨108, [(2, D.c (C.ref 1026 0 0)), (3, D.c (C.ref 1027 0 0)), (53, D.c (C.ref 1030 0 2)), (55, D.c (C.ref 1031 0 2)), (60, D.c (C.ref 1030 0 3)), (62, D.c (C.ref 1031 0 3)), (67, D.c (C.ref 1030 0 4)), (69, D.c (C.ref 1031 0 4)), (74, D.c (C.ref 1030 0 1)), (77, D.c (C.ref 1031 0 1)), (83, D.c (C.ref 1030 0 5)), (85, D.c (C.ref 1031 0 5))], [(1026, []), (1027, []), (1030, []), (1031, [])]⟩
def same16_h1 : Exit → Shape
  | .normal => ⟨[(2, .keep), (3, .keep), (5, .as false (.int .i64)), (6, .keep), (7, .keep), (8, .as false (.int .i64)), (53, .keep), (54, .as false .bool), (55, .keep), (56, .as false .bool), (57, .as false .bool), (60, .keep), (61, .as false (.int .i64)), (62, .keep), (63, .as false (.int .i64)), (64, .as false .bool), (67, .keep), (68, .as false (.int .i64)), (69, .keep), (70, .as false (.int .i64)), (71, .as false .bool), (74, .keep), (75, .as true (.sl .str)), (76, .as false (.int .i64)), (77, .keep), (78, .as true (.sl .str)), (79, .as false (.int .i64)), (80, .as false .bool), (83, .keep), (84, .as true (.sl zA13)), (85, .keep), (86, .as true (.sl zA13)), (87, .as false .bool), (88, .as false .bool)], [], [(2, true), (3, true), (6, true), (7, true)]⟩
  | .ret => ⟨[(4, .keep)], [], []⟩
  | .exit 2 => ⟨[(2, .keep), (3, .keep), (5, .as false (.int .i64)), (53, .keep), (54, .as false .bool), (55, .keep), (56, .as false .bool), (57, .as false .bool), (60, .keep), (61, .as false (.int .i64)), (62, .keep), (63, .as false (.int .i64)), (64, .as false .bool), (67, .keep), (68, .as false (.int .i64)), (69, .keep), (70, .as false (.int .i64)), (71, .as false .bool), (74, .keep), (75, .as true (.sl .str)), (76, .as false (.int .i64)), (77, .keep), (78, .as true (.sl .str)), (79, .as false (.int .i64)), (80, .as false .bool), (83, .keep), (84, .as true (.sl zA13)), (85, .keep), (86, .as true (.sl zA13)), (87, .as false .bool), (88, .as false .bool)], [], [(2, true), (3, true), (6, true), (7, true)]⟩
  | _ => ⟨[], [], []⟩
def same16_e1 : (Unit ⊕ zA20) → Exit × St
  | (.inl u) => (.ret, same16_S1e0.fillK same16_kf same16_H1e0 u)
  | (.inr u) => (.exit 2, same16_S1e1.fillK same16_kf same16_H1e1 u)
def same16_t1 : (Unit ⊕ zA20) → Br (Exit × St) := fun z => .sum z (fun u => .ret (.ret, same16_S1e0.fillK same16_kf same16_H1e0 u)) (fun u => .ret (.exit 2, same16_S1e1.fillK same16_kf same16_H1e1 u))
noncomputable def same16_C1 : Code := loopAt 1 (bodyOf same16_f)
noncomputable def same16_o1 : St → Br (Exit × St) := loopF same16_kp same16_kf 1024 (same16_h1 .normal) (same16_S1.parseK same16_kf same16_H1) fun x => .opt (same16_w1 x) same16_t1
abbrev same16_H0 : List Hole := [.slot 5 false (.int .i64), .tv 1026 true zA5, .tv 1027 true zA5]
def same16_S0 : Skel := ⟨108, [(2, D.c (C.ref 1026 0 0)), (3, D.c (C.ref 1027 0 0))], [(1026, []), (1027, [])]⟩
abbrev same16_H0e0 : List Hole := []
def same16_S0e0 : Skel := ⟨108, [(4, D.c C.ff)], []⟩
abbrev same16_H0e1 : List Hole := []
def same16_S0e1 : Skel := ⟨108, [], []⟩
def same16_h0 : Exit → Shape
  | .normal => ⟨[(2, .keep), (3, .keep), (5, .as false (.int .i64))], [], [(2, true), (3, true)]⟩
  | .ret => ⟨[(4, .keep)], [], []⟩
  | .exit 0 => ⟨[], [], []⟩
  | _ => ⟨[], [], []⟩
def same16_e0 : (Unit ⊕ Unit) → Exit × St
  | (.inl u) => (.ret, same16_S0e0.fillK same16_kf same16_H0e0 u)
  | (.inr u) => (.exit 0, same16_S0e1.fillK same16_kf same16_H0e1 u)
def same16_t0 : (Unit ⊕ Unit) → Br (Exit × St) := fun z => .sum z (fun u => .ret (.ret, same16_S0e0.fillK same16_kf same16_H0e0 u)) (fun u => .ret (.exit 0, same16_S0e1.fillK same16_kf same16_H0e1 u))
noncomputable def same16_C0 : Code := loopAt 0 (bodyOf same16_f)
noncomputable def same16_o0 : St → Br (Exit × St) := loopF same16_kp same16_kf 1024 (same16_h0 .normal) (same16_S0.parseK same16_kf same16_H0) fun x => .opt (same16_w0 x) same16_t0
noncomputable def same16_p : Par := { sh := fun _ => none, k := 0, lo := fun i => bif Nat.beq i 4 then some same16_o0 else bif Nat.beq i 10 then some same16_o1 else none }
set_option maxRecDepth 100000 in
theorem same16_r1 (s5_134 : Int) (s8_135 : Int) (s54_136 : Bool) (s56_137 : Bool) (s57_138 : Bool) (s61_139 : Int) (s63_140 : Int) (s64_141 : Bool) (s68_142 : Int) (s70_143 : Int) (s71_144 : Bool) (s75_145 : (List ByteArray)) (s76_146 : Int) (s78_147 : (List ByteArray)) (s79_148 : Int) (s80_149 : Bool) (s84_150 : (List zA12)) (s86_151 : (List zA12)) (s87_152 : Bool) (s88_153 : Bool) (v1026_154 : zA10) (v1027_155 : zA10) (v1030_156 : zA1) (v1031_157 : zA1) : roundF same16_kp same16_kf same16_c same16_p same16_h1 same16_C1 (same16_S1.fillK same16_kf same16_H1 (s5_134, s8_135, s54_136, s56_137, s57_138, s61_139, s63_140, s64_141, s68_142, s70_143, s71_144, s75_145, s76_146, s78_147, s79_148, s80_149, s84_150, s86_151, s87_152, s88_153, v1026_154, v1027_155, v1030_156, v1031_157, ())) = (same16_l1 (s5_134, s8_135, s54_136, s56_137, s57_138, s61_139, s63_140, s64_141, s68_142, s70_143, s71_144, s75_145, s76_146, s78_147, s79_148, s80_149, s84_150, s86_151, s87_152, s88_153, v1026_154, v1027_155, v1030_156, v1031_157, ())).bind (loopLeaf (fun x => same16_S1.fillK same16_kf same16_H1 x) same16_e1) := by kernel_rfl
set_option maxRecDepth 100000 in
theorem same16_ok1 (g : Cfg) (hg : ∀ n, Go.PI.look n g.m0 ≠ Option.none → n ∈ same16_kp) : LoopOk same16_P g same16_o1 same16_C1 := LoopOk.auto same16_env hg same16_p (LoOk.of (l := []) (by kernel_rfl) .nil) same16_h1 (fun x => same16_S1.fillK same16_kf same16_H1 x) (fun s x h => Skel.parseK_ok s x h) same16_l1 same16_e1 (fun z h => by rcases z with z | z <;> cases h) same16_t1 (fun z => by rcases z with z | z <;> rfl) (fun (s5_134, s8_135, s54_136, s56_137, s57_138, s61_139, s63_140, s64_141, s68_142, s70_143, s71_144, s75_145, s76_146, s78_147, s79_148, s80_149, s84_150, s86_151, s87_152, s88_153, v1026_154, v1027_155, v1030_156, v1031_157, ()) => same16_r1 s5_134 s8_135 s54_136 s56_137 s57_138 s61_139 s63_140 s64_141 s68_142 s70_143 s71_144 s75_145 s76_146 s78_147 s79_148 s80_149 s84_150 s86_151 s87_152 s88_153 v1026_154 v1027_155 v1030_156 v1031_157)
set_option maxRecDepth 100000 in
theorem same16_r0 (s5_130 : Int) (v1026_131 : zA10) (v1027_132 : zA10) : roundF same16_kp same16_kf same16_c same16_p same16_h0 same16_C0 (same16_S0.fillK same16_kf same16_H0 (s5_130, v1026_131, v1027_132, ())) = (same16_l0 (s5_130, v1026_131, v1027_132, ())).bind (loopLeaf (fun x => same16_S0.fillK same16_kf same16_H0 x) same16_e0) := by kernel_rfl
set_option maxRecDepth 100000 in
theorem same16_ok0 (g : Cfg) (hg : ∀ n, Go.PI.look n g.m0 ≠ Option.none → n ∈ same16_kp) : LoopOk same16_P g same16_o0 same16_C0 := LoopOk.auto same16_env hg same16_p (LoOk.of (l := [same16_C1]) (by kernel_rfl) (.cons (same16_ok1 g hg) (by kernel_rfl) .nil)) same16_h0 (fun x => same16_S0.fillK same16_kf same16_H0 x) (fun s x h => Skel.parseK_ok s x h) same16_l0 same16_e0 (fun z h => by rcases z with z | z <;> cases h) same16_t0 (fun z => by rcases z with z | z <;> rfl) (fun (s5_130, v1026_131, v1027_132, ()) => same16_r0 s5_130 v1026_131 v1027_132)
set_option maxRecDepth 100000 in
theorem same16_eq (p0 : zA10) (p1 : zA10) : ocRun same16_c same16_p same16_f same16_ins same16_outs (p0, p1, ()) = same16_B (p0, p1, ()) := by kernel_rfl
set_option maxRecDepth 100000 in
theorem same16_oc : OC same16_P 68 same16_ins same16_outs same16 := OC.of_tree same16_env Try.func68 (by kernel_rfl) (by kernel_rfl) (p := same16_p) (fun g hg => LoOk.of (l := [same16_C0, same16_C1]) (by kernel_rfl) (.cons (same16_ok0 g hg) (by kernel_rfl) (.cons (same16_ok1 g hg) (by kernel_rfl) .nil))) (fun (p0, p1, ()) => same16_eq p0 p1)
noncomputable def cx_same16 : Ctx := addO cx_same11 68 (ocOrc same16_ins same16_outs same16)
theorem en_same16 : EnvFull Try.prog cx_same16 := env_add (en_same11) same16_oc.callOk
noncomputable def awake24_B : Unit → Br (Bool × Unit) := fun (()) =>
 (.opt (newS ([({ data := #[65] }, [])], ())) fun y6 =>
 (.opt (newM (y6.1.1, ([({ data := #[97] }, [{ data := #[65] }], false, 1, 1, [])], 5, 5), ())) fun y7 =>
 (.opt (moreM (y7.1, (0, [], [], 0, (0, 0, 0), false), ({ data := #[65] }, ByteArray.empty, 0, 4, []), ())) fun y8 =>
 (.cond ((↑(List.length y8.1) : Int) == 1)
 (.cond (decide (0 ≤ 0) && decide (0 < (↑(List.length y8.1) : Int)))
 (.opt (runLen (List.getD y8.1 (Int.toNat 0) (0, [], [], 0, (0, 0, 0), false), ())) fun y9 =>
 (.cond (y9.1 == 1)
 (.cond (decide (0 ≤ 0) && decide (0 < (↑(List.length y8.1) : Int)))
 (.opt (endsM (y7.1, List.getD y8.1 (Int.toNat 0) (0, [], [], 0, (0, 0, 0), false), ())) fun y10 =>
 (.cond y10.1
 (.cond (decide (0 ≤ 0) && decide (0 < (↑(List.length y8.1) : Int)))
 (.opt (deadM (y7.1, List.getD y8.1 (Int.toNat 0) (0, [], [], 0, (0, 0, 0), false), ())) fun y11 =>
 (.ret (y11.1, ())))
 (.no))
 (.ret (false, ()))))
 (.no))
 (.ret (false, ()))))
 (.no))
 (.ret (false, ()))))))
noncomputable def awake24 : Unit → Option (Bool × Unit) := fun x => (awake24_B x).run
abbrev awake24_ins : List (Bool × Pat) := []
abbrev awake24_outs : List Pat := [.ty false .bool]
noncomputable abbrev awake24_f : Func := Try.f59
noncomputable abbrev awake24_P : Program := Try.prog
abbrev awake24_kp : List Nat := kpOf awake24_ins
abbrev awake24_kf : List Nat := kfOf awake24_ins
noncomputable def awake24_c : Ctx := { cx_same16 with base := 1024 }
set_option maxRecDepth 100000 in
theorem awake24_env : EnvFull awake24_P awake24_c := env_base (en_same16) 1024
noncomputable def awake24_p : Par := { sh := fun _ => none, k := 0, lo := fun _ => none }
set_option maxRecDepth 100000 in
theorem awake24_eq  : ocRun awake24_c awake24_p awake24_f awake24_ins awake24_outs (()) = awake24_B (()) := by kernel_rfl
set_option maxRecDepth 100000 in
theorem awake24_oc : OC awake24_P 59 awake24_ins awake24_outs awake24 := OC.of_tree awake24_env Try.func59 (by kernel_rfl) (by kernel_rfl) (p := awake24_p) (fun g hg => LoOk.of (l := []) (by kernel_rfl) .nil) (fun (()) => awake24_eq )
noncomputable def cx_awake24 : Ctx := addO cx_same16 59 (ocOrc awake24_ins awake24_outs awake24)
theorem en_awake24 : EnvFull Try.prog cx_awake24 := env_add (en_same16) awake24_oc.callOk
end Go.Proofs.Ytnhiplibodkciaa
