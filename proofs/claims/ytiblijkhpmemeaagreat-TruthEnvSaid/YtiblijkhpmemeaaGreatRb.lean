/- Contracts of functions. Printed by auto.py. -/
import Derived.Test.YtiblijkhpmemeaaGreatHa
import Derived.Test.YtiblijkhpmemeaaGreatRa
namespace Go.Proofs.YtiblijkhpmemeaaGreat
set_option maxRecDepth 100000
open Go.PI Go
abbrev zIRb1 : List (Bool × Pat) := [(false, .ty false (.int .i64)), (false, .ty false (.int .i64))]
noncomputable def bndEq_B : ((ByteArray × zA2) × (zA12 × Unit)) → Br (Bool × Unit) := fun (p0, p1, ()) =>
 (.ret (bl p0.1 == bl (List.getD [p1] 0 (0, zV0, ByteArray.empty, ByteArray.empty)).2.2.1, ()))
noncomputable def bndEq : ((ByteArray × zA2) × (zA12 × Unit)) → Option (Bool × Unit) := fun x => (bndEq_B x).run
abbrev bndEq_ins : List (Bool × Pat) := [(false, .ty true (.st (.pair .str zA9))), (false, .rf zA13)]
abbrev bndEq_outs : List Pat := [.ty false .bool]
noncomputable abbrev bndEq_f : Func := Tryz.f106
noncomputable abbrev bndEq_P : Program := Tryz.prog
noncomputable def bndEq_c : Ctx := { cx_getF with base := 1024 }
theorem bndEq_env : EnvFull bndEq_P bndEq_c := env_base (en_getF) 1024
noncomputable def bndEq_p : Par := { sh := fun _ => none, k := 0, lo := fun _ => none }
theorem bndEq_eq (p0 : (ByteArray × zA2)) (p1 : zA12) : ocRun bndEq_c bndEq_p bndEq_f bndEq_ins bndEq_outs (p0, p1, ()) = bndEq_B (p0, p1, ()) := by kernel_rfl
theorem bndEq_oc : OC bndEq_P 106 bndEq_ins bndEq_outs bndEq := OC.of_tree bndEq_env Tryz.func106 (by kernel_rfl) (by kernel_rfl) (p := bndEq_p) (fun g hg => LoOk.of (l := []) (by kernel_rfl) .nil) (fun (p0, p1, ()) => bndEq_eq p0 p1)
noncomputable def cx_bndEq : Ctx := addO cx_getF 106 (ocOrc bndEq_ins bndEq_outs bndEq)
theorem en_bndEq : EnvFull Tryz.prog cx_bndEq := env_add (en_getF) bndEq_oc.callOk
noncomputable def idxBnd_l0 : (zA21 × ((zA12 × Unit) × (Int × (Int × Unit)))) → Br ((zA21 × ((zA12 × Unit) × (Int × (Int × Unit)))) ⊕ ((Int × Unit) ⊕ Unit)) := fun (a, b, c, d, ()) =>
 (.cond (decide (d < c))
 (.cond (decide (0 ≤ d) && decide (d < (↑(List.length a) : Int)))
 (.opt (bndEq (List.getD a (Int.toNat d) zV3, b.1, ())) fun e =>
 (.cond e.1
 (.ret (.inr (.inl (d, ()))))
 (.ret (.inl (a, (b.1, ()), c, IntKind.wrap .i64 (d + 1), ())))))
 (.no))
 (.ret (.inr (.inr (())))))
noncomputable def idxBnd_w0 : (zA21 × ((zA12 × Unit) × (Int × (Int × Unit)))) → Option ((Int × Unit) ⊕ Unit) := iterO fun x => (idxBnd_l0 x).run
noncomputable def idxBnd_B : (zA21 × (zA12 × Unit)) → Br (Int × Unit) := fun (p0, p1, ()) =>
 (.opt (idxBnd_w0 (p0, (p1, ()), (↑(List.length p0) : Int), 0, ())) fun a =>
 (.sum a (fun b =>
 (.ret (b.1, ()))) (fun c =>
 (.ret (-1, ())))))
noncomputable def idxBnd : (zA21 × (zA12 × Unit)) → Option (Int × Unit) := fun x => (idxBnd_B x).run
abbrev idxBnd_ins : List (Bool × Pat) := [(false, .ty true zA35), (false, .fn 106 (.rf zA13))]
abbrev idxBnd_outs : List Pat := [.ty false (.int .i64)]
noncomputable abbrev idxBnd_f : Func := Tryz.f105
noncomputable abbrev idxBnd_P : Program := Tryz.prog
abbrev idxBnd_kp : List Nat := kpOf idxBnd_ins
abbrev idxBnd_kf : List Nat := kfOf idxBnd_ins
noncomputable def idxBnd_c : Ctx := { cx_bndEq with base := 1024 }
theorem idxBnd_env : EnvFull idxBnd_P idxBnd_c := env_base (en_bndEq) 1024
abbrev idxBnd_H0 : List Hole := [.slot 0 true zA35, .cap 1 106 [zA13], .slot 7 false (.int .i64), .slot 8 false (.int .i64)]
def idxBnd_S0 : Skel := ⟨19, [], []⟩
abbrev idxBnd_H0e0 : List Hole := [.slot 4 false (.int .i64)]
def idxBnd_S0e0 : Skel := ⟨19, [], []⟩
abbrev idxBnd_H0e1 : List Hole := []
def idxBnd_S0e1 : Skel := ⟨19, [], []⟩
def idxBnd_h0 : Exit → Shape
 | .normal => ⟨[(0, .as true zA35), (1, .keep), (7, .as false (.int .i64)), (8, .as false (.int .i64))], [], []⟩
 | .ret => ⟨[(4, .as false (.int .i64))], [], []⟩
 | .exit 0 => ⟨[], [], []⟩
 | _ => ⟨[], [], []⟩
def idxBnd_e0 : ((Int × Unit) ⊕ Unit) → Exit × St
 | (.inl u) => (.ret, idxBnd_S0e0.fillK idxBnd_kf idxBnd_H0e0 u)
 | (.inr u) => (.exit 0, idxBnd_S0e1.fillK idxBnd_kf idxBnd_H0e1 u)
def idxBnd_t0 : ((Int × Unit) ⊕ Unit) → Br (Exit × St) := fun z => .sum z (fun u => .ret (.ret, idxBnd_S0e0.fillK idxBnd_kf idxBnd_H0e0 u)) (fun u => .ret (.exit 0, idxBnd_S0e1.fillK idxBnd_kf idxBnd_H0e1 u))
noncomputable def idxBnd_C0 : Code := loopAt 0 (bodyOf idxBnd_f)
noncomputable def idxBnd_o0 : St → Br (Exit × St) := loopF idxBnd_kp idxBnd_kf 1024 (idxBnd_h0 .normal) (idxBnd_S0.parseK idxBnd_kf idxBnd_H0) fun x => .opt (idxBnd_w0 x) idxBnd_t0
noncomputable def idxBnd_p : Par := { sh := fun _ => none, k := 0, lo := fun i => bif Nat.beq i 2 then some idxBnd_o0 else none }
theorem idxBnd_r0 (a : zA21) (b : (zA12 × Unit)) (c : Int) (d : Int) : roundF idxBnd_kp idxBnd_kf idxBnd_c idxBnd_p idxBnd_h0 idxBnd_C0 (idxBnd_S0.fillK idxBnd_kf idxBnd_H0 (a, b, c, d, ())) = (idxBnd_l0 (a, b, c, d, ())).bind (loopLeaf (fun x => idxBnd_S0.fillK idxBnd_kf idxBnd_H0 x) idxBnd_e0) := by kernel_rfl
theorem idxBnd_ok0 (g : Cfg) (hg : ∀ n, Go.PI.look n g.m0 ≠ Option.none → n ∈ idxBnd_kp) : LoopOk idxBnd_P g idxBnd_o0 idxBnd_C0 := LoopOk.auto idxBnd_env hg idxBnd_p (LoOk.of (l := []) (by kernel_rfl) .nil) idxBnd_h0 (fun x => idxBnd_S0.fillK idxBnd_kf idxBnd_H0 x) (fun s x h => Skel.parseK_ok s x h) idxBnd_l0 idxBnd_e0 (fun z h => by rcases z with z | z <;> cases h) idxBnd_t0 (fun z => by rcases z with z | z <;> rfl) (fun (a, b, c, d, ()) => idxBnd_r0 a b c d)
theorem idxBnd_eq (p0 : zA21) (p1 : zA12) : ocRun idxBnd_c idxBnd_p idxBnd_f idxBnd_ins idxBnd_outs (p0, p1, ()) = idxBnd_B (p0, p1, ()) := by kernel_rfl
theorem idxBnd_oc : OC idxBnd_P 105 idxBnd_ins idxBnd_outs idxBnd := OC.of_tree idxBnd_env Tryz.func105 (by kernel_rfl) (by kernel_rfl) (p := idxBnd_p) (fun g hg => LoOk.of (l := [idxBnd_C0]) (by kernel_rfl) (.cons (idxBnd_ok0 g hg) (by kernel_rfl) .nil)) (fun (p0, p1, ()) => idxBnd_eq p0 p1)
noncomputable def cx_idxBnd : Ctx := addO cx_bndEq 105 (ocOrc idxBnd_ins idxBnd_outs idxBnd)
theorem en_idxBnd : EnvFull Tryz.prog cx_idxBnd := env_add (en_bndEq) idxBnd_oc.callOk
noncomputable def fieldV_B : ((Option zA11) × (zA21 × (zA12 × Unit))) → Br ((zA8 × Bool) × Unit) := fun (p0, p1, p2, ()) =>
 (.opt (idxBnd (p1, p2, ())) fun y5 =>
 (.cond (decide (y5.1 < 0))
 (.ret ((zV0, false), ()))
 (.cond (decide (0 ≤ y5.1) && decide (y5.1 < (↑(List.length p1) : Int)))
 (.opt (getF (p0, (List.getD p1 (Int.toNat y5.1) zV3).2, p2.2.2.2, ())) fun y6 =>
 (.ret ((y6.1.1, y6.1.2), ())))
 (.no))))
noncomputable def fieldV : ((Option zA11) × (zA21 × (zA12 × Unit))) → Option ((zA8 × Bool) × Unit) := fun x => (fieldV_B x).run
abbrev fieldV_ins : List (Bool × Pat) := [(false, .ty true zA17), (false, .ty true zA35), (false, .ty false zA13)]
abbrev fieldV_outs : List Pat := [.ty false zA4, .ty false .bool]
noncomputable abbrev fieldV_f : Func := Tryz.f92
noncomputable abbrev fieldV_P : Program := Tryz.prog
noncomputable def fieldV_c : Ctx := { cx_idxBnd with base := 1024 }
theorem fieldV_env : EnvFull fieldV_P fieldV_c := env_base (en_idxBnd) 1024
noncomputable def fieldV_p : Par := { sh := fun _ => none, k := 0, lo := fun _ => none }
theorem fieldV_eq (p0 : (Option zA11)) (p1 : zA21) (p2 : zA12) : ocRun fieldV_c fieldV_p fieldV_f fieldV_ins fieldV_outs (p0, p1, p2, ()) = fieldV_B (p0, p1, p2, ()) := by kernel_rfl
theorem fieldV_oc : OC fieldV_P 92 fieldV_ins fieldV_outs fieldV := OC.of_tree fieldV_env Tryz.func92 (by kernel_rfl) (by kernel_rfl) (p := fieldV_p) (fun g hg => LoOk.of (l := []) (by kernel_rfl) .nil) (fun (p0, p1, p2, ()) => fieldV_eq p0 p1 p2)
noncomputable def cx_fieldV : Ctx := addO cx_idxBnd 92 (ocOrc fieldV_ins fieldV_outs fieldV)
theorem en_fieldV : EnvFull Tryz.prog cx_fieldV := env_add (en_idxBnd) fieldV_oc.callOk
noncomputable def truthV_B : (Bool × Unit) → Br (zA8 × Unit) := fun (p0, ()) =>
 (.ret ((3, 0, ByteArray.empty, p0), ()))
noncomputable def truthV : (Bool × Unit) → Option (zA8 × Unit) := fun x => (truthV_B x).run
abbrev truthV_ins : List (Bool × Pat) := [(false, .ty false .bool)]
abbrev truthV_outs : List Pat := [.ty false zA4]
noncomputable abbrev truthV_f : Func := Tryz.f70
noncomputable abbrev truthV_P : Program := Tryz.prog
noncomputable def truthV_c : Ctx := { cx_fieldV with base := 1024 }
theorem truthV_env : EnvFull truthV_P truthV_c := env_base (en_fieldV) 1024
noncomputable def truthV_p : Par := { sh := fun _ => none, k := 0, lo := fun _ => none }
theorem truthV_eq (p0 : Bool) : ocRun truthV_c truthV_p truthV_f truthV_ins truthV_outs (p0, ()) = truthV_B (p0, ()) := by kernel_rfl
theorem truthV_oc : OC truthV_P 70 truthV_ins truthV_outs truthV := OC.of_tree truthV_env Tryz.func70 (by kernel_rfl) (by kernel_rfl) (p := truthV_p) (fun g hg => LoOk.of (l := []) (by kernel_rfl) .nil) (fun (p0, ()) => truthV_eq p0)
noncomputable def cx_truthV : Ctx := addO cx_fieldV 70 (ocOrc truthV_ins truthV_outs truthV)
theorem en_truthV : EnvFull Tryz.prog cx_truthV := env_add (en_fieldV) truthV_oc.callOk
noncomputable def numV_B : (Int × Unit) → Br (zA8 × Unit) := fun (p0, ()) =>
 (.ret ((1, p0, ByteArray.empty, false), ()))
noncomputable def numV : (Int × Unit) → Option (zA8 × Unit) := fun x => (numV_B x).run
abbrev numV_ins : List (Bool × Pat) := [(false, .ty false (.int .i64))]
abbrev numV_outs : List Pat := [.ty false zA4]
noncomputable abbrev numV_f : Func := Tryz.f122
noncomputable abbrev numV_P : Program := Tryz.prog
noncomputable def numV_c : Ctx := { cx_truthV with base := 1024 }
theorem numV_env : EnvFull numV_P numV_c := env_base (en_truthV) 1024
noncomputable def numV_p : Par := { sh := fun _ => none, k := 0, lo := fun _ => none }
theorem numV_eq (p0 : Int) : ocRun numV_c numV_p numV_f numV_ins numV_outs (p0, ()) = numV_B (p0, ()) := by kernel_rfl
theorem numV_oc : OC numV_P 122 numV_ins numV_outs numV := OC.of_tree numV_env Tryz.func122 (by kernel_rfl) (by kernel_rfl) (p := numV_p) (fun g hg => LoOk.of (l := []) (by kernel_rfl) .nil) (fun (p0, ()) => numV_eq p0)
noncomputable def cx_numV : Ctx := addO cx_truthV 122 (ocOrc numV_ins numV_outs numV)
theorem en_numV : EnvFull Tryz.prog cx_numV := env_add (en_truthV) numV_oc.callOk
noncomputable def textV_B : (ByteArray × Unit) → Br (zA8 × Unit) := fun (p0, ()) =>
 (.ret ((2, 0, p0, false), ()))
noncomputable def textV : (ByteArray × Unit) → Option (zA8 × Unit) := fun x => (textV_B x).run
abbrev textV_ins : List (Bool × Pat) := [(false, .ty false .str)]
abbrev textV_outs : List Pat := [.ty false zA4]
noncomputable abbrev textV_f : Func := Tryz.f128
noncomputable abbrev textV_P : Program := Tryz.prog
noncomputable def textV_c : Ctx := { cx_numV with base := 1024 }
theorem textV_env : EnvFull textV_P textV_c := env_base (en_numV) 1024
noncomputable def textV_p : Par := { sh := fun _ => none, k := 0, lo := fun _ => none }
theorem textV_eq (p0 : ByteArray) : ocRun textV_c textV_p textV_f textV_ins textV_outs (p0, ()) = textV_B (p0, ()) := by kernel_rfl
theorem textV_oc : OC textV_P 128 textV_ins textV_outs textV := OC.of_tree textV_env Tryz.func128 (by kernel_rfl) (by kernel_rfl) (p := textV_p) (fun g hg => LoOk.of (l := []) (by kernel_rfl) .nil) (fun (p0, ()) => textV_eq p0)
noncomputable def cx_textV : Ctx := addO cx_numV 128 (ocOrc textV_ins textV_outs textV)
theorem en_textV : EnvFull Tryz.prog cx_textV := env_add (en_numV) textV_oc.callOk
noncomputable def mayV_B : (zA8 × Unit) → Br (Bool × Unit) := fun (p0, ()) =>
 (.cond (p0.1 == 1)
 (.opt (numV (p0.2.1, ())) fun y4 =>
 (.ret (decide (p0.1 = y4.1.1) && (decide (p0.2.1 = y4.1.2.1) && (bl p0.2.2.1 == bl y4.1.2.2.1 && p0.2.2.2 == y4.1.2.2.2)), ())))
 (.cond (p0.1 == 2)
 (.opt (textV (p0.2.2.1, ())) fun y5 =>
 (.cond (decide (p0.1 = y5.1.1) && (decide (p0.2.1 = y5.1.2.1) && (bl p0.2.2.1 == bl y5.1.2.2.1 && p0.2.2.2 == y5.1.2.2.2)))
 (.ret (decide ((↑(ByteArray.size p0.2.2.1) : Int) ≤ 64), ()))
 (.ret (false, ()))))
 (.cond (p0.1 == 3)
 (.opt (truthV (p0.2.2.2, ())) fun y6 =>
 (.ret (decide (p0.1 = y6.1.1) && (decide (p0.2.1 = y6.1.2.1) && (bl p0.2.2.1 == bl y6.1.2.2.1 && p0.2.2.2 == y6.1.2.2.2)), ())))
 (.ret (false, ())))))
noncomputable def mayV : (zA8 × Unit) → Option (Bool × Unit) := fun x => (mayV_B x).run
abbrev mayV_ins : List (Bool × Pat) := [(false, .ty false zA4)]
abbrev mayV_outs : List Pat := [.ty false .bool]
noncomputable abbrev mayV_f : Func := Tryz.f116
noncomputable abbrev mayV_P : Program := Tryz.prog
noncomputable def mayV_c : Ctx := { cx_textV with base := 1024 }
theorem mayV_env : EnvFull mayV_P mayV_c := env_base (en_textV) 1024
noncomputable def mayV_p : Par := { sh := fun _ => none, k := 0, lo := fun _ => none }
theorem mayV_eq (p0 : zA8) : ocRun mayV_c mayV_p mayV_f mayV_ins mayV_outs (p0, ()) = mayV_B (p0, ()) := by kernel_rfl
theorem mayV_oc : OC mayV_P 116 mayV_ins mayV_outs mayV := OC.of_tree mayV_env Tryz.func116 (by kernel_rfl) (by kernel_rfl) (p := mayV_p) (fun g hg => LoOk.of (l := []) (by kernel_rfl) .nil) (fun (p0, ()) => mayV_eq p0)
noncomputable def cx_mayV : Ctx := addO cx_textV 116 (ocOrc mayV_ins mayV_outs mayV)
theorem en_mayV : EnvFull Tryz.prog cx_mayV := env_add (en_textV) mayV_oc.callOk
noncomputable def nodeM_B : (zA12 × Unit) → Br (Bool × Unit) := fun (p0, ()) =>
 (.cond (p0.1 == 1)
 (.opt (mayV (p0.2.1, ())) fun y4 =>
 (.cond y4.1
 (.cond (p0.2.1.2.1 != -9223372036854775808)
 (.cond (bl p0.2.2.1 == bl { data := #[] })
 (.ret (bl p0.2.2.2 == bl { data := #[] }, ()))
 (.ret (false, ())))
 (.ret (false, ())))
 (.ret (false, ()))))
 (.cond (p0.1 == 2)
 (.cond (decide (p0.2.1.1 = 0) && (decide (p0.2.1.2.1 = 0) && (bl p0.2.1.2.2.1 == bl ByteArray.empty && p0.2.1.2.2.2 == false)))
 (.opt (nameF (p0.2.2.1, ())) fun y5 =>
 (.cond y5.1
 (.opt (nameF (p0.2.2.2, ())) fun y6 =>
 (.ret (y6.1, ())))
 (.ret (false, ()))))
 (.ret (false, ())))
 (.ret (decide (p0.1 = p0.1) && (decide (p0.2.1.1 = 0) && (decide (p0.2.1.2.1 = 0) && (bl p0.2.1.2.2.1 == bl ByteArray.empty && p0.2.1.2.2.2 == false)) && (bl p0.2.2.1 == bl ByteArray.empty && bl p0.2.2.2 == bl ByteArray.empty)), ()))))
noncomputable def nodeM : (zA12 × Unit) → Option (Bool × Unit) := fun x => (nodeM_B x).run
abbrev nodeM_ins : List (Bool × Pat) := [(false, .ty false zA13)]
abbrev nodeM_outs : List Pat := [.ty false .bool]
noncomputable abbrev nodeM_f : Func := Tryz.f104
noncomputable abbrev nodeM_P : Program := Tryz.prog
noncomputable def nodeM_c : Ctx := { cx_mayV with base := 1024 }
theorem nodeM_env : EnvFull nodeM_P nodeM_c := env_base (en_mayV) 1024
noncomputable def nodeM_p : Par := { sh := fun _ => none, k := 0, lo := fun _ => none }
theorem nodeM_eq (p0 : zA12) : ocRun nodeM_c nodeM_p nodeM_f nodeM_ins nodeM_outs (p0, ()) = nodeM_B (p0, ()) := by kernel_rfl
theorem nodeM_oc : OC nodeM_P 104 nodeM_ins nodeM_outs nodeM := OC.of_tree nodeM_env Tryz.func104 (by kernel_rfl) (by kernel_rfl) (p := nodeM_p) (fun g hg => LoOk.of (l := []) (by kernel_rfl) .nil) (fun (p0, ()) => nodeM_eq p0)
noncomputable def cx_nodeM : Ctx := addO cx_mayV 104 (ocOrc nodeM_ins nodeM_outs nodeM)
theorem en_nodeM : EnvFull Tryz.prog cx_nodeM := env_add (en_mayV) nodeM_oc.callOk
noncomputable def partsT_B : (Int × Unit) → Br (Int × Unit) := fun (p0, ()) =>
 (.cond (p0 == 1)
 (.ret (0, ()))
 (.cond (p0 == 2)
 (.ret (0, ()))
 (.cond (p0 == 3)
 (.ret (1, ()))
 (.cond (p0 == 13)
 (.ret (1, ()))
 (.cond (decide (p0 ≥ 4))
 (.cond (decide (p0 ≤ 15))
 (.ret (2, ()))
 (.ret (-1, ())))
 (.ret (-1, ())))))))
noncomputable def partsT : (Int × Unit) → Option (Int × Unit) := fun x => (partsT_B x).run
abbrev partsT_ins : List (Bool × Pat) := [(false, .ty false (.int .i64))]
abbrev partsT_outs : List Pat := [.ty false (.int .i64)]
noncomputable abbrev partsT_f : Func := Tryz.f91
noncomputable abbrev partsT_P : Program := Tryz.prog
noncomputable def partsT_c : Ctx := { cx_nodeM with base := 1024 }
theorem partsT_env : EnvFull partsT_P partsT_c := env_base (en_nodeM) 1024
noncomputable def partsT_p : Par := { sh := fun _ => none, k := 0, lo := fun _ => none }
theorem partsT_eq (p0 : Int) : ocRun partsT_c partsT_p partsT_f partsT_ins partsT_outs (p0, ()) = partsT_B (p0, ()) := by kernel_rfl
theorem partsT_oc : OC partsT_P 91 partsT_ins partsT_outs partsT := OC.of_tree partsT_env Tryz.func91 (by kernel_rfl) (by kernel_rfl) (p := partsT_p) (fun g hg => LoOk.of (l := []) (by kernel_rfl) .nil) (fun (p0, ()) => partsT_eq p0)
noncomputable def cx_partsT : Ctx := addO cx_nodeM 91 (ocOrc partsT_ins partsT_outs partsT)
theorem en_partsT : EnvFull Tryz.prog cx_partsT := env_add (en_nodeM) partsT_oc.callOk
noncomputable def mayT_l0 : (Int × ((List zA12) × (Int × (Int × Unit)))) → Br ((Int × ((List zA12) × (Int × (Int × Unit)))) ⊕ (Unit ⊕ (Int × Unit))) := fun (a, b, c, d, ()) =>
 (.cond (decide (d < c))
 (.cond (decide (0 ≤ d) && decide (d < (↑(List.length b) : Int)))
 (.opt (partsT ((List.getD b (Int.toNat d) (0, zV0, ByteArray.empty, ByteArray.empty)).1, ())) fun e =>
 (.cond (decide (e.1 < 0))
 (.ret (.inr (.inl (()))))
 (.opt (nodeM (List.getD b (Int.toNat d) (0, zV0, ByteArray.empty, ByteArray.empty), ())) fun f =>
 (.cond (!f.1)
 (.ret (.inr (.inl (()))))
 (.cond (decide (a < e.1))
 (.ret (.inr (.inl (()))))
 (.ret (.inl (IntKind.wrap .i64 (a + IntKind.wrap .i64 (1 - e.1)), b, c, IntKind.wrap .i64 (d + 1), ()))))))))
 (.no))
 (.ret (.inr (.inr (a, ())))))
noncomputable def mayT_w0 : (Int × ((List zA12) × (Int × (Int × Unit)))) → Option (Unit ⊕ (Int × Unit)) := iterO fun x => (mayT_l0 x).run
noncomputable def mayT_B : ((List zA12) × Unit) → Br (Bool × Unit) := fun (p0, ()) =>
 (.cond (decide ((↑(List.length p0) : Int) > 64))
 (.ret (false, ()))
 (.opt (mayT_w0 (0, p0, (↑(List.length p0) : Int), 0, ())) fun a =>
 (.sum a (fun b =>
 (.ret (false, ()))) (fun c =>
 (.ret (c.1 == 1, ()))))))
noncomputable def mayT : ((List zA12) × Unit) → Option (Bool × Unit) := fun x => (mayT_B x).run
abbrev mayT_ins : List (Bool × Pat) := [(false, .ty true (.sl zA13))]
abbrev mayT_outs : List Pat := [.ty false .bool]
noncomputable abbrev mayT_f : Func := Tryz.f90
noncomputable abbrev mayT_P : Program := Tryz.prog
abbrev mayT_kp : List Nat := kpOf mayT_ins
abbrev mayT_kf : List Nat := kfOf mayT_ins
noncomputable def mayT_c : Ctx := { cx_partsT with base := 1024 }
theorem mayT_env : EnvFull mayT_P mayT_c := env_base (en_partsT) 1024
abbrev mayT_H0 : List Hole := [.slot 3 false (.int .i64), .slot 10 true (.sl zA13), .slot 11 false (.int .i64), .slot 12 false (.int .i64)]
def mayT_S0 : Skel := ⟨38, [], []⟩
abbrev mayT_H0e0 : List Hole := []
def mayT_S0e0 : Skel := ⟨38, [(2, D.c C.ff)], []⟩
abbrev mayT_H0e1 : List Hole := [.slot 3 false (.int .i64)]
def mayT_S0e1 : Skel := ⟨38, [], []⟩
def mayT_h0 : Exit → Shape
 | .normal => ⟨[(3, .as false (.int .i64)), (10, .as true (.sl zA13)), (11, .as false (.int .i64)), (12, .as false (.int .i64))], [], []⟩
 | .ret => ⟨[(2, .keep)], [], []⟩
 | .exit 0 => ⟨[(3, .as false (.int .i64))], [], []⟩
 | _ => ⟨[], [], []⟩
def mayT_e0 : (Unit ⊕ (Int × Unit)) → Exit × St
 | (.inl u) => (.ret, mayT_S0e0.fillK mayT_kf mayT_H0e0 u)
 | (.inr u) => (.exit 0, mayT_S0e1.fillK mayT_kf mayT_H0e1 u)
def mayT_t0 : (Unit ⊕ (Int × Unit)) → Br (Exit × St) := fun z => .sum z (fun u => .ret (.ret, mayT_S0e0.fillK mayT_kf mayT_H0e0 u)) (fun u => .ret (.exit 0, mayT_S0e1.fillK mayT_kf mayT_H0e1 u))
noncomputable def mayT_C0 : Code := loopAt 0 (bodyOf mayT_f)
noncomputable def mayT_o0 : St → Br (Exit × St) := loopF mayT_kp mayT_kf 1024 (mayT_h0 .normal) (mayT_S0.parseK mayT_kf mayT_H0) fun x => .opt (mayT_w0 x) mayT_t0
noncomputable def mayT_p : Par := { sh := fun _ => none, k := 0, lo := fun i => bif Nat.beq i 5 then some mayT_o0 else none }
theorem mayT_r0 (a : Int) (b : (List zA12)) (c : Int) (d : Int) : roundF mayT_kp mayT_kf mayT_c mayT_p mayT_h0 mayT_C0 (mayT_S0.fillK mayT_kf mayT_H0 (a, b, c, d, ())) = (mayT_l0 (a, b, c, d, ())).bind (loopLeaf (fun x => mayT_S0.fillK mayT_kf mayT_H0 x) mayT_e0) := by kernel_rfl
theorem mayT_ok0 (g : Cfg) (hg : ∀ n, Go.PI.look n g.m0 ≠ Option.none → n ∈ mayT_kp) : LoopOk mayT_P g mayT_o0 mayT_C0 := LoopOk.auto mayT_env hg mayT_p (LoOk.of (l := []) (by kernel_rfl) .nil) mayT_h0 (fun x => mayT_S0.fillK mayT_kf mayT_H0 x) (fun s x h => Skel.parseK_ok s x h) mayT_l0 mayT_e0 (fun z h => by rcases z with z | z <;> cases h) mayT_t0 (fun z => by rcases z with z | z <;> rfl) (fun (a, b, c, d, ()) => mayT_r0 a b c d)
theorem mayT_eq (p0 : (List zA12)) : ocRun mayT_c mayT_p mayT_f mayT_ins mayT_outs (p0, ()) = mayT_B (p0, ()) := by kernel_rfl
theorem mayT_oc : OC mayT_P 90 mayT_ins mayT_outs mayT := OC.of_tree mayT_env Tryz.func90 (by kernel_rfl) (by kernel_rfl) (p := mayT_p) (fun g hg => LoOk.of (l := [mayT_C0]) (by kernel_rfl) (.cons (mayT_ok0 g hg) (by kernel_rfl) .nil)) (fun (p0, ()) => mayT_eq p0)
noncomputable def cx_mayT : Ctx := addO cx_partsT 90 (ocOrc mayT_ins mayT_outs mayT)
theorem en_mayT : EnvFull Tryz.prog cx_mayT := env_add (en_partsT) mayT_oc.callOk
noncomputable def addN_B : (Int × (Int × Unit)) → Br ((Int × Bool) × Unit) := fun (p0, p1, ()) =>
 (.cond (decide (p1 > 0))
 (.cond (decide (p0 > IntKind.wrap .i64 (9223372036854775807 - p1)))
 (.ret ((0, false), ()))
 (.cond (decide (p1 < 0))
 (.cond (decide (p0 < IntKind.wrap .i64 (-9223372036854775808 - p1)))
 (.ret ((0, false), ()))
 (.ret ((IntKind.wrap .i64 (p0 + p1), true), ())))
 (.ret ((IntKind.wrap .i64 (p0 + p1), true), ()))))
 (.cond (decide (p1 < 0))
 (.cond (decide (p0 < IntKind.wrap .i64 (-9223372036854775808 - p1)))
 (.ret ((0, false), ()))
 (.ret ((IntKind.wrap .i64 (p0 + p1), true), ())))
 (.ret ((IntKind.wrap .i64 (p0 + p1), true), ()))))
noncomputable def addN : (Int × (Int × Unit)) → Option ((Int × Bool) × Unit) := fun x => (addN_B x).run
abbrev addN_ins : List (Bool × Pat) := zIRb1
abbrev addN_outs : List Pat := [.ty false (.int .i64), .ty false .bool]
noncomputable abbrev addN_f : Func := Tryz.f119
noncomputable abbrev addN_P : Program := Tryz.prog
noncomputable def addN_c : Ctx := { cx_mayT with base := 1024 }
theorem addN_env : EnvFull addN_P addN_c := env_base (en_mayT) 1024
noncomputable def addN_p : Par := { sh := fun _ => none, k := 0, lo := fun _ => none }
theorem addN_eq (p0 : Int) (p1 : Int) : ocRun addN_c addN_p addN_f addN_ins addN_outs (p0, p1, ()) = addN_B (p0, p1, ()) := by kernel_rfl
theorem addN_oc : OC addN_P 119 addN_ins addN_outs addN := OC.of_tree addN_env Tryz.func119 (by kernel_rfl) (by kernel_rfl) (p := addN_p) (fun g hg => LoOk.of (l := []) (by kernel_rfl) .nil) (fun (p0, p1, ()) => addN_eq p0 p1)
noncomputable def cx_addN : Ctx := addO cx_mayT 119 (ocOrc addN_ins addN_outs addN)
theorem en_addN : EnvFull Tryz.prog cx_addN := env_add (en_mayT) addN_oc.callOk
noncomputable def subN_B : (Int × (Int × Unit)) → Br ((Int × Bool) × Unit) := fun (p0, p1, ()) =>
 (.cond (decide (p1 < 0))
 (.cond (decide (p0 > IntKind.wrap .i64 (9223372036854775807 + p1)))
 (.ret ((0, false), ()))
 (.cond (decide (p1 > 0))
 (.cond (decide (p0 < IntKind.wrap .i64 (-9223372036854775808 + p1)))
 (.ret ((0, false), ()))
 (.ret ((IntKind.wrap .i64 (p0 - p1), true), ())))
 (.ret ((IntKind.wrap .i64 (p0 - p1), true), ()))))
 (.cond (decide (p1 > 0))
 (.cond (decide (p0 < IntKind.wrap .i64 (-9223372036854775808 + p1)))
 (.ret ((0, false), ()))
 (.ret ((IntKind.wrap .i64 (p0 - p1), true), ())))
 (.ret ((IntKind.wrap .i64 (p0 - p1), true), ()))))
noncomputable def subN : (Int × (Int × Unit)) → Option ((Int × Bool) × Unit) := fun x => (subN_B x).run
abbrev subN_ins : List (Bool × Pat) := zIRb1
abbrev subN_outs : List Pat := [.ty false (.int .i64), .ty false .bool]
noncomputable abbrev subN_f : Func := Tryz.f120
noncomputable abbrev subN_P : Program := Tryz.prog
noncomputable def subN_c : Ctx := { cx_addN with base := 1024 }
theorem subN_env : EnvFull subN_P subN_c := env_base (en_addN) 1024
noncomputable def subN_p : Par := { sh := fun _ => none, k := 0, lo := fun _ => none }
theorem subN_eq (p0 : Int) (p1 : Int) : ocRun subN_c subN_p subN_f subN_ins subN_outs (p0, p1, ()) = subN_B (p0, p1, ()) := by kernel_rfl
theorem subN_oc : OC subN_P 120 subN_ins subN_outs subN := OC.of_tree subN_env Tryz.func120 (by kernel_rfl) (by kernel_rfl) (p := subN_p) (fun g hg => LoOk.of (l := []) (by kernel_rfl) .nil) (fun (p0, p1, ()) => subN_eq p0 p1)
noncomputable def cx_subN : Ctx := addO cx_addN 120 (ocOrc subN_ins subN_outs subN)
theorem en_subN : EnvFull Tryz.prog cx_subN := env_add (en_addN) subN_oc.callOk
noncomputable def mulN_B : (Int × (Int × Unit)) → Br ((Int × Bool) × Unit) := fun (p0, p1, ()) =>
 (.cond (p0 == 0)
 (.ret ((0, true), ()))
 (.cond (p1 == 0)
 (.ret ((0, true), ()))
 (.cond (p0 == -1)
 (.cond (p1 == -9223372036854775808)
 (.ret ((0, false), ()))
 (.cond (p1 == -1)
 (.cond (p0 == -9223372036854775808)
 (.ret ((0, false), ()))
 (.cond (decide (p1 = 0))
 (.no)
 (.cond (IntKind.wrap .i64 (Int.tdiv (IntKind.wrap .i64 (p0 * p1)) p1) != p0)
 (.ret ((0, false), ()))
 (.ret ((IntKind.wrap .i64 (p0 * p1), true), ())))))
 (.cond (decide (p1 = 0))
 (.no)
 (.cond (IntKind.wrap .i64 (Int.tdiv (IntKind.wrap .i64 (p0 * p1)) p1) != p0)
 (.ret ((0, false), ()))
 (.ret ((IntKind.wrap .i64 (p0 * p1), true), ()))))))
 (.cond (p1 == -1)
 (.cond (p0 == -9223372036854775808)
 (.ret ((0, false), ()))
 (.cond (decide (p1 = 0))
 (.no)
 (.cond (IntKind.wrap .i64 (Int.tdiv (IntKind.wrap .i64 (p0 * p1)) p1) != p0)
 (.ret ((0, false), ()))
 (.ret ((IntKind.wrap .i64 (p0 * p1), true), ())))))
 (.cond (decide (p1 = 0))
 (.no)
 (.cond (IntKind.wrap .i64 (Int.tdiv (IntKind.wrap .i64 (p0 * p1)) p1) != p0)
 (.ret ((0, false), ()))
 (.ret ((IntKind.wrap .i64 (p0 * p1), true), ()))))))))
noncomputable def mulN : (Int × (Int × Unit)) → Option ((Int × Bool) × Unit) := fun x => (mulN_B x).run
abbrev mulN_ins : List (Bool × Pat) := zIRb1
abbrev mulN_outs : List Pat := [.ty false (.int .i64), .ty false .bool]
noncomputable abbrev mulN_f : Func := Tryz.f121
noncomputable abbrev mulN_P : Program := Tryz.prog
noncomputable def mulN_c : Ctx := { cx_subN with base := 1024 }
theorem mulN_env : EnvFull mulN_P mulN_c := env_base (en_subN) 1024
noncomputable def mulN_p : Par := { sh := fun _ => none, k := 0, lo := fun _ => none }
theorem mulN_eq (p0 : Int) (p1 : Int) : ocRun mulN_c mulN_p mulN_f mulN_ins mulN_outs (p0, p1, ()) = mulN_B (p0, p1, ()) := by kernel_rfl
theorem mulN_oc : OC mulN_P 121 mulN_ins mulN_outs mulN := OC.of_tree mulN_env Tryz.func121 (by kernel_rfl) (by kernel_rfl) (p := mulN_p) (fun g hg => LoOk.of (l := []) (by kernel_rfl) .nil) (fun (p0, p1, ()) => mulN_eq p0 p1)
noncomputable def cx_mulN : Ctx := addO cx_subN 121 (ocOrc mulN_ins mulN_outs mulN)
theorem en_mulN : EnvFull Tryz.prog cx_mulN := env_add (en_subN) mulN_oc.callOk
noncomputable def negN_B : (Int × Unit) → Br ((Int × Bool) × Unit) := fun (p0, ()) =>
 (.opt (subN (0, p0, ())) fun y2 =>
 (.ret ((y2.1.1, y2.1.2), ())))
noncomputable def negN : (Int × Unit) → Option ((Int × Bool) × Unit) := fun x => (negN_B x).run
abbrev negN_ins : List (Bool × Pat) := [(false, .ty false (.int .i64))]
abbrev negN_outs : List Pat := [.ty false (.int .i64), .ty false .bool]
noncomputable abbrev negN_f : Func := Tryz.f118
noncomputable abbrev negN_P : Program := Tryz.prog
noncomputable def negN_c : Ctx := { cx_mulN with base := 1024 }
theorem negN_env : EnvFull negN_P negN_c := env_base (en_mulN) 1024
noncomputable def negN_p : Par := { sh := fun _ => none, k := 0, lo := fun _ => none }
theorem negN_eq (p0 : Int) : ocRun negN_c negN_p negN_f negN_ins negN_outs (p0, ()) = negN_B (p0, ()) := by kernel_rfl
theorem negN_oc : OC negN_P 118 negN_ins negN_outs negN := OC.of_tree negN_env Tryz.func118 (by kernel_rfl) (by kernel_rfl) (p := negN_p) (fun g hg => LoOk.of (l := []) (by kernel_rfl) .nil) (fun (p0, ()) => negN_eq p0)
noncomputable def cx_negN : Ctx := addO cx_mulN 118 (ocOrc negN_ins negN_outs negN)
theorem en_negN : EnvFull Tryz.prog cx_negN := env_add (en_mulN) negN_oc.callOk
noncomputable def numbersE_l0 : zA33 → Br (zA33 ⊕ ((zA8 × Unit) ⊕ (Int × ((List zA8) × (zA8 × Unit))))) := fun (a, b, c, d, e, f, ()) =>
 (.cond (decide (e < d))
 (.cond (decide (0 ≤ e) && decide (e < (↑(List.length c) : Int)))
 (.cond ((List.getD c (Int.toNat e) zV0).1 != 1)
 (.ret (.inr (.inl (zV0, ()))))
 (.ret (.inl (a, b, c, d, IntKind.wrap .i64 (e + 1), f, ()))))
 (.no))
 (.ret (.inr (.inr (a, b, f, ())))))
noncomputable def numbersE_w0 : zA33 → Option ((zA8 × Unit) ⊕ (Int × ((List zA8) × (zA8 × Unit)))) := iterO fun x => (numbersE_l0 x).run
noncomputable def numbersE_B : (Int × ((List zA8) × Unit)) → Br ((zA8 × Bool) × Unit) := fun (p0, p1, ()) =>
 (.opt (numbersE_w0 (p0, p1, p1, (↑(List.length p1) : Int), 0, zV0, ())) fun a =>
 (.sum a (fun b =>
 (.ret ((b.1, false), ()))) (fun c =>
 (.cond (c.1 == 3)
 (.cond (decide (0 ≤ 0) && decide (0 < (↑(List.length c.2.1) : Int)))
 (.opt (negN ((List.getD c.2.1 (Int.toNat 0) zV0).2.1, ())) fun d =>
 (.cond (!d.1.2)
 (.ret ((zV0, false), ()))
 (.opt (numV (d.1.1, ())) fun e =>
 (.ret ((e.1, true), ())))))
 (.no))
 (.cond (c.1 == 4)
 (.cond (decide (0 ≤ 0) && decide (0 < (↑(List.length c.2.1) : Int)))
 (.cond (decide (0 ≤ 1) && decide (1 < (↑(List.length c.2.1) : Int)))
 (.opt (addN ((List.getD c.2.1 (Int.toNat 0) zV0).2.1, (List.getD c.2.1 (Int.toNat 1) zV0).2.1, ())) fun f =>
 (.cond (!f.1.2)
 (.ret ((zV0, false), ()))
 (.opt (numV (f.1.1, ())) fun g =>
 (.ret ((g.1, true), ())))))
 (.no))
 (.no))
 (.cond (c.1 == 5)
 (.cond (decide (0 ≤ 0) && decide (0 < (↑(List.length c.2.1) : Int)))
 (.cond (decide (0 ≤ 1) && decide (1 < (↑(List.length c.2.1) : Int)))
 (.opt (subN ((List.getD c.2.1 (Int.toNat 0) zV0).2.1, (List.getD c.2.1 (Int.toNat 1) zV0).2.1, ())) fun h =>
 (.cond (!h.1.2)
 (.ret ((zV0, false), ()))
 (.opt (numV (h.1.1, ())) fun i =>
 (.ret ((i.1, true), ())))))
 (.no))
 (.no))
 (.cond (c.1 == 6)
 (.cond (decide (0 ≤ 0) && decide (0 < (↑(List.length c.2.1) : Int)))
 (.cond (decide (0 ≤ 1) && decide (1 < (↑(List.length c.2.1) : Int)))
 (.opt (mulN ((List.getD c.2.1 (Int.toNat 0) zV0).2.1, (List.getD c.2.1 (Int.toNat 1) zV0).2.1, ())) fun j =>
 (.cond (!j.1.2)
 (.ret ((zV0, false), ()))
 (.opt (numV (j.1.1, ())) fun k =>
 (.ret ((k.1, true), ())))))
 (.no))
 (.no))
 (.ret ((zV0, false), ())))))))))
noncomputable def numbersE : (Int × ((List zA8) × Unit)) → Option ((zA8 × Bool) × Unit) := fun x => (numbersE_B x).run
abbrev numbersE_ins : List (Bool × Pat) := [(false, .ty false (.int .i64)), (false, .ty true (.sl zA4))]
abbrev numbersE_outs : List Pat := [.ty false zA4, .ty false .bool]
noncomputable abbrev numbersE_f : Func := Tryz.f108
noncomputable abbrev numbersE_P : Program := Tryz.prog
abbrev numbersE_kp : List Nat := kpOf numbersE_ins
abbrev numbersE_kf : List Nat := kfOf numbersE_ins
noncomputable def numbersE_c : Ctx := { cx_negN with base := 1024 }
theorem numbersE_env : EnvFull numbersE_P numbersE_c := env_base (en_negN) 1024
abbrev numbersE_H0 : List Hole := [.slot 0 false (.int .i64), .slot 1 true (.sl zA4), .slot 10 true (.sl zA4), .slot 11 false (.int .i64), .slot 12 false (.int .i64), .tv 1028 false zA4]
def numbersE_S0 : Skel := ⟨79, [(4, D.c (C.ref 1028 0 0))], [(1028, [])]⟩
abbrev numbersE_H0e0 : List Hole := [.tv 1028 false zA4]
def numbersE_S0e0 : Skel := ⟨79, [(4, D.c (C.ref 1028 0 0)), (5, D.c C.ff)], [(1028, [])]⟩
abbrev numbersE_H0e1 : List Hole := [.slot 0 false (.int .i64), .slot 1 true (.sl zA4), .tv 1028 false zA4]
def numbersE_S0e1 : Skel := ⟨79, [(4, D.c (C.ref 1028 0 0))], [(1028, [])]⟩
def numbersE_h0 : Exit → Shape
 | .normal => ⟨[(0, .as false (.int .i64)), (1, .as true (.sl zA4)), (4, .keep), (10, .as true (.sl zA4)), (11, .as false (.int .i64)), (12, .as false (.int .i64))], [], [(4, false)]⟩
 | .ret => ⟨[(4, .keep), (5, .keep)], [], [(4, false)]⟩
 | .exit 0 => ⟨[(0, .as false (.int .i64)), (1, .as true (.sl zA4)), (4, .keep)], [], [(4, false)]⟩
 | _ => ⟨[], [], []⟩
def numbersE_e0 : ((zA8 × Unit) ⊕ (Int × ((List zA8) × (zA8 × Unit)))) → Exit × St
 | (.inl u) => (.ret, numbersE_S0e0.fillK numbersE_kf numbersE_H0e0 u)
 | (.inr u) => (.exit 0, numbersE_S0e1.fillK numbersE_kf numbersE_H0e1 u)
def numbersE_t0 : ((zA8 × Unit) ⊕ (Int × ((List zA8) × (zA8 × Unit)))) → Br (Exit × St) := fun z => .sum z (fun u => .ret (.ret, numbersE_S0e0.fillK numbersE_kf numbersE_H0e0 u)) (fun u => .ret (.exit 0, numbersE_S0e1.fillK numbersE_kf numbersE_H0e1 u))
noncomputable def numbersE_C0 : Code := loopAt 0 (bodyOf numbersE_f)
noncomputable def numbersE_o0 : St → Br (Exit × St) := loopF numbersE_kp numbersE_kf 1024 (numbersE_h0 .normal) (numbersE_S0.parseK numbersE_kf numbersE_H0) fun x => .opt (numbersE_w0 x) numbersE_t0
noncomputable def numbersE_p : Par := { sh := fun _ => none, k := 0, lo := fun i => bif Nat.beq i 2 then some numbersE_o0 else none }
theorem numbersE_r0 (a : Int) (b : (List zA8)) (c : (List zA8)) (d : Int) (e : Int) (f : zA8) : roundF numbersE_kp numbersE_kf numbersE_c numbersE_p numbersE_h0 numbersE_C0 (numbersE_S0.fillK numbersE_kf numbersE_H0 (a, b, c, d, e, f, ())) = (numbersE_l0 (a, b, c, d, e, f, ())).bind (loopLeaf (fun x => numbersE_S0.fillK numbersE_kf numbersE_H0 x) numbersE_e0) := by kernel_rfl
theorem numbersE_ok0 (g : Cfg) (hg : ∀ n, Go.PI.look n g.m0 ≠ Option.none → n ∈ numbersE_kp) : LoopOk numbersE_P g numbersE_o0 numbersE_C0 := LoopOk.auto numbersE_env hg numbersE_p (LoOk.of (l := []) (by kernel_rfl) .nil) numbersE_h0 (fun x => numbersE_S0.fillK numbersE_kf numbersE_H0 x) (fun s x h => Skel.parseK_ok s x h) numbersE_l0 numbersE_e0 (fun z h => by rcases z with z | z <;> cases h) numbersE_t0 (fun z => by rcases z with z | z <;> rfl) (fun (a, b, c, d, e, f, ()) => numbersE_r0 a b c d e f)
theorem numbersE_eq (p0 : Int) (p1 : (List zA8)) : ocRun numbersE_c numbersE_p numbersE_f numbersE_ins numbersE_outs (p0, p1, ()) = numbersE_B (p0, p1, ()) := by kernel_rfl
theorem numbersE_oc : OC numbersE_P 108 numbersE_ins numbersE_outs numbersE := OC.of_tree numbersE_env Tryz.func108 (by kernel_rfl) (by kernel_rfl) (p := numbersE_p) (fun g hg => LoOk.of (l := [numbersE_C0]) (by kernel_rfl) (.cons (numbersE_ok0 g hg) (by kernel_rfl) .nil)) (fun (p0, p1, ()) => numbersE_eq p0 p1)
noncomputable def cx_numbersE : Ctx := addO cx_negN 108 (ocOrc numbersE_ins numbersE_outs numbersE)
theorem en_numbersE : EnvFull Tryz.prog cx_numbersE := env_add (en_negN) numbersE_oc.callOk
noncomputable def holdsE_B : (Int × (Int × Unit)) → Br (Bool × Unit) := fun (p0, p1, ()) =>
 (.cond (p0 == 7)
 (.ret (p1 == 0, ()))
 (.cond (p0 == 8)
 (.ret (p1 != 0, ()))
 (.cond (p0 == 9)
 (.ret (decide (p1 < 0), ()))
 (.cond (p0 == 10)
 (.ret (decide (p1 ≤ 0), ()))
 (.cond (p0 == 11)
 (.ret (decide (p1 > 0), ()))
 (.ret (decide (p1 ≥ 0), ())))))))
noncomputable def holdsE : (Int × (Int × Unit)) → Option (Bool × Unit) := fun x => (holdsE_B x).run
abbrev holdsE_ins : List (Bool × Pat) := zIRb1
abbrev holdsE_outs : List Pat := [.ty false .bool]
noncomputable abbrev holdsE_f : Func := Tryz.f110
noncomputable abbrev holdsE_P : Program := Tryz.prog
noncomputable def holdsE_c : Ctx := { cx_numbersE with base := 1024 }
theorem holdsE_env : EnvFull holdsE_P holdsE_c := env_base (en_numbersE) 1024
noncomputable def holdsE_p : Par := { sh := fun _ => none, k := 0, lo := fun _ => none }
theorem holdsE_eq (p0 : Int) (p1 : Int) : ocRun holdsE_c holdsE_p holdsE_f holdsE_ins holdsE_outs (p0, p1, ()) = holdsE_B (p0, p1, ()) := by kernel_rfl
theorem holdsE_oc : OC holdsE_P 110 holdsE_ins holdsE_outs holdsE := OC.of_tree holdsE_env Tryz.func110 (by kernel_rfl) (by kernel_rfl) (p := holdsE_p) (fun g hg => LoOk.of (l := []) (by kernel_rfl) .nil) (fun (p0, p1, ()) => holdsE_eq p0 p1)
noncomputable def cx_holdsE : Ctx := addO cx_numbersE 110 (ocOrc holdsE_ins holdsE_outs holdsE)
theorem en_holdsE : EnvFull Tryz.prog cx_holdsE := env_add (en_numbersE) holdsE_oc.callOk
noncomputable def truthsE_l0 : zA33 → Br (zA33 ⊕ ((zA8 × Unit) ⊕ (Int × ((List zA8) × (zA8 × Unit))))) := fun (a, b, c, d, e, f, ()) =>
 (.cond (decide (e < d))
 (.cond (decide (0 ≤ e) && decide (e < (↑(List.length c) : Int)))
 (.cond ((List.getD c (Int.toNat e) zV0).1 != 3)
 (.ret (.inr (.inl (zV0, ()))))
 (.ret (.inl (a, b, c, d, IntKind.wrap .i64 (e + 1), f, ()))))
 (.no))
 (.ret (.inr (.inr (a, b, f, ())))))
noncomputable def truthsE_w0 : zA33 → Option ((zA8 × Unit) ⊕ (Int × ((List zA8) × (zA8 × Unit)))) := iterO fun x => (truthsE_l0 x).run
noncomputable def truthsE_B : (Int × ((List zA8) × Unit)) → Br ((zA8 × Bool) × Unit) := fun (p0, p1, ()) =>
 (.opt (truthsE_w0 (p0, p1, p1, (↑(List.length p1) : Int), 0, zV0, ())) fun a =>
 (.sum a (fun b =>
 (.ret ((b.1, false), ()))) (fun c =>
 (.cond (c.1 == 13)
 (.cond (decide (0 ≤ 0) && decide (0 < (↑(List.length c.2.1) : Int)))
 (.opt (truthV (!(List.getD c.2.1 (Int.toNat 0) zV0).2.2.2, ())) fun d =>
 (.ret ((d.1, true), ())))
 (.no))
 (.cond (c.1 == 14)
 (.cond (decide (0 ≤ 0) && decide (0 < (↑(List.length c.2.1) : Int)))
 (.cond (List.getD c.2.1 (Int.toNat 0) zV0).2.2.2
 (.cond (decide (0 ≤ 1) && decide (1 < (↑(List.length c.2.1) : Int)))
 (.opt (truthV ((List.getD c.2.1 (Int.toNat 1) zV0).2.2.2, ())) fun e =>
 (.ret ((e.1, true), ())))
 (.no))
 (.opt (truthV (false, ())) fun f =>
 (.ret ((f.1, true), ()))))
 (.no))
 (.cond (decide (0 ≤ 0) && decide (0 < (↑(List.length c.2.1) : Int)))
 (.cond (List.getD c.2.1 (Int.toNat 0) zV0).2.2.2
 (.opt (truthV (true, ())) fun g =>
 (.ret ((g.1, true), ())))
 (.cond (decide (0 ≤ 1) && decide (1 < (↑(List.length c.2.1) : Int)))
 (.opt (truthV ((List.getD c.2.1 (Int.toNat 1) zV0).2.2.2, ())) fun h =>
 (.ret ((h.1, true), ())))
 (.no)))
 (.no)))))))
noncomputable def truthsE : (Int × ((List zA8) × Unit)) → Option ((zA8 × Bool) × Unit) := fun x => (truthsE_B x).run
abbrev truthsE_ins : List (Bool × Pat) := [(false, .ty false (.int .i64)), (false, .ty true (.sl zA4))]
abbrev truthsE_outs : List Pat := [.ty false zA4, .ty false .bool]
noncomputable abbrev truthsE_f : Func := Tryz.f111
noncomputable abbrev truthsE_P : Program := Tryz.prog
abbrev truthsE_kp : List Nat := kpOf truthsE_ins
abbrev truthsE_kf : List Nat := kfOf truthsE_ins
noncomputable def truthsE_c : Ctx := { cx_holdsE with base := 1024 }
theorem truthsE_env : EnvFull truthsE_P truthsE_c := env_base (en_holdsE) 1024
abbrev truthsE_H0 : List Hole := [.slot 0 false (.int .i64), .slot 1 true (.sl zA4), .slot 8 true (.sl zA4), .slot 9 false (.int .i64), .slot 10 false (.int .i64), .tv 1028 false zA4]
def truthsE_S0 : Skel := ⟨52, [(4, D.c (C.ref 1028 0 0))], [(1028, [])]⟩
abbrev truthsE_H0e0 : List Hole := [.tv 1028 false zA4]
def truthsE_S0e0 : Skel := ⟨52, [(4, D.c (C.ref 1028 0 0)), (5, D.c C.ff)], [(1028, [])]⟩
abbrev truthsE_H0e1 : List Hole := [.slot 0 false (.int .i64), .slot 1 true (.sl zA4), .tv 1028 false zA4]
def truthsE_S0e1 : Skel := ⟨52, [(4, D.c (C.ref 1028 0 0))], [(1028, [])]⟩
def truthsE_h0 : Exit → Shape
 | .normal => ⟨[(0, .as false (.int .i64)), (1, .as true (.sl zA4)), (4, .keep), (8, .as true (.sl zA4)), (9, .as false (.int .i64)), (10, .as false (.int .i64))], [], [(4, false)]⟩
 | .ret => ⟨[(4, .keep), (5, .keep)], [], [(4, false)]⟩
 | .exit 0 => ⟨[(0, .as false (.int .i64)), (1, .as true (.sl zA4)), (4, .keep)], [], [(4, false)]⟩
 | _ => ⟨[], [], []⟩
def truthsE_e0 : ((zA8 × Unit) ⊕ (Int × ((List zA8) × (zA8 × Unit)))) → Exit × St
 | (.inl u) => (.ret, truthsE_S0e0.fillK truthsE_kf truthsE_H0e0 u)
 | (.inr u) => (.exit 0, truthsE_S0e1.fillK truthsE_kf truthsE_H0e1 u)
def truthsE_t0 : ((zA8 × Unit) ⊕ (Int × ((List zA8) × (zA8 × Unit)))) → Br (Exit × St) := fun z => .sum z (fun u => .ret (.ret, truthsE_S0e0.fillK truthsE_kf truthsE_H0e0 u)) (fun u => .ret (.exit 0, truthsE_S0e1.fillK truthsE_kf truthsE_H0e1 u))
noncomputable def truthsE_C0 : Code := loopAt 0 (bodyOf truthsE_f)
noncomputable def truthsE_o0 : St → Br (Exit × St) := loopF truthsE_kp truthsE_kf 1024 (truthsE_h0 .normal) (truthsE_S0.parseK truthsE_kf truthsE_H0) fun x => .opt (truthsE_w0 x) truthsE_t0
noncomputable def truthsE_p : Par := { sh := fun _ => none, k := 0, lo := fun i => bif Nat.beq i 2 then some truthsE_o0 else none }
theorem truthsE_r0 (a : Int) (b : (List zA8)) (c : (List zA8)) (d : Int) (e : Int) (f : zA8) : roundF truthsE_kp truthsE_kf truthsE_c truthsE_p truthsE_h0 truthsE_C0 (truthsE_S0.fillK truthsE_kf truthsE_H0 (a, b, c, d, e, f, ())) = (truthsE_l0 (a, b, c, d, e, f, ())).bind (loopLeaf (fun x => truthsE_S0.fillK truthsE_kf truthsE_H0 x) truthsE_e0) := by kernel_rfl
theorem truthsE_ok0 (g : Cfg) (hg : ∀ n, Go.PI.look n g.m0 ≠ Option.none → n ∈ truthsE_kp) : LoopOk truthsE_P g truthsE_o0 truthsE_C0 := LoopOk.auto truthsE_env hg truthsE_p (LoOk.of (l := []) (by kernel_rfl) .nil) truthsE_h0 (fun x => truthsE_S0.fillK truthsE_kf truthsE_H0 x) (fun s x h => Skel.parseK_ok s x h) truthsE_l0 truthsE_e0 (fun z h => by rcases z with z | z <;> cases h) truthsE_t0 (fun z => by rcases z with z | z <;> rfl) (fun (a, b, c, d, e, f, ()) => truthsE_r0 a b c d e f)
theorem truthsE_eq (p0 : Int) (p1 : (List zA8)) : ocRun truthsE_c truthsE_p truthsE_f truthsE_ins truthsE_outs (p0, p1, ()) = truthsE_B (p0, p1, ()) := by kernel_rfl
theorem truthsE_oc : OC truthsE_P 111 truthsE_ins truthsE_outs truthsE := OC.of_tree truthsE_env Tryz.func111 (by kernel_rfl) (by kernel_rfl) (p := truthsE_p) (fun g hg => LoOk.of (l := [truthsE_C0]) (by kernel_rfl) (.cons (truthsE_ok0 g hg) (by kernel_rfl) .nil)) (fun (p0, p1, ()) => truthsE_eq p0 p1)
noncomputable def cx_truthsE : Ctx := addO cx_holdsE 111 (ocOrc truthsE_ins truthsE_outs truthsE)
theorem en_truthsE : EnvFull Tryz.prog cx_truthsE := env_add (en_holdsE) truthsE_oc.callOk
noncomputable def bitV_B : (Bool × Unit) → Br (Int × Unit) := fun (p0, ()) =>
 (.cond (p0)
 (.ret (1, ()))
 (.ret (0, ())))
noncomputable def bitV : (Bool × Unit) → Option (Int × Unit) := fun x => (bitV_B x).run
abbrev bitV_ins : List (Bool × Pat) := [(false, .ty false .bool)]
abbrev bitV_outs : List Pat := [.ty false (.int .i64)]
noncomputable abbrev bitV_f : Func := Tryz.f123
noncomputable abbrev bitV_P : Program := Tryz.prog
noncomputable def bitV_c : Ctx := { cx_truthsE with base := 1024 }
theorem bitV_env : EnvFull bitV_P bitV_c := env_base (en_truthsE) 1024
noncomputable def bitV_p : Par := { sh := fun _ => none, k := 0, lo := fun _ => none }
theorem bitV_eq (p0 : Bool) : ocRun bitV_c bitV_p bitV_f bitV_ins bitV_outs (p0, ()) = bitV_B (p0, ()) := by kernel_rfl
theorem bitV_oc : OC bitV_P 123 bitV_ins bitV_outs bitV := OC.of_tree bitV_env Tryz.func123 (by kernel_rfl) (by kernel_rfl) (p := bitV_p) (fun g hg => LoOk.of (l := []) (by kernel_rfl) .nil) (fun (p0, ()) => bitV_eq p0)
noncomputable def cx_bitV : Ctx := addO cx_truthsE 123 (ocOrc bitV_ins bitV_outs bitV)
theorem en_bitV : EnvFull Tryz.prog cx_bitV := env_add (en_truthsE) bitV_oc.callOk
noncomputable def signV_B : (Int × Unit) → Br (Int × Unit) := fun (p0, ()) =>
 (.ret (if (if 1 < p0 then 1 else p0) < -1 then -1 else if 1 < p0 then 1 else p0, ()))
noncomputable def signV : (Int × Unit) → Option (Int × Unit) := fun x => (signV_B x).run
abbrev signV_ins : List (Bool × Pat) := [(false, .ty false (.int .i64))]
abbrev signV_outs : List Pat := [.ty false (.int .i64)]
noncomputable abbrev signV_f : Func := Tryz.f124
noncomputable abbrev signV_P : Program := Tryz.prog
noncomputable def signV_c : Ctx := { cx_bitV with base := 1024 }
theorem signV_env : EnvFull signV_P signV_c := env_base (en_bitV) 1024
noncomputable def signV_p : Par := { sh := fun _ => none, k := 0, lo := fun _ => none }
theorem signV_eq (p0 : Int) : ocRun signV_c signV_p signV_f signV_ins signV_outs (p0, ()) = signV_B (p0, ()) := by kernel_rfl
theorem signV_oc : OC signV_P 124 signV_ins signV_outs signV := OC.of_tree signV_env Tryz.func124 (by kernel_rfl) (by kernel_rfl) (p := signV_p) (fun g hg => LoOk.of (l := []) (by kernel_rfl) .nil) (fun (p0, ()) => signV_eq p0)
noncomputable def cx_signV : Ctx := addO cx_bitV 124 (ocOrc signV_ins signV_outs signV)
theorem en_signV : EnvFull Tryz.prog cx_signV := env_add (en_bitV) signV_oc.callOk
end Go.Proofs.YtiblijkhpmemeaaGreat
