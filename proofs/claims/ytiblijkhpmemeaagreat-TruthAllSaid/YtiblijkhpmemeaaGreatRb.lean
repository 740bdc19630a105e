/- Contracts of functions. Printed by auto.py. -/
import Derived.Test.YtiblijkhpmemeaaGreatGe
import Derived.Test.YtiblijkhpmemeaaGreatHa
namespace Go.Proofs.YtiblijkhpmemeaaGreat
set_option maxRecDepth 100000
open Go.PI Go
abbrev zIRb1 : List (Bool × Pat) := [(false, .ty false (.int .i64)), (false, .ty false (.int .i64))]
noncomputable def bndEq_B : ((ByteArray × zA2) × (zA12 × Unit)) → Br (Bool × Unit) := fun (p0, p1, ()) =>
 (.ret (bl p0.1 == bl (List.getD [p1] 0 (0, zV0, ByteArray.empty, ByteArray.empty)).2.2.1, ()))
noncomputable def bndEq := fun x => (bndEq_B x).run
theorem bndEq_oc : OC Tryz.prog 106 [(false, .ty true (.st (.pair .str zA9))), (false, .rf zA13)] [.ty false .bool] bndEq := OC.lp en_getF 1024 Tryz.func106 [] (by kernel_rfl) trivial (fun _ => by kernel_rfl)
noncomputable def cx_bndEq : Ctx := ocx cx_getF bndEq_oc
theorem en_bndEq : EnvFull Tryz.prog cx_bndEq := ocn en_getF bndEq_oc
noncomputable def idxBnd_l0 : (zA21 × ((zA12 × Unit) × (Int × (Int × Unit)))) → Br ((zA21 × ((zA12 × Unit) × (Int × (Int × Unit)))) ⊕ ((Int × Unit) ⊕ Unit)) := fun (a, b, c, d, ()) =>
 (.cond (decide (d < c))
 (.cond (decide (0 ≤ d) && decide (d < (↑(List.length a) : Int)))
 (.opt (bndEq (List.getD a (Int.toNat d) zV3, b.1, ())) fun e =>
 (.cond e.1
 (.ret (.inr (.inl (d, ()))))
 (.ret (.inl (a, (b.1, ()), c, IntKind.wrap .i64 (d + 1), ())))))
 (.no))
 (.ret (.inr (.inr (())))))
noncomputable def idxBnd_w0 := iterO fun x => (idxBnd_l0 x).run
noncomputable def idxBnd_B : (zA21 × (zA12 × Unit)) → Br (Int × Unit) := fun (p0, p1, ()) =>
 (.opt (idxBnd_w0 (p0, (p1, ()), (↑(List.length p0) : Int), 0, ())) fun a =>
 (.sum a (fun b =>
 (.ret (b.1, ()))) (fun c =>
 (.ret (-1, ())))))
noncomputable def idxBnd := fun x => (idxBnd_B x).run
noncomputable def idxBnd_L : List Lp := [
 .mk 2 (shO 19 [] [] [.slot 0 true zA35, .cap 1 106 [zA13], sI 7, sI 8] []) ([exO .ret 19 [] [] [sI 4] [], exO (.exit 0) 19 [] [] [] []]) idxBnd_l0]
theorem idxBnd_oc : OC Tryz.prog 105 [(false, .ty true zA35), (false, .fn 106 (.rf zA13))] [.ty false (.int .i64)] idxBnd := OC.lp en_bndEq 1024 Tryz.func105 idxBnd_L (by kernel_rfl) ⟨fun _ => by kernel_rfl, trivial⟩ (fun _ => by kernel_rfl)
noncomputable def cx_idxBnd : Ctx := ocx cx_bndEq idxBnd_oc
theorem en_idxBnd : EnvFull Tryz.prog cx_idxBnd := ocn en_bndEq idxBnd_oc
noncomputable def fieldV_B : ((Option zA11) × (zA21 × (zA12 × Unit))) → Br ((zA8 × Bool) × Unit) := fun (p0, p1, p2, ()) =>
 (.opt (idxBnd (p1, p2, ())) fun y5 =>
 (.cond (decide (y5.1 < 0))
 (.ret ((zV0, false), ()))
 (.cond (decide (0 ≤ y5.1) && decide (y5.1 < (↑(List.length p1) : Int)))
 (.opt (getF (p0, (List.getD p1 (Int.toNat y5.1) zV3).2, p2.2.2.2, ())) fun y6 =>
 (.ret ((y6.1.1, y6.1.2), ())))
 (.no))))
noncomputable def fieldV := fun x => (fieldV_B x).run
theorem fieldV_oc : OC Tryz.prog 92 [(false, .ty true zA17), (false, .ty true zA35), (false, .ty false zA13)] [.ty false zA4, .ty false .bool] fieldV := OC.lp en_idxBnd 1024 Tryz.func92 [] (by kernel_rfl) trivial (fun _ => by kernel_rfl)
noncomputable def cx_fieldV : Ctx := ocx cx_idxBnd fieldV_oc
theorem en_fieldV : EnvFull Tryz.prog cx_fieldV := ocn en_idxBnd fieldV_oc
noncomputable def truthV_B : (Bool × Unit) → Br (zA8 × Unit) := fun (p0, ()) =>
 (.ret ((3, 0, ByteArray.empty, p0), ()))
noncomputable def truthV := fun x => (truthV_B x).run
theorem truthV_oc : OC Tryz.prog 70 [(false, .ty false .bool)] [.ty false zA4] truthV := OC.lp en_fieldV 1024 Tryz.func70 [] (by kernel_rfl) trivial (fun _ => by kernel_rfl)
noncomputable def cx_truthV : Ctx := ocx cx_fieldV truthV_oc
theorem en_truthV : EnvFull Tryz.prog cx_truthV := ocn en_fieldV truthV_oc
noncomputable def numV_B : (Int × Unit) → Br (zA8 × Unit) := fun (p0, ()) =>
 (.ret ((1, p0, ByteArray.empty, false), ()))
noncomputable def numV := fun x => (numV_B x).run
theorem numV_oc : OC Tryz.prog 122 [(false, .ty false (.int .i64))] [.ty false zA4] numV := OC.lp en_truthV 1024 Tryz.func122 [] (by kernel_rfl) trivial (fun _ => by kernel_rfl)
noncomputable def cx_numV : Ctx := ocx cx_truthV numV_oc
theorem en_numV : EnvFull Tryz.prog cx_numV := ocn en_truthV numV_oc
noncomputable def textV_B : (ByteArray × Unit) → Br (zA8 × Unit) := fun (p0, ()) =>
 (.ret ((2, 0, p0, false), ()))
noncomputable def textV := fun x => (textV_B x).run
theorem textV_oc : OC Tryz.prog 128 [(false, .ty false .str)] [.ty false zA4] textV := OC.lp en_numV 1024 Tryz.func128 [] (by kernel_rfl) trivial (fun _ => by kernel_rfl)
noncomputable def cx_textV : Ctx := ocx cx_numV textV_oc
theorem en_textV : EnvFull Tryz.prog cx_textV := ocn en_numV textV_oc
noncomputable def mayV_B : (zA8 × Unit) → Br (Bool × Unit) := fun (p0, ()) =>
 (.cond (p0.1 == 1)
 (.opt (numV (p0.2.1, ())) fun y4 =>
 (.ret (decide (p0.1 = y4.1.1) && (decide (p0.2.1 = y4.1.2.1) && (bl p0.2.2.1 == bl y4.1.2.2.1 && p0.2.2.2 == y4.1.2.2.2)), ())))
 (.cond (p0.1 == 2)
 (.opt (textV (p0.2.2.1, ())) fun y5 =>
 (.cond (decide (p0.1 = y5.1.1) && (decide (p0.2.1 = y5.1.2.1) && (bl p0.2.2.1 == bl y5.1.2.2.1 && p0.2.2.2 == y5.1.2.2.2)))
 (.ret (decide ((↑(ByteArray.size p0.2.2.1) : Int) ≤ 64), ()))
 (.ret (false, ()))))
 (.cond (p0.1 == 3)
 (.opt (truthV (p0.2.2.2, ())) fun y6 =>
 (.ret (decide (p0.1 = y6.1.1) && (decide (p0.2.1 = y6.1.2.1) && (bl p0.2.2.1 == bl y6.1.2.2.1 && p0.2.2.2 == y6.1.2.2.2)), ())))
 (.ret (false, ())))))
noncomputable def mayV := fun x => (mayV_B x).run
theorem mayV_oc : OC Tryz.prog 116 [(false, .ty false zA4)] [.ty false .bool] mayV := OC.lp en_textV 1024 Tryz.func116 [] (by kernel_rfl) trivial (fun _ => by kernel_rfl)
noncomputable def cx_mayV : Ctx := ocx cx_textV mayV_oc
theorem en_mayV : EnvFull Tryz.prog cx_mayV := ocn en_textV mayV_oc
noncomputable def nodeM_B : (zA12 × Unit) → Br (Bool × Unit) := fun (p0, ()) =>
 (.cond (p0.1 == 1)
 (.opt (mayV (p0.2.1, ())) fun y4 =>
 (.cond y4.1
 (.cond (p0.2.1.2.1 != -9223372036854775808)
 (.cond (bl p0.2.2.1 == bl { data := #[] })
 (.ret (bl p0.2.2.2 == bl { data := #[] }, ()))
 (.ret (false, ())))
 (.ret (false, ())))
 (.ret (false, ()))))
 (.cond (p0.1 == 2)
 (.cond (decide (p0.2.1.1 = 0) && (decide (p0.2.1.2.1 = 0) && (bl p0.2.1.2.2.1 == bl ByteArray.empty && p0.2.1.2.2.2 == false)))
 (.opt (nameF (p0.2.2.1, ())) fun y5 =>
 (.cond y5.1
 (.opt (nameF (p0.2.2.2, ())) fun y6 =>
 (.ret (y6.1, ())))
 (.ret (false, ()))))
 (.ret (false, ())))
 (.ret (decide (p0.1 = p0.1) && (decide (p0.2.1.1 = 0) && (decide (p0.2.1.2.1 = 0) && (bl p0.2.1.2.2.1 == bl ByteArray.empty && p0.2.1.2.2.2 == false)) && (bl p0.2.2.1 == bl ByteArray.empty && bl p0.2.2.2 == bl ByteArray.empty)), ()))))
noncomputable def nodeM := fun x => (nodeM_B x).run
theorem nodeM_oc : OC Tryz.prog 104 [(false, .ty false zA13)] [.ty false .bool] nodeM := OC.lp en_mayV 1024 Tryz.func104 [] (by kernel_rfl) trivial (fun _ => by kernel_rfl)
noncomputable def cx_nodeM : Ctx := ocx cx_mayV nodeM_oc
theorem en_nodeM : EnvFull Tryz.prog cx_nodeM := ocn en_mayV nodeM_oc
noncomputable def partsT_B : (Int × Unit) → Br (Int × Unit) := fun (p0, ()) =>
 (.cond (p0 == 1)
 (.ret (0, ()))
 (.cond (p0 == 2)
 (.ret (0, ()))
 (.cond (p0 == 3)
 (.ret (1, ()))
 (.cond (p0 == 13)
 (.ret (1, ()))
 (.cond (decide (p0 ≥ 4))
 (.cond (decide (p0 ≤ 15))
 (.ret (2, ()))
 (.ret (-1, ())))
 (.ret (-1, ())))))))
noncomputable def partsT := fun x => (partsT_B x).run
theorem partsT_oc : OC Tryz.prog 91 [(false, .ty false (.int .i64))] [.ty false (.int .i64)] partsT := OC.lp en_nodeM 1024 Tryz.func91 [] (by kernel_rfl) trivial (fun _ => by kernel_rfl)
noncomputable def cx_partsT : Ctx := ocx cx_nodeM partsT_oc
theorem en_partsT : EnvFull Tryz.prog cx_partsT := ocn en_nodeM partsT_oc
noncomputable def mayT_l0 : (Int × ((List zA12) × (Int × (Int × Unit)))) → Br ((Int × ((List zA12) × (Int × (Int × Unit)))) ⊕ (Unit ⊕ (Int × Unit))) := fun (a, b, c, d, ()) =>
 (.cond (decide (d < c))
 (.cond (decide (0 ≤ d) && decide (d < (↑(List.length b) : Int)))
 (.opt (partsT ((List.getD b (Int.toNat d) (0, zV0, ByteArray.empty, ByteArray.empty)).1, ())) fun e =>
 (.cond (decide (e.1 < 0))
 (.ret (.inr (.inl (()))))
 (.opt (nodeM (List.getD b (Int.toNat d) (0, zV0, ByteArray.empty, ByteArray.empty), ())) fun f =>
 (.cond (!f.1)
 (.ret (.inr (.inl (()))))
 (.cond (decide (a < e.1))
 (.ret (.inr (.inl (()))))
 (.ret (.inl (IntKind.wrap .i64 (a + IntKind.wrap .i64 (1 - e.1)), b, c, IntKind.wrap .i64 (d + 1), ()))))))))
 (.no))
 (.ret (.inr (.inr (a, ())))))
noncomputable def mayT_w0 := iterO fun x => (mayT_l0 x).run
noncomputable def mayT_B : ((List zA12) × Unit) → Br (Bool × Unit) := fun (p0, ()) =>
 (.cond (decide ((↑(List.length p0) : Int) > 64))
 (.ret (false, ()))
 (.opt (mayT_w0 (0, p0, (↑(List.length p0) : Int), 0, ())) fun a =>
 (.sum a (fun b =>
 (.ret (false, ()))) (fun c =>
 (.ret (c.1 == 1, ()))))))
noncomputable def mayT := fun x => (mayT_B x).run
noncomputable def mayT_L : List Lp := [
 .mk 5 (shO 38 [] [] [sI 3, .slot 10 true (.sl zA13), sI 11, sI 12] []) ([exO .ret 38 [(2, D.c C.ff)] [] [] [], exO (.exit 0) 38 [] [] [sI 3] []]) mayT_l0]
theorem mayT_oc : OC Tryz.prog 90 [(false, .ty true (.sl zA13))] [.ty false .bool] mayT := OC.lp en_partsT 1024 Tryz.func90 mayT_L (by kernel_rfl) ⟨fun _ => by kernel_rfl, trivial⟩ (fun _ => by kernel_rfl)
noncomputable def cx_mayT : Ctx := ocx cx_partsT mayT_oc
theorem en_mayT : EnvFull Tryz.prog cx_mayT := ocn en_partsT mayT_oc
noncomputable def addN_B : (Int × (Int × Unit)) → Br ((Int × Bool) × Unit) := fun (p0, p1, ()) =>
 (.cond (decide (p1 > 0))
 (.cond (decide (p0 > IntKind.wrap .i64 (9223372036854775807 - p1)))
 (.ret ((0, false), ()))
 (.cond (decide (p1 < 0))
 (.cond (decide (p0 < IntKind.wrap .i64 (-9223372036854775808 - p1)))
 (.ret ((0, false), ()))
 (.ret ((IntKind.wrap .i64 (p0 + p1), true), ())))
 (.ret ((IntKind.wrap .i64 (p0 + p1), true), ()))))
 (.cond (decide (p1 < 0))
 (.cond (decide (p0 < IntKind.wrap .i64 (-9223372036854775808 - p1)))
 (.ret ((0, false), ()))
 (.ret ((IntKind.wrap .i64 (p0 + p1), true), ())))
 (.ret ((IntKind.wrap .i64 (p0 + p1), true), ()))))
noncomputable def addN := fun x => (addN_B x).run
theorem addN_oc : OC Tryz.prog 119 zIRb1 [.ty false (.int .i64), .ty false .bool] addN := OC.lp en_mayT 1024 Tryz.func119 [] (by kernel_rfl) trivial (fun _ => by kernel_rfl)
noncomputable def cx_addN : Ctx := ocx cx_mayT addN_oc
theorem en_addN : EnvFull Tryz.prog cx_addN := ocn en_mayT addN_oc
noncomputable def subN_B : (Int × (Int × Unit)) → Br ((Int × Bool) × Unit) := fun (p0, p1, ()) =>
 (.cond (decide (p1 < 0))
 (.cond (decide (p0 > IntKind.wrap .i64 (9223372036854775807 + p1)))
 (.ret ((0, false), ()))
 (.cond (decide (p1 > 0))
 (.cond (decide (p0 < IntKind.wrap .i64 (-9223372036854775808 + p1)))
 (.ret ((0, false), ()))
 (.ret ((IntKind.wrap .i64 (p0 - p1), true), ())))
 (.ret ((IntKind.wrap .i64 (p0 - p1), true), ()))))
 (.cond (decide (p1 > 0))
 (.cond (decide (p0 < IntKind.wrap .i64 (-9223372036854775808 + p1)))
 (.ret ((0, false), ()))
 (.ret ((IntKind.wrap .i64 (p0 - p1), true), ())))
 (.ret ((IntKind.wrap .i64 (p0 - p1), true), ()))))
noncomputable def subN := fun x => (subN_B x).run
theorem subN_oc : OC Tryz.prog 120 zIRb1 [.ty false (.int .i64), .ty false .bool] subN := OC.lp en_addN 1024 Tryz.func120 [] (by kernel_rfl) trivial (fun _ => by kernel_rfl)
noncomputable def cx_subN : Ctx := ocx cx_addN subN_oc
theorem en_subN : EnvFull Tryz.prog cx_subN := ocn en_addN subN_oc
noncomputable def mulN_B : (Int × (Int × Unit)) → Br ((Int × Bool) × Unit) := fun (p0, p1, ()) =>
 (.cond (p0 == 0)
 (.ret ((0, true), ()))
 (.cond (p1 == 0)
 (.ret ((0, true), ()))
 (.cond (p0 == -1)
 (.cond (p1 == -9223372036854775808)
 (.ret ((0, false), ()))
 (.cond (p1 == -1)
 (.cond (p0 == -9223372036854775808)
 (.ret ((0, false), ()))
 (.cond (decide (p1 = 0))
 (.no)
 (.cond (IntKind.wrap .i64 (Int.tdiv (IntKind.wrap .i64 (p0 * p1)) p1) != p0)
 (.ret ((0, false), ()))
 (.ret ((IntKind.wrap .i64 (p0 * p1), true), ())))))
 (.cond (decide (p1 = 0))
 (.no)
 (.cond (IntKind.wrap .i64 (Int.tdiv (IntKind.wrap .i64 (p0 * p1)) p1) != p0)
 (.ret ((0, false), ()))
 (.ret ((IntKind.wrap .i64 (p0 * p1), true), ()))))))
 (.cond (p1 == -1)
 (.cond (p0 == -9223372036854775808)
 (.ret ((0, false), ()))
 (.cond (decide (p1 = 0))
 (.no)
 (.cond (IntKind.wrap .i64 (Int.tdiv (IntKind.wrap .i64 (p0 * p1)) p1) != p0)
 (.ret ((0, false), ()))
 (.ret ((IntKind.wrap .i64 (p0 * p1), true), ())))))
 (.cond (decide (p1 = 0))
 (.no)
 (.cond (IntKind.wrap .i64 (Int.tdiv (IntKind.wrap .i64 (p0 * p1)) p1) != p0)
 (.ret ((0, false), ()))
 (.ret ((IntKind.wrap .i64 (p0 * p1), true), ()))))))))
noncomputable def mulN := fun x => (mulN_B x).run
theorem mulN_oc : OC Tryz.prog 121 zIRb1 [.ty false (.int .i64), .ty false .bool] mulN := OC.lp en_subN 1024 Tryz.func121 [] (by kernel_rfl) trivial (fun _ => by kernel_rfl)
noncomputable def cx_mulN : Ctx := ocx cx_subN mulN_oc
theorem en_mulN : EnvFull Tryz.prog cx_mulN := ocn en_subN mulN_oc
noncomputable def negN_B : (Int × Unit) → Br ((Int × Bool) × Unit) := fun (p0, ()) =>
 (.opt (subN (0, p0, ())) fun y2 =>
 (.ret ((y2.1.1, y2.1.2), ())))
noncomputable def negN := fun x => (negN_B x).run
theorem negN_oc : OC Tryz.prog 118 [(false, .ty false (.int .i64))] [.ty false (.int .i64), .ty false .bool] negN := OC.lp en_mulN 1024 Tryz.func118 [] (by kernel_rfl) trivial (fun _ => by kernel_rfl)
noncomputable def cx_negN : Ctx := ocx cx_mulN negN_oc
theorem en_negN : EnvFull Tryz.prog cx_negN := ocn en_mulN negN_oc
noncomputable def numbersE_l0 : zA33 → Br (zA33 ⊕ ((zA8 × Unit) ⊕ (Int × ((List zA8) × (zA8 × Unit))))) := fun (a, b, c, d, e, f, ()) =>
 (.cond (decide (e < d))
 (.cond (decide (0 ≤ e) && decide (e < (↑(List.length c) : Int)))
 (.cond ((List.getD c (Int.toNat e) zV0).1 != 1)
 (.ret (.inr (.inl (zV0, ()))))
 (.ret (.inl (a, b, c, d, IntKind.wrap .i64 (e + 1), f, ()))))
 (.no))
 (.ret (.inr (.inr (a, b, f, ())))))
noncomputable def numbersE_w0 := iterO fun x => (numbersE_l0 x).run
noncomputable def numbersE_B : (Int × ((List zA8) × Unit)) → Br ((zA8 × Bool) × Unit) := fun (p0, p1, ()) =>
 (.opt (numbersE_w0 (p0, p1, p1, (↑(List.length p1) : Int), 0, zV0, ())) fun a =>
 (.sum a (fun b =>
 (.ret ((b.1, false), ()))) (fun c =>
 (.cond (c.1 == 3)
 (.cond (decide (0 ≤ 0) && decide (0 < (↑(List.length c.2.1) : Int)))
 (.opt (negN ((List.getD c.2.1 (Int.toNat 0) zV0).2.1, ())) fun d =>
 (.cond (!d.1.2)
 (.ret ((zV0, false), ()))
 (.opt (numV (d.1.1, ())) fun e =>
 (.ret ((e.1, true), ())))))
 (.no))
 (.cond (c.1 == 4)
 (.cond (decide (0 ≤ 0) && decide (0 < (↑(List.length c.2.1) : Int)))
 (.cond (decide (0 ≤ 1) && decide (1 < (↑(List.length c.2.1) : Int)))
 (.opt (addN ((List.getD c.2.1 (Int.toNat 0) zV0).2.1, (List.getD c.2.1 (Int.toNat 1) zV0).2.1, ())) fun f =>
 (.cond (!f.1.2)
 (.ret ((zV0, false), ()))
 (.opt (numV (f.1.1, ())) fun g =>
 (.ret ((g.1, true), ())))))
 (.no))
 (.no))
 (.cond (c.1 == 5)
 (.cond (decide (0 ≤ 0) && decide (0 < (↑(List.length c.2.1) : Int)))
 (.cond (decide (0 ≤ 1) && decide (1 < (↑(List.length c.2.1) : Int)))
 (.opt (subN ((List.getD c.2.1 (Int.toNat 0) zV0).2.1, (List.getD c.2.1 (Int.toNat 1) zV0).2.1, ())) fun h =>
 (.cond (!h.1.2)
 (.ret ((zV0, false), ()))
 (.opt (numV (h.1.1, ())) fun i =>
 (.ret ((i.1, true), ())))))
 (.no))
 (.no))
 (.cond (c.1 == 6)
 (.cond (decide (0 ≤ 0) && decide (0 < (↑(List.length c.2.1) : Int)))
 (.cond (decide (0 ≤ 1) && decide (1 < (↑(List.length c.2.1) : Int)))
 (.opt (mulN ((List.getD c.2.1 (Int.toNat 0) zV0).2.1, (List.getD c.2.1 (Int.toNat 1) zV0).2.1, ())) fun j =>
 (.cond (!j.1.2)
 (.ret ((zV0, false), ()))
 (.opt (numV (j.1.1, ())) fun k =>
 (.ret ((k.1, true), ())))))
 (.no))
 (.no))
 (.ret ((zV0, false), ())))))))))
noncomputable def numbersE := fun x => (numbersE_B x).run
noncomputable def numbersE_L : List Lp := [
 .mk 2 (shO 79 [(4, .c (.ref 1028 0 0))] [(1028, [])] [sI 0, .slot 1 true (.sl zA4), .slot 10 true (.sl zA4), sI 11, sI 12, .tv 1028 false zA4] []) ([exO .ret 79 [(4, .c (.ref 1028 0 0)), (5, D.c C.ff)] [(1028, [])] [.tv 1028 false zA4] [], exO (.exit 0) 79 [(4, .c (.ref 1028 0 0))] [(1028, [])] [sI 0, .slot 1 true (.sl zA4), .tv 1028 false zA4] []]) numbersE_l0]
theorem numbersE_oc : OC Tryz.prog 108 [(false, .ty false (.int .i64)), (false, .ty true (.sl zA4))] [.ty false zA4, .ty false .bool] numbersE := OC.lp en_negN 1024 Tryz.func108 numbersE_L (by kernel_rfl) ⟨fun _ => by kernel_rfl, trivial⟩ (fun _ => by kernel_rfl)
noncomputable def cx_numbersE : Ctx := ocx cx_negN numbersE_oc
theorem en_numbersE : EnvFull Tryz.prog cx_numbersE := ocn en_negN numbersE_oc
noncomputable def holdsE_B : (Int × (Int × Unit)) → Br (Bool × Unit) := fun (p0, p1, ()) =>
 (.cond (p0 == 7)
 (.ret (p1 == 0, ()))
 (.cond (p0 == 8)
 (.ret (p1 != 0, ()))
 (.cond (p0 == 9)
 (.ret (decide (p1 < 0), ()))
 (.cond (p0 == 10)
 (.ret (decide (p1 ≤ 0), ()))
 (.cond (p0 == 11)
 (.ret (decide (p1 > 0), ()))
 (.ret (decide (p1 ≥ 0), ())))))))
noncomputable def holdsE := fun x => (holdsE_B x).run
theorem holdsE_oc : OC Tryz.prog 110 zIRb1 [.ty false .bool] holdsE := OC.lp en_numbersE 1024 Tryz.func110 [] (by kernel_rfl) trivial (fun _ => by kernel_rfl)
noncomputable def cx_holdsE : Ctx := ocx cx_numbersE holdsE_oc
theorem en_holdsE : EnvFull Tryz.prog cx_holdsE := ocn en_numbersE holdsE_oc
noncomputable def truthsE_l0 : zA33 → Br (zA33 ⊕ ((zA8 × Unit) ⊕ (Int × ((List zA8) × (zA8 × Unit))))) := fun (a, b, c, d, e, f, ()) =>
 (.cond (decide (e < d))
 (.cond (decide (0 ≤ e) && decide (e < (↑(List.length c) : Int)))
 (.cond ((List.getD c (Int.toNat e) zV0).1 != 3)
 (.ret (.inr (.inl (zV0, ()))))
 (.ret (.inl (a, b, c, d, IntKind.wrap .i64 (e + 1), f, ()))))
 (.no))
 (.ret (.inr (.inr (a, b, f, ())))))
noncomputable def truthsE_w0 := iterO fun x => (truthsE_l0 x).run
noncomputable def truthsE_B : (Int × ((List zA8) × Unit)) → Br ((zA8 × Bool) × Unit) := fun (p0, p1, ()) =>
 (.opt (truthsE_w0 (p0, p1, p1, (↑(List.length p1) : Int), 0, zV0, ())) fun a =>
 (.sum a (fun b =>
 (.ret ((b.1, false), ()))) (fun c =>
 (.cond (c.1 == 13)
 (.cond (decide (0 ≤ 0) && decide (0 < (↑(List.length c.2.1) : Int)))
 (.opt (truthV (!(List.getD c.2.1 (Int.toNat 0) zV0).2.2.2, ())) fun d =>
 (.ret ((d.1, true), ())))
 (.no))
 (.cond (c.1 == 14)
 (.cond (decide (0 ≤ 0) && decide (0 < (↑(List.length c.2.1) : Int)))
 (.cond (List.getD c.2.1 (Int.toNat 0) zV0).2.2.2
 (.cond (decide (0 ≤ 1) && decide (1 < (↑(List.length c.2.1) : Int)))
 (.opt (truthV ((List.getD c.2.1 (Int.toNat 1) zV0).2.2.2, ())) fun e =>
 (.ret ((e.1, true), ())))
 (.no))
 (.opt (truthV (false, ())) fun f =>
 (.ret ((f.1, true), ()))))
 (.no))
 (.cond (decide (0 ≤ 0) && decide (0 < (↑(List.length c.2.1) : Int)))
 (.cond (List.getD c.2.1 (Int.toNat 0) zV0).2.2.2
 (.opt (truthV (true, ())) fun g =>
 (.ret ((g.1, true), ())))
 (.cond (decide (0 ≤ 1) && decide (1 < (↑(List.length c.2.1) : Int)))
 (.opt (truthV ((List.getD c.2.1 (Int.toNat 1) zV0).2.2.2, ())) fun h =>
 (.ret ((h.1, true), ())))
 (.no)))
 (.no)))))))
noncomputable def truthsE := fun x => (truthsE_B x).run
noncomputable def truthsE_L : List Lp := [
 .mk 2 (shO 52 [(4, .c (.ref 1028 0 0))] [(1028, [])] [sI 0, .slot 1 true (.sl zA4), .slot 8 true (.sl zA4), sI 9, sI 10, .tv 1028 false zA4] []) ([exO .ret 52 [(4, .c (.ref 1028 0 0)), (5, D.c C.ff)] [(1028, [])] [.tv 1028 false zA4] [], exO (.exit 0) 52 [(4, .c (.ref 1028 0 0))] [(1028, [])] [sI 0, .slot 1 true (.sl zA4), .tv 1028 false zA4] []]) truthsE_l0]
theorem truthsE_oc : OC Tryz.prog 111 [(false, .ty false (.int .i64)), (false, .ty true (.sl zA4))] [.ty false zA4, .ty false .bool] truthsE := OC.lp en_holdsE 1024 Tryz.func111 truthsE_L (by kernel_rfl) ⟨fun _ => by kernel_rfl, trivial⟩ (fun _ => by kernel_rfl)
noncomputable def cx_truthsE : Ctx := ocx cx_holdsE truthsE_oc
theorem en_truthsE : EnvFull Tryz.prog cx_truthsE := ocn en_holdsE truthsE_oc
noncomputable def bitV_B : (Bool × Unit) → Br (Int × Unit) := fun (p0, ()) =>
 (.cond (p0)
 (.ret (1, ()))
 (.ret (0, ())))
noncomputable def bitV := fun x => (bitV_B x).run
theorem bitV_oc : OC Tryz.prog 123 [(false, .ty false .bool)] [.ty false (.int .i64)] bitV := OC.lp en_truthsE 1024 Tryz.func123 [] (by kernel_rfl) trivial (fun _ => by kernel_rfl)
noncomputable def cx_bitV : Ctx := ocx cx_truthsE bitV_oc
theorem en_bitV : EnvFull Tryz.prog cx_bitV := ocn en_truthsE bitV_oc
noncomputable def signV_B : (Int × Unit) → Br (Int × Unit) := fun (p0, ()) =>
 (.ret (if (if 1 < p0 then 1 else p0) < -1 then -1 else if 1 < p0 then 1 else p0, ()))
noncomputable def signV := fun x => (signV_B x).run
theorem signV_oc : OC Tryz.prog 124 [(false, .ty false (.int .i64))] [.ty false (.int .i64)] signV := OC.lp en_bitV 1024 Tryz.func124 [] (by kernel_rfl) trivial (fun _ => by kernel_rfl)
noncomputable def cx_signV : Ctx := ocx cx_bitV signV_oc
theorem en_signV : EnvFull Tryz.prog cx_signV := ocn en_bitV signV_oc
end Go.Proofs.YtiblijkhpmemeaaGreat
