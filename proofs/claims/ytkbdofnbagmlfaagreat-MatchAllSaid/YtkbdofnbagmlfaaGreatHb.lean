/- Contracts of functions. Printed by auto.py. strings.Compare's contract, whose entry has no body. Contracts of functions. Printed by auto.py. -/
import Derived.Test.YtkbdofnbagmlfaaGreatGe
import Derived.Test.YtkbdofnbagmlfaaGreatHa
import Derived.Lib.Bytealg
import Derived.ProofKit
namespace Go.Proofs.YtkbdofnbagmlfaaGreat
set_option maxRecDepth 100000
open Go.PI Go
noncomputable section
abbrev zIRb1 : List (Bool × Pat) := [(false, .ty false (.int .i64)), (false, .ty false (.int .i64))]
def ZrA : ((ByteArray × zA2) × (ZaX × Unit)) -> Br (Bool × Unit) := fun (p0, p1, ()) =>
 (.ret (bl p0.1 == bl (List.getD [p1] 0 (0, zV0, ByteArray.empty, ByteArray.empty)).2.2.1, ()))
def bndEq := fun x => (ZrA x).run
theorem ZoX : OC Tryz.prog 146 [(false, .ty true (.st (.pair .str zA9))), (false, .rf Zca)] [.ty false .bool] bndEq := OC.lp ZrC 1024 Tryz.func146 [] (by kernel_rfl) trivial (fun _ => by kernel_rfl)
def cx_bndEq : Ctx := ocx cx_getF ZoX
theorem ZoK : EnvFull Tryz.prog cx_bndEq := ocn ZrC ZoX
def Zdj : (ZaK × ((ZaX × Unit) × (Int × (Int × Unit)))) -> Br ((ZaK × ((ZaX × Unit) × (Int × (Int × Unit)))) ⊕ ((Int × Unit) ⊕ Unit)) := fun (a, b, c, d, ()) =>
 (.cond (decide (d < c))
 (.cond (decide (0 <= d) && decide (d < (a.length : Int)))
 (.opt (bndEq (a.getD d.toNat zV3, b.1, ())) fun e =>
 (.cond e.1
 (.ret (.inr (.inl (d, ()))))
 (.ret (.inl (a, (b.1, ()), c, IntKind.wrap .i64 (d + 1), ())))))
 (.no))
 (.ret (.inr (.inr (())))))
def idxBnd_w0 := Zag fun x => (Zdj x).run
def ZjH : (ZaK × (ZaX × Unit)) -> Br (Int × Unit) := fun (p0, p1, ()) =>
 (.opt (idxBnd_w0 (p0, (p1, ()), (p0.length : Int), 0, ())) fun a =>
 (.sum a (fun b =>
 (.ret (b.1, ()))) (fun c =>
 (.ret (-1, ())))))
def idxBnd := fun x => (ZjH x).run
def idxBnd_L : List Lp := [
 .mk 2 (shO 19 [] [] [.slot 0 true Zb9, .cap 1 146 [Zca], sI 7, sI 8] []) ([exO .ret 19 [] [] [sI 4] [], exO (.exit 0) 19 [] [] [] []]) Zdj]
theorem Zmx : OC Tryz.prog 145 [(false, .ty true Zb9), (false, .fn 146 (.rf Zca))] [.ty false (.int .i64)] idxBnd := OC.lp ZoK 1024 Tryz.func145 idxBnd_L (by kernel_rfl) ⟨fun _ => by kernel_rfl, trivial⟩ (fun _ => by kernel_rfl)
def cx_idxBnd : Ctx := ocx cx_bndEq Zmx
theorem Zm5 : EnvFull Tryz.prog cx_idxBnd := ocn ZoK Zmx
def Zhf : ((Option Zcc) × (ZaK × (ZaX × Unit))) -> Br ((zA8 × Bool) × Unit) := fun (p0, p1, p2, ()) =>
 (.opt (idxBnd (p1, p2, ())) fun y5 =>
 (.cond (decide (y5.1 < 0))
 (.ret ((zV0, false), ()))
 (.cond (decide (0 <= y5.1) && decide (y5.1 < (p1.length : Int)))
 (.opt (getF (p0, (p1.getD y5.1.toNat zV3).2, p2.2.2.2, ())) fun y6 =>
 (.ret ((y6.1.1, y6.1.2), ())))
 (.no))))
def fieldV := fun x => (Zhf x).run
theorem ZmQ : OC Tryz.prog 139 [(false, .ty true Zfj), (false, .ty true Zb9), (false, .ty false Zca)] [.ty false zA4, .ty false .bool] fieldV := OC.lp Zm5 1024 Tryz.func139 [] (by kernel_rfl) trivial (fun _ => by kernel_rfl)
def cx_fieldV : Ctx := ocx cx_idxBnd ZmQ
theorem Zmt : EnvFull Tryz.prog cx_fieldV := ocn Zm5 ZmQ
def ZcR : (Bool × Unit) -> Br (zA8 × Unit) := fun (p0, ()) =>
 (.ret ((3, 0, ByteArray.empty, p0), ()))
def truthV := fun x => (ZcR x).run
theorem Zl6 : OC Tryz.prog 125 [(false, .ty false .bool)] [.ty false zA4] truthV := OC.lp Zmt 1024 Tryz.func125 [] (by kernel_rfl) trivial (fun _ => by kernel_rfl)
def cx_truthV : Ctx := ocx cx_fieldV Zl6
theorem Zl8 : EnvFull Tryz.prog cx_truthV := ocn Zmt Zl6
def ZhW : (Int × Unit) -> Br (zA8 × Unit) := fun (p0, ()) =>
 (.ret ((1, p0, ByteArray.empty, false), ()))
def numV := fun x => (ZhW x).run
theorem ZrQ : OC Tryz.prog 158 [(false, .ty false (.int .i64))] [.ty false zA4] numV := OC.lp Zl8 1024 Tryz.func158 [] (by kernel_rfl) trivial (fun _ => by kernel_rfl)
def cx_numV : Ctx := ocx cx_truthV ZrQ
theorem ZsU : EnvFull Tryz.prog cx_numV := ocn Zl8 ZrQ
def ZlF : (ByteArray × Unit) -> Br (zA8 × Unit) := fun (p0, ()) =>
 (.ret ((2, 0, p0, false), ()))
def textV := fun x => (ZlF x).run
theorem Zn4 : OC Tryz.prog 162 [(false, .ty false .str)] [.ty false zA4] textV := OC.lp ZsU 1024 Tryz.func162 [] (by kernel_rfl) trivial (fun _ => by kernel_rfl)
def cx_textV : Ctx := ocx cx_numV Zn4
theorem ZpE : EnvFull Tryz.prog cx_textV := ocn ZsU Zn4
def ZqL : (zA8 × Unit) -> Br (Bool × Unit) := fun (p0, ()) =>
 (.cond (p0.1 == 1)
 (.opt (numV (p0.2.1, ())) fun y4 =>
 (.ret (decide (p0.1 = y4.1.1) && (decide (p0.2.1 = y4.1.2.1) && (bl p0.2.2.1 == bl y4.1.2.2.1 && p0.2.2.2 == y4.1.2.2.2)), ())))
 (.cond (p0.1 == 2)
 (.opt (textV (p0.2.2.1, ())) fun y5 =>
 (.cond (decide (p0.1 = y5.1.1) && (decide (p0.2.1 = y5.1.2.1) && (bl p0.2.2.1 == bl y5.1.2.2.1 && p0.2.2.2 == y5.1.2.2.2)))
 (.ret (decide ((↑(ByteArray.size p0.2.2.1) : Int) <= 64), ()))
 (.ret (false, ()))))
 (.cond (p0.1 == 3)
 (.opt (truthV (p0.2.2.2, ())) fun y6 =>
 (.ret (decide (p0.1 = y6.1.1) && (decide (p0.2.1 = y6.1.2.1) && (bl p0.2.2.1 == bl y6.1.2.2.1 && p0.2.2.2 == y6.1.2.2.2)), ())))
 (.ret (false, ())))))
def mayV := fun x => (ZqL x).run
theorem Zss : OC Tryz.prog 152 [(false, .ty false zA4)] [.ty false .bool] mayV := OC.lp ZpE 1024 Tryz.func152 [] (by kernel_rfl) trivial (fun _ => by kernel_rfl)
def cx_mayV : Ctx := ocx cx_textV Zss
theorem ZsC : EnvFull Tryz.prog cx_mayV := ocn ZpE Zss
def Zib : (ZaX × Unit) -> Br (Bool × Unit) := fun (p0, ()) =>
 (.cond (p0.1 == 1)
 (.opt (mayV (p0.2.1, ())) fun y4 =>
 (.cond y4.1
 (.cond (p0.2.1.2.1 != -9223372036854775808)
 (.cond (bl p0.2.2.1 == bl { data := #[] })
 (.ret (bl p0.2.2.2 == bl { data := #[] }, ()))
 (.ret (false, ())))
 (.ret (false, ())))
 (.ret (false, ()))))
 (.cond (p0.1 == 2)
 (.cond (decide (p0.2.1.1 = 0) && (decide (p0.2.1.2.1 = 0) && (bl p0.2.1.2.2.1 == bl ByteArray.empty && p0.2.1.2.2.2 == false)))
 (.opt (nameF (p0.2.2.1, ())) fun y5 =>
 (.cond y5.1
 (.opt (nameF (p0.2.2.2, ())) fun y6 =>
 (.ret (y6.1, ())))
 (.ret (false, ()))))
 (.ret (false, ())))
 (.ret (decide (p0.1 = p0.1) && (decide (p0.2.1.1 = 0) && (decide (p0.2.1.2.1 = 0) && (bl p0.2.1.2.2.1 == bl ByteArray.empty && p0.2.1.2.2.2 == false)) && (bl p0.2.2.1 == bl ByteArray.empty && bl p0.2.2.2 == bl ByteArray.empty)), ()))))
def nodeM := fun x => (Zib x).run
theorem ZoU : OC Tryz.prog 144 [(false, .ty false Zca)] [.ty false .bool] nodeM := OC.lp ZsC 1024 Tryz.func144 [] (by kernel_rfl) trivial (fun _ => by kernel_rfl)
def cx_nodeM : Ctx := ocx cx_mayV ZoU
theorem ZqF : EnvFull Tryz.prog cx_nodeM := ocn ZsC ZoU
def Zo5 : (Int × Unit) -> Br (Int × Unit) := fun (p0, ()) =>
 (.cond (p0 == 1)
 (.ret (0, ()))
 (.cond (p0 == 2)
 (.ret (0, ()))
 (.cond (p0 == 3)
 (.ret (1, ()))
 (.cond (p0 == 13)
 (.ret (1, ()))
 (.cond (decide (p0 >= 4))
 (.cond (decide (p0 <= 15))
 (.ret (2, ()))
 (.ret (-1, ())))
 (.ret (-1, ())))))))
def partsT := fun x => (Zo5 x).run
theorem Znr : OC Tryz.prog 138 [(false, .ty false (.int .i64))] [.ty false (.int .i64)] partsT := OC.lp ZqF 1024 Tryz.func138 [] (by kernel_rfl) trivial (fun _ => by kernel_rfl)
def cx_partsT : Ctx := ocx cx_nodeM Znr
theorem Znz : EnvFull Tryz.prog cx_partsT := ocn ZqF Znr
def Zh8 : (Int × ((List ZaX) × (Int × (Int × Unit)))) -> Br ((Int × ((List ZaX) × (Int × (Int × Unit)))) ⊕ (Unit ⊕ (Int × Unit))) := fun (a, b, c, d, ()) =>
 (.cond (decide (d < c))
 (.cond (decide (0 <= d) && decide (d < (b.length : Int)))
 (.opt (partsT ((b.getD d.toNat (0, zV0, ByteArray.empty, ByteArray.empty)).1, ())) fun e =>
 (.cond (decide (e.1 < 0))
 (.ret (.inr (.inl (()))))
 (.opt (nodeM (b.getD d.toNat (0, zV0, ByteArray.empty, ByteArray.empty), ())) fun f =>
 (.cond (!f.1)
 (.ret (.inr (.inl (()))))
 (.cond (decide (a < e.1))
 (.ret (.inr (.inl (()))))
 (.ret (.inl (IntKind.wrap .i64 (a + IntKind.wrap .i64 (1 - e.1)), b, c, IntKind.wrap .i64 (d + 1), ()))))))))
 (.no))
 (.ret (.inr (.inr (a, ())))))
def mayT_w0 := Zag fun x => (Zh8 x).run
def mayT_B : ((List ZaX) × Unit) -> Br (Bool × Unit) := fun (p0, ()) =>
 (.cond (decide ((p0.length : Int) > 64))
 (.ret (false, ()))
 (.opt (mayT_w0 (0, p0, (p0.length : Int), 0, ())) fun a =>
 (.sum a (fun b =>
 (.ret (false, ()))) (fun c =>
 (.ret (c.1 == 1, ()))))))
def mayT := fun x => (mayT_B x).run
def mayT_L : List Lp := [
 .mk 5 (shO 38 [] [] [sI 3, .slot 10 true (.sl Zca), sI 11, sI 12] []) ([exO .ret 38 [(2, D.c C.ff)] [] [] [], exO (.exit 0) 38 [] [] [sI 3] []]) Zh8]
theorem ZsF : OC Tryz.prog 137 [(false, .ty true (.sl Zca))] [.ty false .bool] mayT := OC.lp Znz 1024 Tryz.func137 mayT_L (by kernel_rfl) ⟨fun _ => by kernel_rfl, trivial⟩ (fun _ => by kernel_rfl)
def cx_mayT : Ctx := ocx cx_partsT ZsF
theorem Zsw : EnvFull Tryz.prog cx_mayT := ocn Znz ZsF
def Zo6 : (Int × (Int × Unit)) -> Br ((Int × Bool) × Unit) := fun (p0, p1, ()) =>
 (.cond (decide (p1 > 0))
 (.cond (decide (p0 > IntKind.wrap .i64 (9223372036854775807 - p1)))
 (.ret ((0, false), ()))
 (.cond (decide (p1 < 0))
 (.cond (decide (p0 < IntKind.wrap .i64 (-9223372036854775808 - p1)))
 (.ret ((0, false), ()))
 (.ret ((IntKind.wrap .i64 (p0 + p1), true), ())))
 (.ret ((IntKind.wrap .i64 (p0 + p1), true), ()))))
 (.cond (decide (p1 < 0))
 (.cond (decide (p0 < IntKind.wrap .i64 (-9223372036854775808 - p1)))
 (.ret ((0, false), ()))
 (.ret ((IntKind.wrap .i64 (p0 + p1), true), ())))
 (.ret ((IntKind.wrap .i64 (p0 + p1), true), ()))))
def addN := fun x => (Zo6 x).run
theorem Zsl : OC Tryz.prog 155 zIRb1 [.ty false (.int .i64), .ty false .bool] addN := OC.lp Zsw 1024 Tryz.func155 [] (by kernel_rfl) trivial (fun _ => by kernel_rfl)
def cx_addN : Ctx := ocx cx_mayT Zsl
theorem Zs2 : EnvFull Tryz.prog cx_addN := ocn Zsw Zsl
def Zn6 : (Int × (Int × Unit)) -> Br ((Int × Bool) × Unit) := fun (p0, p1, ()) =>
 (.cond (decide (p1 < 0))
 (.cond (decide (p0 > IntKind.wrap .i64 (9223372036854775807 + p1)))
 (.ret ((0, false), ()))
 (.cond (decide (p1 > 0))
 (.cond (decide (p0 < IntKind.wrap .i64 (-9223372036854775808 + p1)))
 (.ret ((0, false), ()))
 (.ret ((IntKind.wrap .i64 (p0 - p1), true), ())))
 (.ret ((IntKind.wrap .i64 (p0 - p1), true), ()))))
 (.cond (decide (p1 > 0))
 (.cond (decide (p0 < IntKind.wrap .i64 (-9223372036854775808 + p1)))
 (.ret ((0, false), ()))
 (.ret ((IntKind.wrap .i64 (p0 - p1), true), ())))
 (.ret ((IntKind.wrap .i64 (p0 - p1), true), ()))))
def subN := fun x => (Zn6 x).run
theorem ZsT : OC Tryz.prog 156 zIRb1 [.ty false (.int .i64), .ty false .bool] subN := OC.lp Zs2 1024 Tryz.func156 [] (by kernel_rfl) trivial (fun _ => by kernel_rfl)
def cx_subN : Ctx := ocx cx_addN ZsT
theorem ZsR : EnvFull Tryz.prog cx_subN := ocn Zs2 ZsT
def ZqG : (Int × (Int × Unit)) -> Br ((Int × Bool) × Unit) := fun (p0, p1, ()) =>
 (.cond (p0 == 0)
 (.ret ((0, true), ()))
 (.cond (p1 == 0)
 (.ret ((0, true), ()))
 (.cond (p0 == -1)
 (.cond (p1 == -9223372036854775808)
 (.ret ((0, false), ()))
 (.cond (p1 == -1)
 (.cond (p0 == -9223372036854775808)
 (.ret ((0, false), ()))
 (.cond (decide (p1 = 0))
 (.no)
 (.cond (IntKind.wrap .i64 (Int.tdiv (IntKind.wrap .i64 (p0 * p1)) p1) != p0)
 (.ret ((0, false), ()))
 (.ret ((IntKind.wrap .i64 (p0 * p1), true), ())))))
 (.cond (decide (p1 = 0))
 (.no)
 (.cond (IntKind.wrap .i64 (Int.tdiv (IntKind.wrap .i64 (p0 * p1)) p1) != p0)
 (.ret ((0, false), ()))
 (.ret ((IntKind.wrap .i64 (p0 * p1), true), ()))))))
 (.cond (p1 == -1)
 (.cond (p0 == -9223372036854775808)
 (.ret ((0, false), ()))
 (.cond (decide (p1 = 0))
 (.no)
 (.cond (IntKind.wrap .i64 (Int.tdiv (IntKind.wrap .i64 (p0 * p1)) p1) != p0)
 (.ret ((0, false), ()))
 (.ret ((IntKind.wrap .i64 (p0 * p1), true), ())))))
 (.cond (decide (p1 = 0))
 (.no)
 (.cond (IntKind.wrap .i64 (Int.tdiv (IntKind.wrap .i64 (p0 * p1)) p1) != p0)
 (.ret ((0, false), ()))
 (.ret ((IntKind.wrap .i64 (p0 * p1), true), ()))))))))
def mulN := fun x => (ZqG x).run
theorem Zr2 : OC Tryz.prog 157 zIRb1 [.ty false (.int .i64), .ty false .bool] mulN := OC.lp ZsR 1024 Tryz.func157 [] (by kernel_rfl) trivial (fun _ => by kernel_rfl)
def cx_mulN : Ctx := ocx cx_subN Zr2
theorem ZrF : EnvFull Tryz.prog cx_mulN := ocn ZsR Zr2
def Zp4 : (Int × Unit) -> Br ((Int × Bool) × Unit) := fun (p0, ()) =>
 (.opt (subN (0, p0, ())) fun y2 =>
 (.ret ((y2.1.1, y2.1.2), ())))
def negN := fun x => (Zp4 x).run
theorem Zsc : OC Tryz.prog 154 [(false, .ty false (.int .i64))] [.ty false (.int .i64), .ty false .bool] negN := OC.lp ZrF 1024 Tryz.func154 [] (by kernel_rfl) trivial (fun _ => by kernel_rfl)
def cx_negN : Ctx := ocx cx_mulN Zsc
theorem Zsn : EnvFull Tryz.prog cx_negN := ocn ZrF Zsc
def Zeh : zA33 -> Br (zA33 ⊕ ((zA8 × Unit) ⊕ (Int × ((List zA8) × (zA8 × Unit))))) := fun (a, b, c, d, e, f, ()) =>
 (.cond (decide (e < d))
 (.cond (decide (0 <= e) && decide (e < (c.length : Int)))
 (.cond ((c.getD e.toNat zV0).1 != 1)
 (.ret (.inr (.inl (zV0, ()))))
 (.ret (.inl (a, b, c, d, IntKind.wrap .i64 (e + 1), f, ()))))
 (.no))
 (.ret (.inr (.inr (a, b, f, ())))))
def numbersE_w0 := Zag fun x => (Zeh x).run
def ZeW : (Int × ((List zA8) × Unit)) -> Br ((zA8 × Bool) × Unit) := fun (p0, p1, ()) =>
 (.opt (numbersE_w0 (p0, p1, p1, (p1.length : Int), 0, zV0, ())) fun a =>
 (.sum a (fun b =>
 (.ret ((b.1, false), ()))) (fun c =>
 (.cond (c.1 == 3)
 (.cond (decide (0 <= 0) && decide (0 < (c.2.1.length : Int)))
 (.opt (negN ((List.getD c.2.1 (Int.toNat 0) zV0).2.1, ())) fun d =>
 (.cond (!d.1.2)
 (.ret ((zV0, false), ()))
 (.opt (numV (d.1.1, ())) fun e =>
 (.ret ((e.1, true), ())))))
 (.no))
 (.cond (c.1 == 4)
 (.cond (decide (0 <= 0) && decide (0 < (c.2.1.length : Int)))
 (.cond (decide (0 <= 1) && decide (1 < (c.2.1.length : Int)))
 (.opt (addN ((List.getD c.2.1 (Int.toNat 0) zV0).2.1, (List.getD c.2.1 (Int.toNat 1) zV0).2.1, ())) fun f =>
 (.cond (!f.1.2)
 (.ret ((zV0, false), ()))
 (.opt (numV (f.1.1, ())) fun g =>
 (.ret ((g.1, true), ())))))
 (.no))
 (.no))
 (.cond (c.1 == 5)
 (.cond (decide (0 <= 0) && decide (0 < (c.2.1.length : Int)))
 (.cond (decide (0 <= 1) && decide (1 < (c.2.1.length : Int)))
 (.opt (subN ((List.getD c.2.1 (Int.toNat 0) zV0).2.1, (List.getD c.2.1 (Int.toNat 1) zV0).2.1, ())) fun h =>
 (.cond (!h.1.2)
 (.ret ((zV0, false), ()))
 (.opt (numV (h.1.1, ())) fun i =>
 (.ret ((i.1, true), ())))))
 (.no))
 (.no))
 (.cond (c.1 == 6)
 (.cond (decide (0 <= 0) && decide (0 < (c.2.1.length : Int)))
 (.cond (decide (0 <= 1) && decide (1 < (c.2.1.length : Int)))
 (.opt (mulN ((List.getD c.2.1 (Int.toNat 0) zV0).2.1, (List.getD c.2.1 (Int.toNat 1) zV0).2.1, ())) fun j =>
 (.cond (!j.1.2)
 (.ret ((zV0, false), ()))
 (.opt (numV (j.1.1, ())) fun k =>
 (.ret ((k.1, true), ())))))
 (.no))
 (.no))
 (.ret ((zV0, false), ())))))))))
def numbersE := fun x => (ZeW x).run
def Ztm : List Lp := [
 .mk 2 (shO 79 [(4, .c (.ref 1028 0 0))] [(1028, [])] [sI 0, .slot 1 true (.sl zA4), .slot 10 true (.sl zA4), sI 11, sI 12, .tv 1028 false zA4] []) ([exO .ret 79 [(4, .c (.ref 1028 0 0)), (5, D.c C.ff)] [(1028, [])] [.tv 1028 false zA4] [], exO (.exit 0) 79 [(4, .c (.ref 1028 0 0))] [(1028, [])] [sI 0, .slot 1 true (.sl zA4), .tv 1028 false zA4] []]) Zeh]
theorem Zjp : OC Tryz.prog 148 [(false, .ty false (.int .i64)), (false, .ty true (.sl zA4))] [.ty false zA4, .ty false .bool] numbersE := OC.lp Zsn 1024 Tryz.func148 Ztm (by kernel_rfl) ⟨fun _ => by kernel_rfl, trivial⟩ (fun _ => by kernel_rfl)
def cx_numbersE : Ctx := ocx cx_negN Zjp
theorem Zjo : EnvFull Tryz.prog cx_numbersE := ocn Zsn Zjp
def ZqM : (Int × (Int × Unit)) -> Br (Bool × Unit) := fun (p0, p1, ()) =>
 (.cond (p0 == 7)
 (.ret (p1 == 0, ()))
 (.cond (p0 == 8)
 (.ret (p1 != 0, ()))
 (.cond (p0 == 9)
 (.ret (decide (p1 < 0), ()))
 (.cond (p0 == 10)
 (.ret (decide (p1 <= 0), ()))
 (.cond (p0 == 11)
 (.ret (decide (p1 > 0), ()))
 (.ret (decide (p1 >= 0), ())))))))
def holdsE := fun x => (ZqM x).run
theorem Zm1 : OC Tryz.prog 150 zIRb1 [.ty false .bool] holdsE := OC.lp Zjo 1024 Tryz.func150 [] (by kernel_rfl) trivial (fun _ => by kernel_rfl)
def cx_holdsE : Ctx := ocx cx_numbersE Zm1
theorem Znb : EnvFull Tryz.prog cx_holdsE := ocn Zjo Zm1
def ZeT : zA33 -> Br (zA33 ⊕ ((zA8 × Unit) ⊕ (Int × ((List zA8) × (zA8 × Unit))))) := fun (a, b, c, d, e, f, ()) =>
 (.cond (decide (e < d))
 (.cond (decide (0 <= e) && decide (e < (c.length : Int)))
 (.cond ((c.getD e.toNat zV0).1 != 3)
 (.ret (.inr (.inl (zV0, ()))))
 (.ret (.inl (a, b, c, d, IntKind.wrap .i64 (e + 1), f, ()))))
 (.no))
 (.ret (.inr (.inr (a, b, f, ())))))
def truthsE_w0 := Zag fun x => (ZeT x).run
def ZfT : (Int × ((List zA8) × Unit)) -> Br ((zA8 × Bool) × Unit) := fun (p0, p1, ()) =>
 (.opt (truthsE_w0 (p0, p1, p1, (p1.length : Int), 0, zV0, ())) fun a =>
 (.sum a (fun b =>
 (.ret ((b.1, false), ()))) (fun c =>
 (.cond (c.1 == 13)
 (.cond (decide (0 <= 0) && decide (0 < (c.2.1.length : Int)))
 (.opt (truthV (!(List.getD c.2.1 (Int.toNat 0) zV0).2.2.2, ())) fun d =>
 (.ret ((d.1, true), ())))
 (.no))
 (.cond (c.1 == 14)
 (.cond (decide (0 <= 0) && decide (0 < (c.2.1.length : Int)))
 (.cond (List.getD c.2.1 (Int.toNat 0) zV0).2.2.2
 (.cond (decide (0 <= 1) && decide (1 < (c.2.1.length : Int)))
 (.opt (truthV ((List.getD c.2.1 (Int.toNat 1) zV0).2.2.2, ())) fun e =>
 (.ret ((e.1, true), ())))
 (.no))
 (.opt (truthV (false, ())) fun f =>
 (.ret ((f.1, true), ()))))
 (.no))
 (.cond (decide (0 <= 0) && decide (0 < (c.2.1.length : Int)))
 (.cond (List.getD c.2.1 (Int.toNat 0) zV0).2.2.2
 (.opt (truthV (true, ())) fun g =>
 (.ret ((g.1, true), ())))
 (.cond (decide (0 <= 1) && decide (1 < (c.2.1.length : Int)))
 (.opt (truthV ((List.getD c.2.1 (Int.toNat 1) zV0).2.2.2, ())) fun h =>
 (.ret ((h.1, true), ())))
 (.no)))
 (.no)))))))
def truthsE := fun x => (ZfT x).run
def Zud : List Lp := [
 .mk 2 (shO 52 [(4, .c (.ref 1028 0 0))] [(1028, [])] [sI 0, .slot 1 true (.sl zA4), .slot 8 true (.sl zA4), sI 9, sI 10, .tv 1028 false zA4] []) ([exO .ret 52 [(4, .c (.ref 1028 0 0)), (5, D.c C.ff)] [(1028, [])] [.tv 1028 false zA4] [], exO (.exit 0) 52 [(4, .c (.ref 1028 0 0))] [(1028, [])] [sI 0, .slot 1 true (.sl zA4), .tv 1028 false zA4] []]) ZeT]
theorem Zkr : OC Tryz.prog 151 [(false, .ty false (.int .i64)), (false, .ty true (.sl zA4))] [.ty false zA4, .ty false .bool] truthsE := OC.lp Znb 1024 Tryz.func151 Zud (by kernel_rfl) ⟨fun _ => by kernel_rfl, trivial⟩ (fun _ => by kernel_rfl)
def cx_truthsE : Ctx := ocx cx_holdsE Zkr
theorem Zkm : EnvFull Tryz.prog cx_truthsE := ocn Znb Zkr
def ZhC : (Bool × Unit) -> Br (Int × Unit) := fun (p0, ()) =>
 (.cond (p0)
 (.ret (1, ()))
 (.ret (0, ())))
def bitV := fun x => (ZhC x).run
theorem ZsQ : OC Tryz.prog 159 [(false, .ty false .bool)] [.ty false (.int .i64)] bitV := OC.lp Zkm 1024 Tryz.func159 [] (by kernel_rfl) trivial (fun _ => by kernel_rfl)
def cx_bitV : Ctx := ocx cx_truthsE ZsQ
theorem ZsE : EnvFull Tryz.prog cx_bitV := ocn Zkm ZsQ
def ZlH : (Int × Unit) -> Br (Int × Unit) := fun (p0, ()) =>
 (.ret (if (if 1 < p0 then 1 else p0) < -1 then -1 else if 1 < p0 then 1 else p0, ()))
def signV := fun x => (ZlH x).run
theorem ZpM : OC Tryz.prog 160 [(false, .ty false (.int .i64))] [.ty false (.int .i64)] signV := OC.lp ZsE 1024 Tryz.func160 [] (by kernel_rfl) trivial (fun _ => by kernel_rfl)
def cx_signV : Ctx := ocx cx_bitV ZpM
theorem ZpU : EnvFull Tryz.prog cx_signV := ocn ZsE ZpM
end
end Go.Proofs.YtkbdofnbagmlfaaGreat

namespace Go.PI
set_option maxRecDepth 100000
open Go.RowKit
variable {P : Program} {c : Ctx} {g : Cfg} {s st : St} {a : Act} {w : World} {μ : Nm} {I : Bool -> Nat -> Prop}
theorem ext_wp (h : Rel g s a w μ I) {o : Oper} {f : Nat} {args : Array Operand} {ts : Array TypeId} (ho : o.op = .call { callee := .value (.func f), args := args, argTypes := ts }) {v : Value} {d : D} (hrun : (callFunc f (args.map a.eval)).run P w = .ok (.value v) w) (hd : RD μ I w (shp s.m) d v)
  {Kc : Act -> World -> Prop} (hK : ∀ a' w', Ok g (s.putd o.dst d) a' w' -> Kc a' w') (Q : Exit -> Act -> World -> Prop) : o.wp P a w Kc Q := by
 refine ZbQ (v := v) (w' := w) ?_ (hK _ _ ⟨μ, I, h.putd hd⟩)
 unfold execOp
 have e : (#[] ++ args.map a.eval ++ #[] : Array Value) = args.map a.eval := by simp
 have e0 : a.eval (.func f) = .func (.func f) #[] #[] := rfl
 simp only [ho, resolve, Deferred.ofValue, e0, invoke, Sem.run_bind, Sem.run_pure, Result.andThen_ok, e, hrun]
theorem OC.of_t2 {f : Nat} {τ1 τ2 σ : Ty} {pre : Args [(true, τ1), (true, τ2)] -> Bool} {F : Args [(true, τ1), (true, τ2)] -> Res [σ]} (h : TSpec P f [(true, τ1), (true, τ2)] [σ] pre F) {G : PArgs [(false, .ty false τ1), (false, .ty false τ2)] -> Option (POuts [.ty false σ] × PBack [(false, .ty false τ1), (false, .ty false τ2)])}
  (hG : ∀ xs y, G xs = some y -> pre xs = true /\ y = (F xs, ())) : OC P f [(false, .ty false τ1), (false, .ty false τ2)] [.ty false σ] G := by
 refine ⟨h.fn, fun w J hJ hlt xs vs B hx hnd hB y hy => ?_⟩
 obtain ⟨h1, rfl⟩ := hG xs y hy
 obtain ⟨v, l, B1, B2, rfl, rfl, ⟨rfl, h2⟩, u, k, B3, B4, rfl, rfl, ⟨rfl, h3⟩, rfl, rfl⟩ := hx
 refine (h.ok w J hJ hlt xs [v, u] ⟨v, [u], rfl, h2, u, [], rfl, h3, rfl⟩ h1).mono ?_
 rintro e w' ⟨u, rfl, r1, r2, r3, r4, r5, r6⟩
 refine ⟨u, fun b => J false b \/ (w.heap.size <= b /\ b < w'.heap.size), [], [], rfl, ⟨rfl, r1⟩, rfl, List.nodup_nil, fun b hb => by simp at hb, fun b hb => .inl hb, fun b hb => ?_, r2, r3, r4, r5, fun b hb _ => r6 b hb⟩
 rcases hb with hb | hb
 ·have := hlt b (hJ b hb)
  exact ⟨.inl hb, by omega⟩
 ·exact ⟨.inr (.inr hb.1), hb.2⟩
theorem cmp_small : ∀ (x y : List UInt8), -1 <= Lib.compareBytes x y /\ Lib.compareBytes x y <= 1
 | [], [] => by simp [Lib.compareBytes]
 | [], _ :: _ => by simp [Lib.compareBytes]
 | _ :: _, [] => by simp [Lib.compareBytes]
 | a :: la, b :: lb => by
  unfold Lib.compareBytes
  split
  ·omega
  ·split
   ·omega
   ·exact cmp_small la lb
def Zbj (f : Nat) : Oper := ⟨some 7, .call { callee := .value (.func f), args := #[.tmp 5, .tmp 6], argTypes := #[9, 9] }, 3, "compare_native.go:15", #[⟨0, .data⟩, ⟨1, .data⟩], none⟩
def cmp3 : Oper := ⟨some 4, .assign (.tmp 7), 3, "compare_native.go:15", #[⟨2, .data⟩, ⟨2, .chain⟩, ⟨0, .phase⟩, ⟨1, .phase⟩, ⟨2, .phase⟩], none⟩
def Zgo (f : Nat) : Array Oper := #[⟨some 5, .move (.tmp 0), 9, "compare_native.go:15", #[], none⟩, ⟨some 6, .move (.tmp 1), 9, "compare_native.go:15", #[], none⟩, Zbj f, cmp3]
def ZlS (f : Nat) : Code := .seq (.region 0 #[⟨some 4, .assign (.const (.int .i64 0)), 3, "compare_native.go:14", #[], none⟩] false) (.seq (.region 1 (Zgo f) false) .ret)
theorem Zl2 (he : EnvFull P c) {f h : Nat} {fn : Func} (hf : P.funcs[f]? = some fn) (hn : (fn.name == "runtime.NumGoroutine") = false) (hb : fn.body = some (ZlS h)) (hres : fn.results.toList = [.tmp 4]) (hnt : fn.ntmps = 8)
  (hcall : ∀ (a b : ByteArray) (w : World), (callFunc h #[.string a, .string b]).run P w = .ok (.value (.int .i64 (Lib.compareBytes a.data.toList b.data.toList))) w) :
  TSpec P f [(true, .str), (true, .str)] [.int .i64] (fun _ => true) (fun xs => Lib.compareBytes xs.1.data.toList xs.2.1.data.toList) := by
 refine TSpec.of_tri he hf hn hb ?_
 rintro ⟨x, y, ⟨⟩⟩ _
 let X : D := .c (.ty false .str x)
 let Y : D := .c (.ty false .str y)
 let R : D := .c (.ty false (.int .i64) (Lib.compareBytes x.data.toList y.data.toList))
 let sF : St := ⟨[X, Y, .c .bad, .c .bad, R, X, Y, R], [], []⟩
 refine ⟨fun e' st => e' = .ret /\ st = sF, ?_, ?_⟩
 ·intro g hg
  let c' : Ctx := { c with base := (0 + 1) * 1024 }
  have he' : EnvFull P c' := { tb := he.tb, eqs := he.eqs, orc := he.orc, mixed := he.mixed }
  let p0 : Par := { sh := fun _ => none, k := 0 }
  have lo : ∀ code : Code, ZaB P g p0 code := fun code => ZaB.none fun _ => rfl
  rw [hnt]
  show Tri P g (ZlS h) ⟨[X, Y, .c .bad, .c .bad, .c .bad, .c .bad, .c .bad, .c .bad], [], []⟩ _
  unfold ZlS
  refine Tri.seq (M := fun st => st = ⟨[X, Y, .c .bad, .c .bad, .c (.ty false (.int .i64) 0), .c .bad, .c .bad, .c .bad], [], []⟩) (Tri.run he' p0 (lo _) (y := .normal) (st := ⟨[X, Y, .c .bad, .c .bad, .c (.ty false (.int .i64) 0), .c .bad, .c .bad, .c .bad], [], []⟩) rfl rfl) ?_
  rintro st rfl
  refine Tri.seq (M := fun st => st = sF) ?_ ?_
  ·intro a w hok
   refine wp_region ?_
   show wpOps P (Zgo h) _ [0, 1, 2, 3] a w
   unfold wpOps
   show if Region.wanted (⟨some 5, .move (.tmp 0), 9, "compare_native.go:15", #[], none⟩ : Oper) (yielded (Zgo h) a.tmps) = true then _ else _
   rw [if_pos (show Region.wanted _ _ = true from rfl)]
   refine .inl (Zc0 he' _ g _ ⟨[X, Y, .c .bad, .c .bad, .c (.ty false (.int .i64) 0), X, .c .bad, .c .bad], [], []⟩ a w _ _ hok rfl fun a w hok => ?_)
   unfold wpOps
   show if Region.wanted (⟨some 6, .move (.tmp 1), 9, "compare_native.go:15", #[], none⟩ : Oper) (yielded (Zgo h) a.tmps) = true then _ else _
   rw [if_pos (show Region.wanted _ _ = true from rfl)]
   refine .inl (Zc0 he' _ g _ ⟨[X, Y, .c .bad, .c .bad, .c (.ty false (.int .i64) 0), X, Y, .c .bad], [], []⟩ a w _ _ hok rfl fun a w hok => ?_)
   unfold wpOps
   show if Region.wanted (Zbj h) (yielded (Zgo h) a.tmps) = true then _ else _
   rw [if_pos (show Region.wanted _ _ = true from rfl)]
   refine .inl ?_
   obtain ⟨μ, I, hr⟩ := hok
   have h5 := hr.tm 5
   have h6 := hr.tm 6
   have e5 : a.eval (.tmp 5) = .string x := (RD.str (t := false) h5).1
   have e6 : a.eval (.tmp 6) = .string y := (RD.str (t := false) h6).1
   refine ext_wp hr (o := Zbj h) rfl (v := .int .i64 (Lib.compareBytes x.data.toList y.data.toList)) (d := R) ?_ ?_ (fun a w hok => ?_) _
   ·have e : (#[Operand.tmp 5, Operand.tmp 6] : Array Operand).map a.eval = #[.string x, .string y] := by simp [e5, e6]
    rw [e]
    exact hcall x y w
   ·exact RD.ofInt (by
     have := cmp_small x.data.toList y.data.toList
     simp [InK, IntKind.min, IntKind.max, IntKind.signed, IntKind.bits]
     omega) false
   ·unfold wpOps
    show if Region.wanted cmp3 (yielded (Zgo h) a.tmps) = true then _ else _
    rw [if_pos (show Region.wanted _ _ = true from rfl)]
    refine .inl (Zc0 he' _ g _ sF a w _ _ hok rfl fun a w hok => ?_)
    exact ⟨sF, rfl, hok⟩
  ·rintro st rfl
   exact Tri.ret ⟨rfl, rfl⟩
 ·rintro e' st ⟨rfl, rfl⟩
  refine ⟨.inr rfl, ?_⟩
  unfold ZbI settle Zd2
  rw [hres]
  exact ⟨R, [], [], rfl, rfl⟩
end Go.PI
namespace Go.Proofs.YtkbdofnbagmlfaaGreat
open Go.PI Go Go.RowKit
noncomputable def ZhA : (ByteArray × (ByteArray × Unit)) -> Option (Int × Unit) := fun x => some (Lib.compareBytes x.1.data.toList x.2.1.data.toList, ())
abbrev ZkN : List (Bool × Pat) := [(false, .ty false .str), (false, .ty false .str)]
abbrev Zi5 : List Pat := [.ty false (.int .i64)]
theorem Zva : OC Tryz.prog 163 ZkN Zi5 ZhA :=
 OC.of_t2 (Zl2 (h := 164) ZpU Tryz.func163 (by kernel_rfl) (by kernel_rfl) (by kernel_rfl) (by kernel_rfl) fun a b w => by
  rw [run_callFunc_extern Tryz.func164 (by kernel_rfl) (by kernel_rfl) (by kernel_rfl) (e := Extern.BytealgCompare.compare) (by kernel_rfl), Lib.run_compareString]
  rfl) fun xs y hy => ⟨rfl, (Option.some.inj hy).symm⟩
noncomputable def cx_cmpStr : Ctx := Zba cx_signV 163 (ZaV ZkN Zi5 ZhA)
theorem ZcI : EnvFull Tryz.prog cx_cmpStr := Zas ZpU Zva.callOk
end Go.Proofs.YtkbdofnbagmlfaaGreat

namespace Go.Proofs.YtkbdofnbagmlfaaGreat
set_option maxRecDepth 100000
open Go.PI Go
noncomputable section
def Zhj : (ByteArray × (ByteArray × Unit)) -> Br (Int × Unit) := fun (p0, p1, ()) =>
 (.opt (ZhA (p0, p1, ())) fun y3 =>
 (.ret (y3.1, ())))
def compareS := fun x => (Zhj x).run
theorem ZiB : OC Tryz.prog 161 [(false, .ty false .str), (false, .ty false .str)] [.ty false (.int .i64)] compareS := OC.lp ZcI 1024 Tryz.func161 [] (by kernel_rfl) trivial (fun _ => by kernel_rfl)
def cx_compareS : Ctx := ocx cx_cmpStr ZiB
theorem Ziz : EnvFull Tryz.prog cx_compareS := ocn ZcI ZiB
def Zc2 : (zA8 × (zA8 × Unit)) -> Br ((Int × Bool) × Unit) := fun (p0, p1, ()) =>
 (.cond (p0.1 != p1.1)
 (.ret ((0, false), ()))
 (.cond (p0.1 == 1)
 (.opt (bitV (decide (p0.2.1 > p1.2.1), ())) fun y8 =>
 (.opt (bitV (decide (p0.2.1 < p1.2.1), ())) fun y9 =>
 (.ret ((IntKind.wrap .i64 (y8.1 - y9.1), true), ()))))
 (.cond (p0.1 == 2)
 (.opt (compareS (p0.2.2.1, p1.2.2.1, ())) fun a =>
 (.opt (signV (a.1, ())) fun b =>
 (.ret ((b.1, true), ()))))
 (.cond (p0.1 == 3)
 (.opt (bitV (p0.2.2.2, ())) fun c =>
 (.opt (bitV (p1.2.2.2, ())) fun d =>
 (.ret ((IntKind.wrap .i64 (c.1 - d.1), true), ()))))
 (.ret ((0, false), ()))))))
def compareV := fun x => (Zc2 x).run
theorem Zjj : OC Tryz.prog 149 [(false, .ty false zA4), (false, .ty false zA4)] [.ty false (.int .i64), .ty false .bool] compareV := OC.lp Ziz 1024 Tryz.func149 [] (by kernel_rfl) trivial (fun _ => by kernel_rfl)
def cx_compareV : Ctx := ocx cx_compareS Zjj
theorem ZiT : EnvFull Tryz.prog cx_compareV := ocn Ziz Zjj
def Zgz : (Int × ((List zA8) × Unit)) -> Br ((zA8 × Bool) × Unit) := fun (p0, p1, ()) =>
 (.cond (decide (p0 <= 6))
 (.opt (numbersE (p0, p1, ())) fun y7 =>
 (.ret ((y7.1.1, y7.1.2), ())))
 (.cond (decide (p0 <= 12))
 (.cond (decide (0 <= 0) && decide (0 < (p1.length : Int)))
 (.cond (decide (0 <= 1) && decide (1 < (p1.length : Int)))
 (.opt (compareV (List.getD p1 (Int.toNat 0) zV0, List.getD p1 (Int.toNat 1) zV0, ())) fun y8 =>
 (.cond (!y8.1.2)
 (.ret ((zV0, false), ()))
 (.opt (holdsE (p0, y8.1.1, ())) fun y9 =>
 (.opt (truthV (y9.1, ())) fun a =>
 (.ret ((a.1, true), ()))))))
 (.no))
 (.no))
 (.opt (truthsE (p0, p1, ())) fun b =>
 (.ret ((b.1.1, b.1.2), ())))))
def applyE := fun x => (Zgz x).run
theorem ZmA : OC Tryz.prog 140 [(false, .ty false (.int .i64)), (false, .ty true (.sl zA4))] [.ty false zA4, .ty false .bool] applyE := OC.lp ZiT 1024 Tryz.func140 [] (by kernel_rfl) trivial (fun _ => by kernel_rfl)
def cx_applyE : Ctx := ocx cx_compareV ZmA
theorem Znh : EnvFull Tryz.prog cx_applyE := ocn ZiT ZmA
def Zhd : zA34 -> Br (zA34 ⊕ ((zA8 × Unit) ⊕ (zA8 × ((List zA8) × Unit)))) := fun (a, b, c, d, e, f, g, ()) =>
 (.cond (decide (e < d))
 (.cond (decide (0 <= e) && decide (e < (c.length : Int)))
 (.opt (partsT ((c.getD e.toNat (0, zV0, ByteArray.empty, ByteArray.empty)).1, ())) fun h =>
 (.cond ((c.getD e.toNat (0, zV0, ByteArray.empty, ByteArray.empty)).1 == 1)
 (.cond (decide (0 <= 0) && decide (0 <= IntKind.wrap .i64 ((g.length : Int) - h.1)) && decide (IntKind.wrap .i64 ((g.length : Int) - h.1) <= (g.length : Int)) && decide (IntKind.wrap .i64 ((g.length : Int) - h.1) = IntKind.wrap .i64 ((g.length : Int) - h.1)))
 (.cond (decide ((List.length (List.take (Int.toNat (IntKind.wrap .i64 ((g.length : Int) - h.1)) - Int.toNat 0) (List.drop (0 + Int.toNat 0) g)) + List.length (List.set (List.replicate 1 zV0) 0 (c.getD e.toNat (0, zV0, ByteArray.empty, ByteArray.empty)).2.1)) * 40 <= 140737488355328) && decide (0 < List.length (List.set (List.replicate 1 zV0) 0 (c.getD e.toNat (0, zV0, ByteArray.empty, ByteArray.empty)).2.1)))
 (.ret (.inl (a, b, c, d, IntKind.wrap .i64 (e + 1), f, List.take (Int.toNat (IntKind.wrap .i64 ((g.length : Int) - h.1)) - Int.toNat 0) (List.drop (0 + Int.toNat 0) g) ++ List.set (List.replicate 1 zV0) 0 (c.getD e.toNat (0, zV0, ByteArray.empty, ByteArray.empty)).2.1, ())))
 (.no))
 (.no))
 (.cond ((c.getD e.toNat (0, zV0, ByteArray.empty, ByteArray.empty)).1 == 2)
 (.opt (fieldV (a, b, c.getD e.toNat (0, zV0, ByteArray.empty, ByteArray.empty), ())) fun i =>
 (.cond (!i.1.2)
 (.ret (.inr (.inl (zV0, ()))))
 (.cond (decide (0 <= 0) && decide (0 <= IntKind.wrap .i64 ((g.length : Int) - h.1)) && decide (IntKind.wrap .i64 ((g.length : Int) - h.1) <= (g.length : Int)) && decide (IntKind.wrap .i64 ((g.length : Int) - h.1) = IntKind.wrap .i64 ((g.length : Int) - h.1)))
 (.cond (decide ((List.length (List.take (Int.toNat (IntKind.wrap .i64 ((g.length : Int) - h.1)) - Int.toNat 0) (List.drop (0 + Int.toNat 0) g)) + List.length (List.set (List.replicate 1 zV0) 0 i.1.1)) * 40 <= 140737488355328) && decide (0 < List.length (List.set (List.replicate 1 zV0) 0 i.1.1)))
 (.ret (.inl (a, b, c, d, IntKind.wrap .i64 (e + 1), f, List.take (Int.toNat (IntKind.wrap .i64 ((g.length : Int) - h.1)) - Int.toNat 0) (List.drop (0 + Int.toNat 0) g) ++ List.set (List.replicate 1 zV0) 0 i.1.1, ())))
 (.no))
 (.no))))
 (.cond (decide (0 <= IntKind.wrap .i64 ((g.length : Int) - h.1)) && decide (IntKind.wrap .i64 ((g.length : Int) - h.1) <= (g.length : Int)) && decide ((g.length : Int) <= (g.length : Int)))
 (.opt (applyE ((c.getD e.toNat (0, zV0, ByteArray.empty, ByteArray.empty)).1, List.take (Int.toNat (g.length : Int) - Int.toNat (IntKind.wrap .i64 ((g.length : Int) - h.1))) (List.drop (0 + Int.toNat (IntKind.wrap .i64 ((g.length : Int) - h.1))) g), ())) fun j =>
 (.cond (!j.1.2)
 (.ret (.inr (.inl (zV0, ()))))
 (.cond (decide (0 <= 0) && decide (0 <= IntKind.wrap .i64 ((g.length : Int) - h.1)) && decide (IntKind.wrap .i64 ((g.length : Int) - h.1) <= (g.length : Int)) && decide (IntKind.wrap .i64 ((g.length : Int) - h.1) = IntKind.wrap .i64 ((g.length : Int) - h.1)))
 (.cond (decide ((List.length (List.take (Int.toNat (IntKind.wrap .i64 ((g.length : Int) - h.1)) - Int.toNat 0) (List.drop (0 + Int.toNat 0) g)) + List.length (List.set (List.replicate 1 zV0) 0 j.1.1)) * 40 <= 140737488355328) && decide (0 < List.length (List.set (List.replicate 1 zV0) 0 j.1.1)))
 (.ret (.inl (a, b, c, d, IntKind.wrap .i64 (e + 1), f, List.take (Int.toNat (IntKind.wrap .i64 ((g.length : Int) - h.1)) - Int.toNat 0) (List.drop (0 + Int.toNat 0) g) ++ List.set (List.replicate 1 zV0) 0 j.1.1, ())))
 (.no))
 (.no))))
 (.no)))))
 (.no))
 (.ret (.inr (.inr (f, g, ())))))
def evalE_w0 := Zag fun x => (Zhd x).run
def ZsA : ((Option Zcc) × ((List ZaX) × (ZaK × Unit))) -> Br ((zA8 × Bool) × Unit) := fun (p0, p1, p2, ()) =>
 (.opt (mayT (p1, ())) fun a =>
 (.cond (!a.1)
 (.ret ((zV0, false), ()))
 (.opt (evalE_w0 (p0, p2, p1, (p1.length : Int), 0, zV0, [], ())) fun b =>
 (.sum b (fun c =>
 (.ret ((c.1, false), ()))) (fun d =>
 (.cond (decide (0 <= 0) && decide (0 < (d.2.1.length : Int)))
 (.ret ((List.getD d.2.1 (Int.toNat 0) zV0, true), ()))
 (.no)))))))
def evalE := fun x => (ZsA x).run
def evalE_L : List Lp := [
 .mk 5 (shO 68 [(6, .c (.ref 1030 0 0)), (8, .c (.mfull 1724))] [(1030, []), (1724, [])] [.slot 0 true Zfj, .slot 2 true Zb9, .slot 18 true (.sl Zca), sI 19, sI 20, .tv 1030 false zA4, .ar 1724 false 150 zA4] [8]) ([exO .ret 68 [(6, .c (.ref 1030 0 0)), (7, D.c C.ff)] [(1030, [])] [.tv 1030 false zA4] [], exO (.exit 0) 68 [(6, .c (.ref 1030 0 0)), (8, .c (.mfull 1725))] [(1030, []), (1725, [])] [.tv 1030 false zA4, .ar 1725 false 150 zA4] [8]]) Zhd]
theorem Zql : OC Tryz.prog 124 [(false, .ty true Zfj), (false, .ty true (.sl Zca)), (false, .ty true Zb9)] [.ty false zA4, .ty false .bool] evalE := OC.lp Znh 1024 Tryz.func124 evalE_L (by kernel_rfl) ⟨fun _ => by kernel_rfl, trivial⟩ (fun _ => by kernel_rfl)
def cx_evalE : Ctx := ocx cx_applyE Zql
theorem Zpf : EnvFull Tryz.prog cx_evalE := ocn Znh Zql
def ZjQ : ((Option Zcc) × ((List ZaX) × (ZaK × Unit))) -> Br (Bool × Unit) := fun (p0, p1, p2, ()) =>
 (.cond ((p1.length : Int) == 0)
 (.ret (true, ()))
 (.opt (evalE (p0, p1, p2, ())) fun y5 =>
 (.cond y5.1.2
 (.opt (truthV (true, ())) fun y6 =>
 (.ret (decide (y5.1.1.1 = y6.1.1) && (decide (y5.1.1.2.1 = y6.1.2.1) && (bl y5.1.1.2.2.1 == bl y6.1.2.2.1 && y5.1.1.2.2.2 == y6.1.2.2.2)), ())))
 (.ret (false, ())))))
def holdsF := fun x => (ZjQ x).run
theorem ZmN : OC Tryz.prog 94 [(false, .ty true Zfj), (false, .ty true (.sl Zca)), (false, .ty true Zb9)] [.ty false .bool] holdsF := OC.lp Zpf 1024 Tryz.func94 [] (by kernel_rfl) trivial (fun _ => by kernel_rfl)
def cx_holdsF : Ctx := ocx cx_evalE ZmN
theorem Zny : EnvFull Tryz.prog cx_holdsF := ocn Zpf ZmN
end
end Go.Proofs.YtkbdofnbagmlfaaGreat
