/- Contracts of functions. Printed by auto.py. -/
import Derived.Test.YtkbdofnbagmlfaaGreatGe
import Derived.Test.YtkbdofnbagmlfaaGreatHa
import Derived.Test.YtkbdofnbagmlfaaGreatHd
namespace Go.Proofs.YtkbdofnbagmlfaaGreat
set_option maxRecDepth 100000
open Go.PI Go
noncomputable section
def varsQ_B : Unit -> Br ((List ByteArray) × Unit) := fun (()) =>
 (.ret ([{ data := #[97] }, { data := #[98] }, { data := #[99] }, { data := #[101] }], ()))
def varsQ := fun x => (varsQ_B x).run
theorem Zp8 : OC Tryz.prog 46 [] [.ty false (.sl .str)] varsQ := OC.lp enM1 1024 Tryz.func46 [] (by kernel_rfl) trivial (fun _ => by kernel_rfl)
def cx_varsQ : Ctx := ocx cxM1 Zp8
theorem Zpk : EnvFull Tryz.prog cx_varsQ := ocn enM1 Zp8
def ZqD : (Int × Unit) -> Br ((List ByteArray) × Unit) := fun (p0, ()) =>
 (.cond (false)
 (.no)
 (.cond (decide (0 <= Int.tmod p0 6) && decide (Int.tmod p0 6 < (↑(List.length (List.set (List.set (List.set (List.set (List.set (List.set (List.replicate 6 []) 0 (List.set (List.replicate 1 ByteArray.empty) 0 { data := #[65] })) 1 (List.set (List.replicate 1 ByteArray.empty) 0 { data := #[66] })) 2 (List.set (List.replicate 1 ByteArray.empty) 0 { data := #[67] })) 3 (List.set (List.set (List.replicate 2 ByteArray.empty) 0 { data := #[65] }) 1 { data := #[66] })) 4 (List.set (List.set (List.replicate 2 ByteArray.empty) 0 { data := #[66] }) 1 { data := #[67] })) 5 (List.set (List.set (List.set (List.replicate 3 ByteArray.empty) 0 { data := #[65] }) 1 { data := #[66] }) 2 { data := #[67] }))) : Int)))
 (.ret (List.getD (List.set (List.set (List.set (List.set (List.set (List.set (List.replicate 6 []) 0 (List.set (List.replicate 1 ByteArray.empty) 0 { data := #[65] })) 1 (List.set (List.replicate 1 ByteArray.empty) 0 { data := #[66] })) 2 (List.set (List.replicate 1 ByteArray.empty) 0 { data := #[67] })) 3 (List.set (List.set (List.replicate 2 ByteArray.empty) 0 { data := #[65] }) 1 { data := #[66] })) 4 (List.set (List.set (List.replicate 2 ByteArray.empty) 0 { data := #[66] }) 1 { data := #[67] })) 5 (List.set (List.set (List.set (List.replicate 3 ByteArray.empty) 0 { data := #[65] }) 1 { data := #[66] }) 2 { data := #[67] })) (Int.toNat (Int.tmod p0 6)) [], ()))
 (.no)))
def typesQ := fun x => (ZqD x).run
theorem ZmV : OC Tryz.prog 47 [(false, .ty false (.int .i64))] [.ty false (.sl .str)] typesQ := OC.lp Zpk 1024 Tryz.func47 [] (by kernel_rfl) trivial (fun _ => by kernel_rfl)
def cx_typesQ : Ctx := ocx cx_varsQ ZmV
theorem ZnD : EnvFull Tryz.prog cx_typesQ := ocn Zpk ZmV
def Zjs : (ByteArray × (ByteArray × Unit)) -> Br (ZaX × Unit) := fun (p0, p1, ()) =>
 (.ret ((2, zV0, p0, p1), ()))
def fieldQ := fun x => (Zjs x).run
theorem ZmU : OC Tryz.prog 83 [(false, .ty false .str), (false, .ty false .str)] [.ty false Zca] fieldQ := OC.lp ZnD 1024 Tryz.func83 [] (by kernel_rfl) trivial (fun _ => by kernel_rfl)
def cx_fieldQ : Ctx := ocx cx_typesQ ZmU
theorem ZmL : EnvFull Tryz.prog cx_fieldQ := ocn ZnD ZmU
def Zqc : (Int × Unit) -> Br (ZaX × Unit) := fun (p0, ()) =>
 (.ret ((1, (1, p0, ByteArray.empty, false), ByteArray.empty, ByteArray.empty), ()))
def numQ := fun x => (Zqc x).run
theorem Zrl : OC Tryz.prog 84 [(false, .ty false (.int .i64))] [.ty false Zca] numQ := OC.lp ZmL 1024 Tryz.func84 [] (by kernel_rfl) trivial (fun _ => by kernel_rfl)
def cx_numQ : Ctx := ocx cx_fieldQ Zrl
theorem ZrR : EnvFull Tryz.prog cx_numQ := ocn ZmL Zrl
def ZlZ : (Int × (ByteArray × (ByteArray × Unit))) -> Br ((List ZaX) × Unit) := fun (p0, p1, p2, ()) =>
 (.cond (false)
 (.no)
 (.cond (false)
 (.no)
 (.cond (false)
 (.no)
 (.cond (false)
 (.no)
 (.cond (Int.tmod p0 7 == 0)
 (.ret ([], ()))
 (.cond (Int.tmod p0 7 == 1)
 (.opt (fieldQ (p1, { data := #[120] }, ())) fun a =>
 (.opt (numQ (zAn (zSh p0 4) 3, ())) fun b =>
 (.ret ([a.1, b.1, (IntKind.wrap .i64 (7 + Int.tmod (zSh p0 6) 6), zV0, ByteArray.empty, ByteArray.empty)], ()))))
 (.cond (Int.tmod p0 7 == 2)
 (.opt (fieldQ (p1, { data := #[115] }, ())) fun c =>
 (.cond (false)
 (.no)
 (.ret ([c.1, (1, (2, 0, { data := #[117] }, false), ByteArray.empty, ByteArray.empty), (IntKind.wrap .i64 (7 + zAn (zSh p0 6) 1), zV0, ByteArray.empty, ByteArray.empty)], ()))))
 (.cond (Int.tmod p0 7 == 3)
 (.opt (fieldQ (p1, { data := #[120] }, ())) fun d =>
 (.opt (numQ (zAn (zSh p0 4) 3, ())) fun e =>
 (.ret ([d.1, e.1, (IntKind.wrap .i64 (7 + Int.tmod (zSh p0 6) 6), zV0, ByteArray.empty, ByteArray.empty), (13, zV0, ByteArray.empty, ByteArray.empty)], ()))))
 (.cond (Int.tmod p0 7 == 4)
 (.opt (fieldQ (p1, { data := #[120] }, ())) fun f =>
 (.opt (numQ (1, ())) fun g =>
 (.opt (fieldQ (p2, { data := #[120] }, ())) fun h =>
 (.ret ([f.1, g.1, (4, zV0, ByteArray.empty, ByteArray.empty), h.1, (IntKind.wrap .i64 (7 + Int.tmod (zSh p0 6) 6), zV0, ByteArray.empty, ByteArray.empty)], ())))))
 (.cond (Int.tmod p0 7 == 5)
 (.opt (fieldQ (p1, { data := #[115] }, ())) fun i =>
 (.opt (fieldQ (p2, { data := #[115] }, ())) fun j =>
 (.opt (fieldQ (p1, { data := #[120] }, ())) fun k =>
 (.opt (numQ (zAn (zSh p0 4) 3, ())) fun l =>
 (.ret ([i.1, j.1, (7, zV0, ByteArray.empty, ByteArray.empty), k.1, l.1, (IntKind.wrap .i64 (7 + Int.tmod (zSh p0 6) 6), zV0, ByteArray.empty, ByteArray.empty), (15, zV0, ByteArray.empty, ByteArray.empty)], ()))))))
 (.opt (fieldQ (p1, { data := #[120] }, ())) fun m =>
 (.opt (fieldQ (p2, { data := #[120] }, ())) fun n =>
 (.opt (fieldQ (p2, { data := #[115] }, ())) fun o =>
 (.ret ([m.1, n.1, (IntKind.wrap .i64 (7 + Int.tmod (zSh p0 6) 6), zV0, ByteArray.empty, ByteArray.empty), o.1, (1, (2, 0, { data := #[118] }, false), ByteArray.empty, ByteArray.empty), (8, zV0, ByteArray.empty, ByteArray.empty), (14, zV0, ByteArray.empty, ByteArray.empty)], ())))))))))))))))
def predQ := fun x => (ZlZ x).run
theorem Zqt : OC Tryz.prog 48 [(false, .ty false (.int .i64)), (false, .ty false .str), (false, .ty false .str)] [.ty false (.sl Zca)] predQ := OC.lp ZrR 1024 Tryz.func48 [] (by kernel_rfl) trivial (fun _ => by kernel_rfl)
def cx_predQ : Ctx := ocx cx_numQ Zqt
theorem en_predQ : EnvFull Tryz.prog cx_predQ := ocn ZrR Zqt
def Zdu : ((List Int) × zA30) -> Br (((List Int) × zA30) ⊕ (Int × (Int × ((List zA1) × Unit)))) := fun (a, b, c, d, e, f, ()) =>
 (.cond (decide (c < b))
 (.cond (decide (IntKind.wrap .i64 (c + 1) < (a.length : Int)))
 (.cond (decide (0 <= IntKind.wrap .i64 (c + 1)) && decide (IntKind.wrap .i64 (c + 1) < (a.length : Int)))
 (.opt (varsQ ()) fun g =>
 (.cond (decide (0 <= c) && decide (c < (g.1.length : Int)))
 (.opt (typesQ (zAn (List.getD a (Int.toNat (IntKind.wrap .i64 (c + 1))) 0) 16777215, ())) fun h =>
 (.cond (decide (c > 0))
 (.cond (decide (c < IntKind.wrap .i64 (b - 1)))
 (.cond (false)
 (.no)
 (.cond (!zAn (zSh (zAn (List.getD a (Int.toNat (IntKind.wrap .i64 (c + 1))) 0) 16777215) 4) 3 == 0)
 (.cond (false)
 (.no)
 (.cond (zAn (zSh (zAn (List.getD a (Int.toNat (IntKind.wrap .i64 (c + 1))) 0) 16777215) 6) 3 == 0)
 (.cond (false)
 (.no)
 (.cond (false)
 (.no)
 (.cond (c == 0)
 (.cond (false)
 (.no)
 (.opt (predQ (zSh (zAn (List.getD a (Int.toNat (IntKind.wrap .i64 (c + 1))) 0) 16777215) 10, List.getD g.1 c.toNat ByteArray.empty, List.getD g.1 c.toNat ByteArray.empty, ())) fun i =>
 (.cond (decide ((List.length f + List.length (List.set (List.replicate 1 zV2) 0 (List.getD g.1 c.toNat ByteArray.empty, h.1, zAn (zSh (zAn (List.getD a (Int.toNat (IntKind.wrap .i64 (c + 1))) 0) 16777215) 4) 3 == 0, IntKind.wrap .i64 (zAn (zSh (zAn (List.getD a (Int.toNat (IntKind.wrap .i64 (c + 1))) 0) 16777215) 8) 1 + 1), IntKind.wrap .i64 (IntKind.wrap .i64 (zAn (zSh (zAn (List.getD a (Int.toNat (IntKind.wrap .i64 (c + 1))) 0) 16777215) 8) 1 + 1) + zAn (zSh (zAn (List.getD a (Int.toNat (IntKind.wrap .i64 (c + 1))) 0) 16777215) 9) 1), i.1))) * 88 <= 140737488355328))
 (.ret (.inl (a, b, IntKind.wrap .i64 (c + 1), d, e, f ++ List.set (List.replicate 1 zV2) 0 (List.getD g.1 c.toNat ByteArray.empty, h.1, zAn (zSh (zAn (List.getD a (Int.toNat (IntKind.wrap .i64 (c + 1))) 0) 16777215) 4) 3 == 0, IntKind.wrap .i64 (zAn (zSh (zAn (List.getD a (Int.toNat (IntKind.wrap .i64 (c + 1))) 0) 16777215) 8) 1 + 1), IntKind.wrap .i64 (IntKind.wrap .i64 (zAn (zSh (zAn (List.getD a (Int.toNat (IntKind.wrap .i64 (c + 1))) 0) 16777215) 8) 1 + 1) + zAn (zSh (zAn (List.getD a (Int.toNat (IntKind.wrap .i64 (c + 1))) 0) 16777215) 9) 1), i.1), ())))
 (.no))))
 (.cond (decide (0 <= 0) && decide (0 < (f.length : Int)))
 (.cond ((List.getD f (Int.toNat 0) zV2).2.2.2.2.1 != 1)
 (.cond (false)
 (.no)
 (.opt (predQ (zSh (zAn (List.getD a (Int.toNat (IntKind.wrap .i64 (c + 1))) 0) 16777215) 10, List.getD g.1 c.toNat ByteArray.empty, List.getD g.1 c.toNat ByteArray.empty, ())) fun j =>
 (.cond (decide ((List.length f + List.length (List.set (List.replicate 1 zV2) 0 (List.getD g.1 c.toNat ByteArray.empty, h.1, zAn (zSh (zAn (List.getD a (Int.toNat (IntKind.wrap .i64 (c + 1))) 0) 16777215) 4) 3 == 0, IntKind.wrap .i64 (zAn (zSh (zAn (List.getD a (Int.toNat (IntKind.wrap .i64 (c + 1))) 0) 16777215) 8) 1 + 1), IntKind.wrap .i64 (IntKind.wrap .i64 (zAn (zSh (zAn (List.getD a (Int.toNat (IntKind.wrap .i64 (c + 1))) 0) 16777215) 8) 1 + 1) + zAn (zSh (zAn (List.getD a (Int.toNat (IntKind.wrap .i64 (c + 1))) 0) 16777215) 9) 1), j.1))) * 88 <= 140737488355328))
 (.ret (.inl (a, b, IntKind.wrap .i64 (c + 1), d, e, f ++ List.set (List.replicate 1 zV2) 0 (List.getD g.1 c.toNat ByteArray.empty, h.1, zAn (zSh (zAn (List.getD a (Int.toNat (IntKind.wrap .i64 (c + 1))) 0) 16777215) 4) 3 == 0, IntKind.wrap .i64 (zAn (zSh (zAn (List.getD a (Int.toNat (IntKind.wrap .i64 (c + 1))) 0) 16777215) 8) 1 + 1), IntKind.wrap .i64 (IntKind.wrap .i64 (zAn (zSh (zAn (List.getD a (Int.toNat (IntKind.wrap .i64 (c + 1))) 0) 16777215) 8) 1 + 1) + zAn (zSh (zAn (List.getD a (Int.toNat (IntKind.wrap .i64 (c + 1))) 0) 16777215) 9) 1), j.1), ())))
 (.no))))
 (.cond (false)
 (.no)
 (.opt (predQ (zSh (zAn (List.getD a (Int.toNat (IntKind.wrap .i64 (c + 1))) 0) 16777215) 10, List.getD g.1 c.toNat ByteArray.empty, { data := #[97] }, ())) fun k =>
 (.cond (decide ((List.length f + List.length (List.set (List.replicate 1 zV2) 0 (List.getD g.1 c.toNat ByteArray.empty, h.1, zAn (zSh (zAn (List.getD a (Int.toNat (IntKind.wrap .i64 (c + 1))) 0) 16777215) 4) 3 == 0, IntKind.wrap .i64 (zAn (zSh (zAn (List.getD a (Int.toNat (IntKind.wrap .i64 (c + 1))) 0) 16777215) 8) 1 + 1), IntKind.wrap .i64 (IntKind.wrap .i64 (zAn (zSh (zAn (List.getD a (Int.toNat (IntKind.wrap .i64 (c + 1))) 0) 16777215) 8) 1 + 1) + zAn (zSh (zAn (List.getD a (Int.toNat (IntKind.wrap .i64 (c + 1))) 0) 16777215) 9) 1), k.1))) * 88 <= 140737488355328))
 (.ret (.inl (a, b, IntKind.wrap .i64 (c + 1), d, e, f ++ List.set (List.replicate 1 zV2) 0 (List.getD g.1 c.toNat ByteArray.empty, h.1, zAn (zSh (zAn (List.getD a (Int.toNat (IntKind.wrap .i64 (c + 1))) 0) 16777215) 4) 3 == 0, IntKind.wrap .i64 (zAn (zSh (zAn (List.getD a (Int.toNat (IntKind.wrap .i64 (c + 1))) 0) 16777215) 8) 1 + 1), IntKind.wrap .i64 (IntKind.wrap .i64 (zAn (zSh (zAn (List.getD a (Int.toNat (IntKind.wrap .i64 (c + 1))) 0) 16777215) 8) 1 + 1) + zAn (zSh (zAn (List.getD a (Int.toNat (IntKind.wrap .i64 (c + 1))) 0) 16777215) 9) 1), k.1), ())))
 (.no)))))
 (.no)))))
 (.cond (c == 0)
 (.cond (false)
 (.no)
 (.opt (predQ (zSh (zAn (List.getD a (Int.toNat (IntKind.wrap .i64 (c + 1))) 0) 16777215) 10, List.getD g.1 c.toNat ByteArray.empty, List.getD g.1 c.toNat ByteArray.empty, ())) fun l =>
 (.cond (decide ((List.length f + List.length (List.set (List.replicate 1 zV2) 0 (List.getD g.1 c.toNat ByteArray.empty, h.1, zAn (zSh (zAn (List.getD a (Int.toNat (IntKind.wrap .i64 (c + 1))) 0) 16777215) 4) 3 == 0, 1, 1, l.1))) * 88 <= 140737488355328))
 (.ret (.inl (a, b, IntKind.wrap .i64 (c + 1), d, e, f ++ List.set (List.replicate 1 zV2) 0 (List.getD g.1 c.toNat ByteArray.empty, h.1, zAn (zSh (zAn (List.getD a (Int.toNat (IntKind.wrap .i64 (c + 1))) 0) 16777215) 4) 3 == 0, 1, 1, l.1), ())))
 (.no))))
 (.cond (decide (0 <= 0) && decide (0 < (f.length : Int)))
 (.cond ((List.getD f (Int.toNat 0) zV2).2.2.2.2.1 != 1)
 (.cond (false)
 (.no)
 (.opt (predQ (zSh (zAn (List.getD a (Int.toNat (IntKind.wrap .i64 (c + 1))) 0) 16777215) 10, List.getD g.1 c.toNat ByteArray.empty, List.getD g.1 c.toNat ByteArray.empty, ())) fun m =>
 (.cond (decide ((List.length f + List.length (List.set (List.replicate 1 zV2) 0 (List.getD g.1 c.toNat ByteArray.empty, h.1, zAn (zSh (zAn (List.getD a (Int.toNat (IntKind.wrap .i64 (c + 1))) 0) 16777215) 4) 3 == 0, 1, 1, m.1))) * 88 <= 140737488355328))
 (.ret (.inl (a, b, IntKind.wrap .i64 (c + 1), d, e, f ++ List.set (List.replicate 1 zV2) 0 (List.getD g.1 c.toNat ByteArray.empty, h.1, zAn (zSh (zAn (List.getD a (Int.toNat (IntKind.wrap .i64 (c + 1))) 0) 16777215) 4) 3 == 0, 1, 1, m.1), ())))
 (.no))))
 (.cond (false)
 (.no)
 (.opt (predQ (zSh (zAn (List.getD a (Int.toNat (IntKind.wrap .i64 (c + 1))) 0) 16777215) 10, List.getD g.1 c.toNat ByteArray.empty, { data := #[97] }, ())) fun n =>
 (.cond (decide ((List.length f + List.length (List.set (List.replicate 1 zV2) 0 (List.getD g.1 c.toNat ByteArray.empty, h.1, zAn (zSh (zAn (List.getD a (Int.toNat (IntKind.wrap .i64 (c + 1))) 0) 16777215) 4) 3 == 0, 1, 1, n.1))) * 88 <= 140737488355328))
 (.ret (.inl (a, b, IntKind.wrap .i64 (c + 1), d, e, f ++ List.set (List.replicate 1 zV2) 0 (List.getD g.1 c.toNat ByteArray.empty, h.1, zAn (zSh (zAn (List.getD a (Int.toNat (IntKind.wrap .i64 (c + 1))) 0) 16777215) 4) 3 == 0, 1, 1, n.1), ())))
 (.no)))))
 (.no)))))
 (.cond (c == 0)
 (.cond (false)
 (.no)
 (.opt (predQ (zSh (zAn (List.getD a (Int.toNat (IntKind.wrap .i64 (c + 1))) 0) 16777215) 10, List.getD g.1 c.toNat ByteArray.empty, List.getD g.1 c.toNat ByteArray.empty, ())) fun o =>
 (.cond (decide ((List.length f + List.length (List.set (List.replicate 1 zV2) 0 (List.getD g.1 c.toNat ByteArray.empty, h.1, zAn (zSh (zAn (List.getD a (Int.toNat (IntKind.wrap .i64 (c + 1))) 0) 16777215) 4) 3 == 0, 1, 1, o.1))) * 88 <= 140737488355328))
 (.ret (.inl (a, b, IntKind.wrap .i64 (c + 1), d, e, f ++ List.set (List.replicate 1 zV2) 0 (List.getD g.1 c.toNat ByteArray.empty, h.1, zAn (zSh (zAn (List.getD a (Int.toNat (IntKind.wrap .i64 (c + 1))) 0) 16777215) 4) 3 == 0, 1, 1, o.1), ())))
 (.no))))
 (.cond (decide (0 <= 0) && decide (0 < (f.length : Int)))
 (.cond ((List.getD f (Int.toNat 0) zV2).2.2.2.2.1 != 1)
 (.cond (false)
 (.no)
 (.opt (predQ (zSh (zAn (List.getD a (Int.toNat (IntKind.wrap .i64 (c + 1))) 0) 16777215) 10, List.getD g.1 c.toNat ByteArray.empty, List.getD g.1 c.toNat ByteArray.empty, ())) fun p =>
 (.cond (decide ((List.length f + List.length (List.set (List.replicate 1 zV2) 0 (List.getD g.1 c.toNat ByteArray.empty, h.1, zAn (zSh (zAn (List.getD a (Int.toNat (IntKind.wrap .i64 (c + 1))) 0) 16777215) 4) 3 == 0, 1, 1, p.1))) * 88 <= 140737488355328))
 (.ret (.inl (a, b, IntKind.wrap .i64 (c + 1), d, e, f ++ List.set (List.replicate 1 zV2) 0 (List.getD g.1 c.toNat ByteArray.empty, h.1, zAn (zSh (zAn (List.getD a (Int.toNat (IntKind.wrap .i64 (c + 1))) 0) 16777215) 4) 3 == 0, 1, 1, p.1), ())))
 (.no))))
 (.cond (false)
 (.no)
 (.opt (predQ (zSh (zAn (List.getD a (Int.toNat (IntKind.wrap .i64 (c + 1))) 0) 16777215) 10, List.getD g.1 c.toNat ByteArray.empty, { data := #[97] }, ())) fun q =>
 (.cond (decide ((List.length f + List.length (List.set (List.replicate 1 zV2) 0 (List.getD g.1 c.toNat ByteArray.empty, h.1, zAn (zSh (zAn (List.getD a (Int.toNat (IntKind.wrap .i64 (c + 1))) 0) 16777215) 4) 3 == 0, 1, 1, q.1))) * 88 <= 140737488355328))
 (.ret (.inl (a, b, IntKind.wrap .i64 (c + 1), d, e, f ++ List.set (List.replicate 1 zV2) 0 (List.getD g.1 c.toNat ByteArray.empty, h.1, zAn (zSh (zAn (List.getD a (Int.toNat (IntKind.wrap .i64 (c + 1))) 0) 16777215) 4) 3 == 0, 1, 1, q.1), ())))
 (.no)))))
 (.no)))))
 (.cond (false)
 (.no)
 (.cond (zAn (zSh (zAn (List.getD a (Int.toNat (IntKind.wrap .i64 (c + 1))) 0) 16777215) 6) 3 == 0)
 (.cond (false)
 (.no)
 (.cond (false)
 (.no)
 (.cond (c == 0)
 (.cond (false)
 (.no)
 (.opt (predQ (zSh (zAn (List.getD a (Int.toNat (IntKind.wrap .i64 (c + 1))) 0) 16777215) 10, List.getD g.1 c.toNat ByteArray.empty, List.getD g.1 c.toNat ByteArray.empty, ())) fun r =>
 (.cond (decide ((List.length f + List.length (List.set (List.replicate 1 zV2) 0 (List.getD g.1 c.toNat ByteArray.empty, h.1, false, IntKind.wrap .i64 (zAn (zSh (zAn (List.getD a (Int.toNat (IntKind.wrap .i64 (c + 1))) 0) 16777215) 8) 1 + 1), IntKind.wrap .i64 (IntKind.wrap .i64 (zAn (zSh (zAn (List.getD a (Int.toNat (IntKind.wrap .i64 (c + 1))) 0) 16777215) 8) 1 + 1) + zAn (zSh (zAn (List.getD a (Int.toNat (IntKind.wrap .i64 (c + 1))) 0) 16777215) 9) 1), r.1))) * 88 <= 140737488355328))
 (.ret (.inl (a, b, IntKind.wrap .i64 (c + 1), d, e, f ++ List.set (List.replicate 1 zV2) 0 (List.getD g.1 c.toNat ByteArray.empty, h.1, false, IntKind.wrap .i64 (zAn (zSh (zAn (List.getD a (Int.toNat (IntKind.wrap .i64 (c + 1))) 0) 16777215) 8) 1 + 1), IntKind.wrap .i64 (IntKind.wrap .i64 (zAn (zSh (zAn (List.getD a (Int.toNat (IntKind.wrap .i64 (c + 1))) 0) 16777215) 8) 1 + 1) + zAn (zSh (zAn (List.getD a (Int.toNat (IntKind.wrap .i64 (c + 1))) 0) 16777215) 9) 1), r.1), ())))
 (.no))))
 (.cond (decide (0 <= 0) && decide (0 < (f.length : Int)))
 (.cond ((List.getD f (Int.toNat 0) zV2).2.2.2.2.1 != 1)
 (.cond (false)
 (.no)
 (.opt (predQ (zSh (zAn (List.getD a (Int.toNat (IntKind.wrap .i64 (c + 1))) 0) 16777215) 10, List.getD g.1 c.toNat ByteArray.empty, List.getD g.1 c.toNat ByteArray.empty, ())) fun s =>
 (.cond (decide ((List.length f + List.length (List.set (List.replicate 1 zV2) 0 (List.getD g.1 c.toNat ByteArray.empty, h.1, false, IntKind.wrap .i64 (zAn (zSh (zAn (List.getD a (Int.toNat (IntKind.wrap .i64 (c + 1))) 0) 16777215) 8) 1 + 1), IntKind.wrap .i64 (IntKind.wrap .i64 (zAn (zSh (zAn (List.getD a (Int.toNat (IntKind.wrap .i64 (c + 1))) 0) 16777215) 8) 1 + 1) + zAn (zSh (zAn (List.getD a (Int.toNat (IntKind.wrap .i64 (c + 1))) 0) 16777215) 9) 1), s.1))) * 88 <= 140737488355328))
 (.ret (.inl (a, b, IntKind.wrap .i64 (c + 1), d, e, f ++ List.set (List.replicate 1 zV2) 0 (List.getD g.1 c.toNat ByteArray.empty, h.1, false, IntKind.wrap .i64 (zAn (zSh (zAn (List.getD a (Int.toNat (IntKind.wrap .i64 (c + 1))) 0) 16777215) 8) 1 + 1), IntKind.wrap .i64 (IntKind.wrap .i64 (zAn (zSh (zAn (List.getD a (Int.toNat (IntKind.wrap .i64 (c + 1))) 0) 16777215) 8) 1 + 1) + zAn (zSh (zAn (List.getD a (Int.toNat (IntKind.wrap .i64 (c + 1))) 0) 16777215) 9) 1), s.1), ())))
 (.no))))
 (.cond (false)
 (.no)
 (.opt (predQ (zSh (zAn (List.getD a (Int.toNat (IntKind.wrap .i64 (c + 1))) 0) 16777215) 10, List.getD g.1 c.toNat ByteArray.empty, { data := #[97] }, ())) fun t =>
 (.cond (decide ((List.length f + List.length (List.set (List.replicate 1 zV2) 0 (List.getD g.1 c.toNat ByteArray.empty, h.1, false, IntKind.wrap .i64 (zAn (zSh (zAn (List.getD a (Int.toNat (IntKind.wrap .i64 (c + 1))) 0) 16777215) 8) 1 + 1), IntKind.wrap .i64 (IntKind.wrap .i64 (zAn (zSh (zAn (List.getD a (Int.toNat (IntKind.wrap .i64 (c + 1))) 0) 16777215) 8) 1 + 1) + zAn (zSh (zAn (List.getD a (Int.toNat (IntKind.wrap .i64 (c + 1))) 0) 16777215) 9) 1), t.1))) * 88 <= 140737488355328))
 (.ret (.inl (a, b, IntKind.wrap .i64 (c + 1), d, e, f ++ List.set (List.replicate 1 zV2) 0 (List.getD g.1 c.toNat ByteArray.empty, h.1, false, IntKind.wrap .i64 (zAn (zSh (zAn (List.getD a (Int.toNat (IntKind.wrap .i64 (c + 1))) 0) 16777215) 8) 1 + 1), IntKind.wrap .i64 (IntKind.wrap .i64 (zAn (zSh (zAn (List.getD a (Int.toNat (IntKind.wrap .i64 (c + 1))) 0) 16777215) 8) 1 + 1) + zAn (zSh (zAn (List.getD a (Int.toNat (IntKind.wrap .i64 (c + 1))) 0) 16777215) 9) 1), t.1), ())))
 (.no)))))
 (.no)))))
 (.cond (c == 0)
 (.cond (false)
 (.no)
 (.opt (predQ (zSh (zAn (List.getD a (Int.toNat (IntKind.wrap .i64 (c + 1))) 0) 16777215) 10, List.getD g.1 c.toNat ByteArray.empty, List.getD g.1 c.toNat ByteArray.empty, ())) fun u =>
 (.cond (decide ((List.length f + List.length (List.set (List.replicate 1 zV2) 0 (List.getD g.1 c.toNat ByteArray.empty, h.1, false, 1, 1, u.1))) * 88 <= 140737488355328))
 (.ret (.inl (a, b, IntKind.wrap .i64 (c + 1), d, e, f ++ List.set (List.replicate 1 zV2) 0 (List.getD g.1 c.toNat ByteArray.empty, h.1, false, 1, 1, u.1), ())))
 (.no))))
 (.cond (decide (0 <= 0) && decide (0 < (f.length : Int)))
 (.cond ((List.getD f (Int.toNat 0) zV2).2.2.2.2.1 != 1)
 (.cond (false)
 (.no)
 (.opt (predQ (zSh (zAn (List.getD a (Int.toNat (IntKind.wrap .i64 (c + 1))) 0) 16777215) 10, List.getD g.1 c.toNat ByteArray.empty, List.getD g.1 c.toNat ByteArray.empty, ())) fun v =>
 (.cond (decide ((List.length f + List.length (List.set (List.replicate 1 zV2) 0 (List.getD g.1 c.toNat ByteArray.empty, h.1, false, 1, 1, v.1))) * 88 <= 140737488355328))
 (.ret (.inl (a, b, IntKind.wrap .i64 (c + 1), d, e, f ++ List.set (List.replicate 1 zV2) 0 (List.getD g.1 c.toNat ByteArray.empty, h.1, false, 1, 1, v.1), ())))
 (.no))))
 (.cond (false)
 (.no)
 (.opt (predQ (zSh (zAn (List.getD a (Int.toNat (IntKind.wrap .i64 (c + 1))) 0) 16777215) 10, List.getD g.1 c.toNat ByteArray.empty, { data := #[97] }, ())) fun w =>
 (.cond (decide ((List.length f + List.length (List.set (List.replicate 1 zV2) 0 (List.getD g.1 c.toNat ByteArray.empty, h.1, false, 1, 1, w.1))) * 88 <= 140737488355328))
 (.ret (.inl (a, b, IntKind.wrap .i64 (c + 1), d, e, f ++ List.set (List.replicate 1 zV2) 0 (List.getD g.1 c.toNat ByteArray.empty, h.1, false, 1, 1, w.1), ())))
 (.no)))))
 (.no))))))
 (.cond (false)
 (.no)
 (.cond (zAn (zSh (zAn (List.getD a (Int.toNat (IntKind.wrap .i64 (c + 1))) 0) 16777215) 6) 3 == 0)
 (.cond (false)
 (.no)
 (.cond (false)
 (.no)
 (.cond (c == 0)
 (.cond (false)
 (.no)
 (.opt (predQ (zSh (zAn (List.getD a (Int.toNat (IntKind.wrap .i64 (c + 1))) 0) 16777215) 10, List.getD g.1 c.toNat ByteArray.empty, List.getD g.1 c.toNat ByteArray.empty, ())) fun x =>
 (.cond (decide ((List.length f + List.length (List.set (List.replicate 1 zV2) 0 (List.getD g.1 c.toNat ByteArray.empty, h.1, false, IntKind.wrap .i64 (zAn (zSh (zAn (List.getD a (Int.toNat (IntKind.wrap .i64 (c + 1))) 0) 16777215) 8) 1 + 1), IntKind.wrap .i64 (IntKind.wrap .i64 (zAn (zSh (zAn (List.getD a (Int.toNat (IntKind.wrap .i64 (c + 1))) 0) 16777215) 8) 1 + 1) + zAn (zSh (zAn (List.getD a (Int.toNat (IntKind.wrap .i64 (c + 1))) 0) 16777215) 9) 1), x.1))) * 88 <= 140737488355328))
 (.ret (.inl (a, b, IntKind.wrap .i64 (c + 1), d, e, f ++ List.set (List.replicate 1 zV2) 0 (List.getD g.1 c.toNat ByteArray.empty, h.1, false, IntKind.wrap .i64 (zAn (zSh (zAn (List.getD a (Int.toNat (IntKind.wrap .i64 (c + 1))) 0) 16777215) 8) 1 + 1), IntKind.wrap .i64 (IntKind.wrap .i64 (zAn (zSh (zAn (List.getD a (Int.toNat (IntKind.wrap .i64 (c + 1))) 0) 16777215) 8) 1 + 1) + zAn (zSh (zAn (List.getD a (Int.toNat (IntKind.wrap .i64 (c + 1))) 0) 16777215) 9) 1), x.1), ())))
 (.no))))
 (.cond (decide (0 <= 0) && decide (0 < (f.length : Int)))
 (.cond ((List.getD f (Int.toNat 0) zV2).2.2.2.2.1 != 1)
 (.cond (false)
 (.no)
 (.opt (predQ (zSh (zAn (List.getD a (Int.toNat (IntKind.wrap .i64 (c + 1))) 0) 16777215) 10, List.getD g.1 c.toNat ByteArray.empty, List.getD g.1 c.toNat ByteArray.empty, ())) fun y =>
 (.cond (decide ((List.length f + List.length (List.set (List.replicate 1 zV2) 0 (List.getD g.1 c.toNat ByteArray.empty, h.1, false, IntKind.wrap .i64 (zAn (zSh (zAn (List.getD a (Int.toNat (IntKind.wrap .i64 (c + 1))) 0) 16777215) 8) 1 + 1), IntKind.wrap .i64 (IntKind.wrap .i64 (zAn (zSh (zAn (List.getD a (Int.toNat (IntKind.wrap .i64 (c + 1))) 0) 16777215) 8) 1 + 1) + zAn (zSh (zAn (List.getD a (Int.toNat (IntKind.wrap .i64 (c + 1))) 0) 16777215) 9) 1), y.1))) * 88 <= 140737488355328))
 (.ret (.inl (a, b, IntKind.wrap .i64 (c + 1), d, e, f ++ List.set (List.replicate 1 zV2) 0 (List.getD g.1 c.toNat ByteArray.empty, h.1, false, IntKind.wrap .i64 (zAn (zSh (zAn (List.getD a (Int.toNat (IntKind.wrap .i64 (c + 1))) 0) 16777215) 8) 1 + 1), IntKind.wrap .i64 (IntKind.wrap .i64 (zAn (zSh (zAn (List.getD a (Int.toNat (IntKind.wrap .i64 (c + 1))) 0) 16777215) 8) 1 + 1) + zAn (zSh (zAn (List.getD a (Int.toNat (IntKind.wrap .i64 (c + 1))) 0) 16777215) 9) 1), y.1), ())))
 (.no))))
 (.cond (false)
 (.no)
 (.opt (predQ (zSh (zAn (List.getD a (Int.toNat (IntKind.wrap .i64 (c + 1))) 0) 16777215) 10, List.getD g.1 c.toNat ByteArray.empty, { data := #[97] }, ())) fun z =>
 (.cond (decide ((List.length f + List.length (List.set (List.replicate 1 zV2) 0 (List.getD g.1 c.toNat ByteArray.empty, h.1, false, IntKind.wrap .i64 (zAn (zSh (zAn (List.getD a (Int.toNat (IntKind.wrap .i64 (c + 1))) 0) 16777215) 8) 1 + 1), IntKind.wrap .i64 (IntKind.wrap .i64 (zAn (zSh (zAn (List.getD a (Int.toNat (IntKind.wrap .i64 (c + 1))) 0) 16777215) 8) 1 + 1) + zAn (zSh (zAn (List.getD a (Int.toNat (IntKind.wrap .i64 (c + 1))) 0) 16777215) 9) 1), z.1))) * 88 <= 140737488355328))
 (.ret (.inl (a, b, IntKind.wrap .i64 (c + 1), d, e, f ++ List.set (List.replicate 1 zV2) 0 (List.getD g.1 c.toNat ByteArray.empty, h.1, false, IntKind.wrap .i64 (zAn (zSh (zAn (List.getD a (Int.toNat (IntKind.wrap .i64 (c + 1))) 0) 16777215) 8) 1 + 1), IntKind.wrap .i64 (IntKind.wrap .i64 (zAn (zSh (zAn (List.getD a (Int.toNat (IntKind.wrap .i64 (c + 1))) 0) 16777215) 8) 1 + 1) + zAn (zSh (zAn (List.getD a (Int.toNat (IntKind.wrap .i64 (c + 1))) 0) 16777215) 9) 1), z.1), ())))
 (.no)))))
 (.no)))))
 (.cond (c == 0)
 (.cond (false)
 (.no)
 (.opt (predQ (zSh (zAn (List.getD a (Int.toNat (IntKind.wrap .i64 (c + 1))) 0) 16777215) 10, List.getD g.1 c.toNat ByteArray.empty, List.getD g.1 c.toNat ByteArray.empty, ())) fun aa =>
 (.cond (decide ((List.length f + List.length (List.set (List.replicate 1 zV2) 0 (List.getD g.1 c.toNat ByteArray.empty, h.1, false, 1, 1, aa.1))) * 88 <= 140737488355328))
 (.ret (.inl (a, b, IntKind.wrap .i64 (c + 1), d, e, f ++ List.set (List.replicate 1 zV2) 0 (List.getD g.1 c.toNat ByteArray.empty, h.1, false, 1, 1, aa.1), ())))
 (.no))))
 (.cond (decide (0 <= 0) && decide (0 < (f.length : Int)))
 (.cond ((List.getD f (Int.toNat 0) zV2).2.2.2.2.1 != 1)
 (.cond (false)
 (.no)
 (.opt (predQ (zSh (zAn (List.getD a (Int.toNat (IntKind.wrap .i64 (c + 1))) 0) 16777215) 10, List.getD g.1 c.toNat ByteArray.empty, List.getD g.1 c.toNat ByteArray.empty, ())) fun ab =>
 (.cond (decide ((List.length f + List.length (List.set (List.replicate 1 zV2) 0 (List.getD g.1 c.toNat ByteArray.empty, h.1, false, 1, 1, ab.1))) * 88 <= 140737488355328))
 (.ret (.inl (a, b, IntKind.wrap .i64 (c + 1), d, e, f ++ List.set (List.replicate 1 zV2) 0 (List.getD g.1 c.toNat ByteArray.empty, h.1, false, 1, 1, ab.1), ())))
 (.no))))
 (.cond (false)
 (.no)
 (.opt (predQ (zSh (zAn (List.getD a (Int.toNat (IntKind.wrap .i64 (c + 1))) 0) 16777215) 10, List.getD g.1 c.toNat ByteArray.empty, { data := #[97] }, ())) fun ac =>
 (.cond (decide ((List.length f + List.length (List.set (List.replicate 1 zV2) 0 (List.getD g.1 c.toNat ByteArray.empty, h.1, false, 1, 1, ac.1))) * 88 <= 140737488355328))
 (.ret (.inl (a, b, IntKind.wrap .i64 (c + 1), d, e, f ++ List.set (List.replicate 1 zV2) 0 (List.getD g.1 c.toNat ByteArray.empty, h.1, false, 1, 1, ac.1), ())))
 (.no)))))
 (.no)))))))
 (.no)))
 (.no))
 (.opt (varsQ ()) fun ad =>
 (.cond (decide (0 <= c) && decide (c < (ad.1.length : Int)))
 (.opt (typesQ (IntKind.wrap .i64 (c * 37), ())) fun ae =>
 (.cond (decide (c > 0))
 (.cond (decide (c < IntKind.wrap .i64 (b - 1)))
 (.cond (false)
 (.no)
 (.cond (!zAn (zSh (IntKind.wrap .i64 (c * 37)) 4) 3 == 0)
 (.cond (false)
 (.no)
 (.cond (zAn (zSh (IntKind.wrap .i64 (c * 37)) 6) 3 == 0)
 (.cond (false)
 (.no)
 (.cond (false)
 (.no)
 (.cond (c == 0)
 (.cond (false)
 (.no)
 (.opt (predQ (zSh (IntKind.wrap .i64 (c * 37)) 10, List.getD ad.1 c.toNat ByteArray.empty, List.getD ad.1 c.toNat ByteArray.empty, ())) fun af =>
 (.cond (decide ((List.length f + List.length (List.set (List.replicate 1 zV2) 0 (List.getD ad.1 c.toNat ByteArray.empty, ae.1, zAn (zSh (IntKind.wrap .i64 (c * 37)) 4) 3 == 0, IntKind.wrap .i64 (zAn (zSh (IntKind.wrap .i64 (c * 37)) 8) 1 + 1), IntKind.wrap .i64 (IntKind.wrap .i64 (zAn (zSh (IntKind.wrap .i64 (c * 37)) 8) 1 + 1) + zAn (zSh (IntKind.wrap .i64 (c * 37)) 9) 1), af.1))) * 88 <= 140737488355328))
 (.ret (.inl (a, b, IntKind.wrap .i64 (c + 1), d, e, f ++ List.set (List.replicate 1 zV2) 0 (List.getD ad.1 c.toNat ByteArray.empty, ae.1, zAn (zSh (IntKind.wrap .i64 (c * 37)) 4) 3 == 0, IntKind.wrap .i64 (zAn (zSh (IntKind.wrap .i64 (c * 37)) 8) 1 + 1), IntKind.wrap .i64 (IntKind.wrap .i64 (zAn (zSh (IntKind.wrap .i64 (c * 37)) 8) 1 + 1) + zAn (zSh (IntKind.wrap .i64 (c * 37)) 9) 1), af.1), ())))
 (.no))))
 (.cond (decide (0 <= 0) && decide (0 < (f.length : Int)))
 (.cond ((List.getD f (Int.toNat 0) zV2).2.2.2.2.1 != 1)
 (.cond (false)
 (.no)
 (.opt (predQ (zSh (IntKind.wrap .i64 (c * 37)) 10, List.getD ad.1 c.toNat ByteArray.empty, List.getD ad.1 c.toNat ByteArray.empty, ())) fun ag =>
 (.cond (decide ((List.length f + List.length (List.set (List.replicate 1 zV2) 0 (List.getD ad.1 c.toNat ByteArray.empty, ae.1, zAn (zSh (IntKind.wrap .i64 (c * 37)) 4) 3 == 0, IntKind.wrap .i64 (zAn (zSh (IntKind.wrap .i64 (c * 37)) 8) 1 + 1), IntKind.wrap .i64 (IntKind.wrap .i64 (zAn (zSh (IntKind.wrap .i64 (c * 37)) 8) 1 + 1) + zAn (zSh (IntKind.wrap .i64 (c * 37)) 9) 1), ag.1))) * 88 <= 140737488355328))
 (.ret (.inl (a, b, IntKind.wrap .i64 (c + 1), d, e, f ++ List.set (List.replicate 1 zV2) 0 (List.getD ad.1 c.toNat ByteArray.empty, ae.1, zAn (zSh (IntKind.wrap .i64 (c * 37)) 4) 3 == 0, IntKind.wrap .i64 (zAn (zSh (IntKind.wrap .i64 (c * 37)) 8) 1 + 1), IntKind.wrap .i64 (IntKind.wrap .i64 (zAn (zSh (IntKind.wrap .i64 (c * 37)) 8) 1 + 1) + zAn (zSh (IntKind.wrap .i64 (c * 37)) 9) 1), ag.1), ())))
 (.no))))
 (.cond (false)
 (.no)
 (.opt (predQ (zSh (IntKind.wrap .i64 (c * 37)) 10, List.getD ad.1 c.toNat ByteArray.empty, { data := #[97] }, ())) fun ah =>
 (.cond (decide ((List.length f + List.length (List.set (List.replicate 1 zV2) 0 (List.getD ad.1 c.toNat ByteArray.empty, ae.1, zAn (zSh (IntKind.wrap .i64 (c * 37)) 4) 3 == 0, IntKind.wrap .i64 (zAn (zSh (IntKind.wrap .i64 (c * 37)) 8) 1 + 1), IntKind.wrap .i64 (IntKind.wrap .i64 (zAn (zSh (IntKind.wrap .i64 (c * 37)) 8) 1 + 1) + zAn (zSh (IntKind.wrap .i64 (c * 37)) 9) 1), ah.1))) * 88 <= 140737488355328))
 (.ret (.inl (a, b, IntKind.wrap .i64 (c + 1), d, e, f ++ List.set (List.replicate 1 zV2) 0 (List.getD ad.1 c.toNat ByteArray.empty, ae.1, zAn (zSh (IntKind.wrap .i64 (c * 37)) 4) 3 == 0, IntKind.wrap .i64 (zAn (zSh (IntKind.wrap .i64 (c * 37)) 8) 1 + 1), IntKind.wrap .i64 (IntKind.wrap .i64 (zAn (zSh (IntKind.wrap .i64 (c * 37)) 8) 1 + 1) + zAn (zSh (IntKind.wrap .i64 (c * 37)) 9) 1), ah.1), ())))
 (.no)))))
 (.no)))))
 (.cond (c == 0)
 (.cond (false)
 (.no)
 (.opt (predQ (zSh (IntKind.wrap .i64 (c * 37)) 10, List.getD ad.1 c.toNat ByteArray.empty, List.getD ad.1 c.toNat ByteArray.empty, ())) fun ai =>
 (.cond (decide ((List.length f + List.length (List.set (List.replicate 1 zV2) 0 (List.getD ad.1 c.toNat ByteArray.empty, ae.1, zAn (zSh (IntKind.wrap .i64 (c * 37)) 4) 3 == 0, 1, 1, ai.1))) * 88 <= 140737488355328))
 (.ret (.inl (a, b, IntKind.wrap .i64 (c + 1), d, e, f ++ List.set (List.replicate 1 zV2) 0 (List.getD ad.1 c.toNat ByteArray.empty, ae.1, zAn (zSh (IntKind.wrap .i64 (c * 37)) 4) 3 == 0, 1, 1, ai.1), ())))
 (.no))))
 (.cond (decide (0 <= 0) && decide (0 < (f.length : Int)))
 (.cond ((List.getD f (Int.toNat 0) zV2).2.2.2.2.1 != 1)
 (.cond (false)
 (.no)
 (.opt (predQ (zSh (IntKind.wrap .i64 (c * 37)) 10, List.getD ad.1 c.toNat ByteArray.empty, List.getD ad.1 c.toNat ByteArray.empty, ())) fun aj =>
 (.cond (decide ((List.length f + List.length (List.set (List.replicate 1 zV2) 0 (List.getD ad.1 c.toNat ByteArray.empty, ae.1, zAn (zSh (IntKind.wrap .i64 (c * 37)) 4) 3 == 0, 1, 1, aj.1))) * 88 <= 140737488355328))
 (.ret (.inl (a, b, IntKind.wrap .i64 (c + 1), d, e, f ++ List.set (List.replicate 1 zV2) 0 (List.getD ad.1 c.toNat ByteArray.empty, ae.1, zAn (zSh (IntKind.wrap .i64 (c * 37)) 4) 3 == 0, 1, 1, aj.1), ())))
 (.no))))
 (.cond (false)
 (.no)
 (.opt (predQ (zSh (IntKind.wrap .i64 (c * 37)) 10, List.getD ad.1 c.toNat ByteArray.empty, { data := #[97] }, ())) fun ak =>
 (.cond (decide ((List.length f + List.length (List.set (List.replicate 1 zV2) 0 (List.getD ad.1 c.toNat ByteArray.empty, ae.1, zAn (zSh (IntKind.wrap .i64 (c * 37)) 4) 3 == 0, 1, 1, ak.1))) * 88 <= 140737488355328))
 (.ret (.inl (a, b, IntKind.wrap .i64 (c + 1), d, e, f ++ List.set (List.replicate 1 zV2) 0 (List.getD ad.1 c.toNat ByteArray.empty, ae.1, zAn (zSh (IntKind.wrap .i64 (c * 37)) 4) 3 == 0, 1, 1, ak.1), ())))
 (.no)))))
 (.no)))))
 (.cond (c == 0)
 (.cond (false)
 (.no)
 (.opt (predQ (zSh (IntKind.wrap .i64 (c * 37)) 10, List.getD ad.1 c.toNat ByteArray.empty, List.getD ad.1 c.toNat ByteArray.empty, ())) fun al =>
 (.cond (decide ((List.length f + List.length (List.set (List.replicate 1 zV2) 0 (List.getD ad.1 c.toNat ByteArray.empty, ae.1, zAn (zSh (IntKind.wrap .i64 (c * 37)) 4) 3 == 0, 1, 1, al.1))) * 88 <= 140737488355328))
 (.ret (.inl (a, b, IntKind.wrap .i64 (c + 1), d, e, f ++ List.set (List.replicate 1 zV2) 0 (List.getD ad.1 c.toNat ByteArray.empty, ae.1, zAn (zSh (IntKind.wrap .i64 (c * 37)) 4) 3 == 0, 1, 1, al.1), ())))
 (.no))))
 (.cond (decide (0 <= 0) && decide (0 < (f.length : Int)))
 (.cond ((List.getD f (Int.toNat 0) zV2).2.2.2.2.1 != 1)
 (.cond (false)
 (.no)
 (.opt (predQ (zSh (IntKind.wrap .i64 (c * 37)) 10, List.getD ad.1 c.toNat ByteArray.empty, List.getD ad.1 c.toNat ByteArray.empty, ())) fun am =>
 (.cond (decide ((List.length f + List.length (List.set (List.replicate 1 zV2) 0 (List.getD ad.1 c.toNat ByteArray.empty, ae.1, zAn (zSh (IntKind.wrap .i64 (c * 37)) 4) 3 == 0, 1, 1, am.1))) * 88 <= 140737488355328))
 (.ret (.inl (a, b, IntKind.wrap .i64 (c + 1), d, e, f ++ List.set (List.replicate 1 zV2) 0 (List.getD ad.1 c.toNat ByteArray.empty, ae.1, zAn (zSh (IntKind.wrap .i64 (c * 37)) 4) 3 == 0, 1, 1, am.1), ())))
 (.no))))
 (.cond (false)
 (.no)
 (.opt (predQ (zSh (IntKind.wrap .i64 (c * 37)) 10, List.getD ad.1 c.toNat ByteArray.empty, { data := #[97] }, ())) fun an =>
 (.cond (decide ((List.length f + List.length (List.set (List.replicate 1 zV2) 0 (List.getD ad.1 c.toNat ByteArray.empty, ae.1, zAn (zSh (IntKind.wrap .i64 (c * 37)) 4) 3 == 0, 1, 1, an.1))) * 88 <= 140737488355328))
 (.ret (.inl (a, b, IntKind.wrap .i64 (c + 1), d, e, f ++ List.set (List.replicate 1 zV2) 0 (List.getD ad.1 c.toNat ByteArray.empty, ae.1, zAn (zSh (IntKind.wrap .i64 (c * 37)) 4) 3 == 0, 1, 1, an.1), ())))
 (.no)))))
 (.no)))))
 (.cond (false)
 (.no)
 (.cond (zAn (zSh (IntKind.wrap .i64 (c * 37)) 6) 3 == 0)
 (.cond (false)
 (.no)
 (.cond (false)
 (.no)
 (.cond (c == 0)
 (.cond (false)
 (.no)
 (.opt (predQ (zSh (IntKind.wrap .i64 (c * 37)) 10, List.getD ad.1 c.toNat ByteArray.empty, List.getD ad.1 c.toNat ByteArray.empty, ())) fun ao =>
 (.cond (decide ((List.length f + List.length (List.set (List.replicate 1 zV2) 0 (List.getD ad.1 c.toNat ByteArray.empty, ae.1, false, IntKind.wrap .i64 (zAn (zSh (IntKind.wrap .i64 (c * 37)) 8) 1 + 1), IntKind.wrap .i64 (IntKind.wrap .i64 (zAn (zSh (IntKind.wrap .i64 (c * 37)) 8) 1 + 1) + zAn (zSh (IntKind.wrap .i64 (c * 37)) 9) 1), ao.1))) * 88 <= 140737488355328))
 (.ret (.inl (a, b, IntKind.wrap .i64 (c + 1), d, e, f ++ List.set (List.replicate 1 zV2) 0 (List.getD ad.1 c.toNat ByteArray.empty, ae.1, false, IntKind.wrap .i64 (zAn (zSh (IntKind.wrap .i64 (c * 37)) 8) 1 + 1), IntKind.wrap .i64 (IntKind.wrap .i64 (zAn (zSh (IntKind.wrap .i64 (c * 37)) 8) 1 + 1) + zAn (zSh (IntKind.wrap .i64 (c * 37)) 9) 1), ao.1), ())))
 (.no))))
 (.cond (decide (0 <= 0) && decide (0 < (f.length : Int)))
 (.cond ((List.getD f (Int.toNat 0) zV2).2.2.2.2.1 != 1)
 (.cond (false)
 (.no)
 (.opt (predQ (zSh (IntKind.wrap .i64 (c * 37)) 10, List.getD ad.1 c.toNat ByteArray.empty, List.getD ad.1 c.toNat ByteArray.empty, ())) fun ap =>
 (.cond (decide ((List.length f + List.length (List.set (List.replicate 1 zV2) 0 (List.getD ad.1 c.toNat ByteArray.empty, ae.1, false, IntKind.wrap .i64 (zAn (zSh (IntKind.wrap .i64 (c * 37)) 8) 1 + 1), IntKind.wrap .i64 (IntKind.wrap .i64 (zAn (zSh (IntKind.wrap .i64 (c * 37)) 8) 1 + 1) + zAn (zSh (IntKind.wrap .i64 (c * 37)) 9) 1), ap.1))) * 88 <= 140737488355328))
 (.ret (.inl (a, b, IntKind.wrap .i64 (c + 1), d, e, f ++ List.set (List.replicate 1 zV2) 0 (List.getD ad.1 c.toNat ByteArray.empty, ae.1, false, IntKind.wrap .i64 (zAn (zSh (IntKind.wrap .i64 (c * 37)) 8) 1 + 1), IntKind.wrap .i64 (IntKind.wrap .i64 (zAn (zSh (IntKind.wrap .i64 (c * 37)) 8) 1 + 1) + zAn (zSh (IntKind.wrap .i64 (c * 37)) 9) 1), ap.1), ())))
 (.no))))
 (.cond (false)
 (.no)
 (.opt (predQ (zSh (IntKind.wrap .i64 (c * 37)) 10, List.getD ad.1 c.toNat ByteArray.empty, { data := #[97] }, ())) fun aq =>
 (.cond (decide ((List.length f + List.length (List.set (List.replicate 1 zV2) 0 (List.getD ad.1 c.toNat ByteArray.empty, ae.1, false, IntKind.wrap .i64 (zAn (zSh (IntKind.wrap .i64 (c * 37)) 8) 1 + 1), IntKind.wrap .i64 (IntKind.wrap .i64 (zAn (zSh (IntKind.wrap .i64 (c * 37)) 8) 1 + 1) + zAn (zSh (IntKind.wrap .i64 (c * 37)) 9) 1), aq.1))) * 88 <= 140737488355328))
 (.ret (.inl (a, b, IntKind.wrap .i64 (c + 1), d, e, f ++ List.set (List.replicate 1 zV2) 0 (List.getD ad.1 c.toNat ByteArray.empty, ae.1, false, IntKind.wrap .i64 (zAn (zSh (IntKind.wrap .i64 (c * 37)) 8) 1 + 1), IntKind.wrap .i64 (IntKind.wrap .i64 (zAn (zSh (IntKind.wrap .i64 (c * 37)) 8) 1 + 1) + zAn (zSh (IntKind.wrap .i64 (c * 37)) 9) 1), aq.1), ())))
 (.no)))))
 (.no)))))
 (.cond (c == 0)
 (.cond (false)
 (.no)
 (.opt (predQ (zSh (IntKind.wrap .i64 (c * 37)) 10, List.getD ad.1 c.toNat ByteArray.empty, List.getD ad.1 c.toNat ByteArray.empty, ())) fun ar =>
 (.cond (decide ((List.length f + List.length (List.set (List.replicate 1 zV2) 0 (List.getD ad.1 c.toNat ByteArray.empty, ae.1, false, 1, 1, ar.1))) * 88 <= 140737488355328))
 (.ret (.inl (a, b, IntKind.wrap .i64 (c + 1), d, e, f ++ List.set (List.replicate 1 zV2) 0 (List.getD ad.1 c.toNat ByteArray.empty, ae.1, false, 1, 1, ar.1), ())))
 (.no))))
 (.cond (decide (0 <= 0) && decide (0 < (f.length : Int)))
 (.cond ((List.getD f (Int.toNat 0) zV2).2.2.2.2.1 != 1)
 (.cond (false)
 (.no)
 (.opt (predQ (zSh (IntKind.wrap .i64 (c * 37)) 10, List.getD ad.1 c.toNat ByteArray.empty, List.getD ad.1 c.toNat ByteArray.empty, ())) fun au =>
 (.cond (decide ((List.length f + List.length (List.set (List.replicate 1 zV2) 0 (List.getD ad.1 c.toNat ByteArray.empty, ae.1, false, 1, 1, au.1))) * 88 <= 140737488355328))
 (.ret (.inl (a, b, IntKind.wrap .i64 (c + 1), d, e, f ++ List.set (List.replicate 1 zV2) 0 (List.getD ad.1 c.toNat ByteArray.empty, ae.1, false, 1, 1, au.1), ())))
 (.no))))
 (.cond (false)
 (.no)
 (.opt (predQ (zSh (IntKind.wrap .i64 (c * 37)) 10, List.getD ad.1 c.toNat ByteArray.empty, { data := #[97] }, ())) fun av =>
 (.cond (decide ((List.length f + List.length (List.set (List.replicate 1 zV2) 0 (List.getD ad.1 c.toNat ByteArray.empty, ae.1, false, 1, 1, av.1))) * 88 <= 140737488355328))
 (.ret (.inl (a, b, IntKind.wrap .i64 (c + 1), d, e, f ++ List.set (List.replicate 1 zV2) 0 (List.getD ad.1 c.toNat ByteArray.empty, ae.1, false, 1, 1, av.1), ())))
 (.no)))))
 (.no))))))
 (.cond (false)
 (.no)
 (.cond (zAn (zSh (IntKind.wrap .i64 (c * 37)) 6) 3 == 0)
 (.cond (false)
 (.no)
 (.cond (false)
 (.no)
 (.cond (c == 0)
 (.cond (false)
 (.no)
 (.opt (predQ (zSh (IntKind.wrap .i64 (c * 37)) 10, List.getD ad.1 c.toNat ByteArray.empty, List.getD ad.1 c.toNat ByteArray.empty, ())) fun aw =>
 (.cond (decide ((List.length f + List.length (List.set (List.replicate 1 zV2) 0 (List.getD ad.1 c.toNat ByteArray.empty, ae.1, false, IntKind.wrap .i64 (zAn (zSh (IntKind.wrap .i64 (c * 37)) 8) 1 + 1), IntKind.wrap .i64 (IntKind.wrap .i64 (zAn (zSh (IntKind.wrap .i64 (c * 37)) 8) 1 + 1) + zAn (zSh (IntKind.wrap .i64 (c * 37)) 9) 1), aw.1))) * 88 <= 140737488355328))
 (.ret (.inl (a, b, IntKind.wrap .i64 (c + 1), d, e, f ++ List.set (List.replicate 1 zV2) 0 (List.getD ad.1 c.toNat ByteArray.empty, ae.1, false, IntKind.wrap .i64 (zAn (zSh (IntKind.wrap .i64 (c * 37)) 8) 1 + 1), IntKind.wrap .i64 (IntKind.wrap .i64 (zAn (zSh (IntKind.wrap .i64 (c * 37)) 8) 1 + 1) + zAn (zSh (IntKind.wrap .i64 (c * 37)) 9) 1), aw.1), ())))
 (.no))))
 (.cond (decide (0 <= 0) && decide (0 < (f.length : Int)))
 (.cond ((List.getD f (Int.toNat 0) zV2).2.2.2.2.1 != 1)
 (.cond (false)
 (.no)
 (.opt (predQ (zSh (IntKind.wrap .i64 (c * 37)) 10, List.getD ad.1 c.toNat ByteArray.empty, List.getD ad.1 c.toNat ByteArray.empty, ())) fun ax =>
 (.cond (decide ((List.length f + List.length (List.set (List.replicate 1 zV2) 0 (List.getD ad.1 c.toNat ByteArray.empty, ae.1, false, IntKind.wrap .i64 (zAn (zSh (IntKind.wrap .i64 (c * 37)) 8) 1 + 1), IntKind.wrap .i64 (IntKind.wrap .i64 (zAn (zSh (IntKind.wrap .i64 (c * 37)) 8) 1 + 1) + zAn (zSh (IntKind.wrap .i64 (c * 37)) 9) 1), ax.1))) * 88 <= 140737488355328))
 (.ret (.inl (a, b, IntKind.wrap .i64 (c + 1), d, e, f ++ List.set (List.replicate 1 zV2) 0 (List.getD ad.1 c.toNat ByteArray.empty, ae.1, false, IntKind.wrap .i64 (zAn (zSh (IntKind.wrap .i64 (c * 37)) 8) 1 + 1), IntKind.wrap .i64 (IntKind.wrap .i64 (zAn (zSh (IntKind.wrap .i64 (c * 37)) 8) 1 + 1) + zAn (zSh (IntKind.wrap .i64 (c * 37)) 9) 1), ax.1), ())))
 (.no))))
 (.cond (false)
 (.no)
 (.opt (predQ (zSh (IntKind.wrap .i64 (c * 37)) 10, List.getD ad.1 c.toNat ByteArray.empty, { data := #[97] }, ())) fun ay =>
 (.cond (decide ((List.length f + List.length (List.set (List.replicate 1 zV2) 0 (List.getD ad.1 c.toNat ByteArray.empty, ae.1, false, IntKind.wrap .i64 (zAn (zSh (IntKind.wrap .i64 (c * 37)) 8) 1 + 1), IntKind.wrap .i64 (IntKind.wrap .i64 (zAn (zSh (IntKind.wrap .i64 (c * 37)) 8) 1 + 1) + zAn (zSh (IntKind.wrap .i64 (c * 37)) 9) 1), ay.1))) * 88 <= 140737488355328))
 (.ret (.inl (a, b, IntKind.wrap .i64 (c + 1), d, e, f ++ List.set (List.replicate 1 zV2) 0 (List.getD ad.1 c.toNat ByteArray.empty, ae.1, false, IntKind.wrap .i64 (zAn (zSh (IntKind.wrap .i64 (c * 37)) 8) 1 + 1), IntKind.wrap .i64 (IntKind.wrap .i64 (zAn (zSh (IntKind.wrap .i64 (c * 37)) 8) 1 + 1) + zAn (zSh (IntKind.wrap .i64 (c * 37)) 9) 1), ay.1), ())))
 (.no)))))
 (.no)))))
 (.cond (c == 0)
 (.cond (false)
 (.no)
 (.opt (predQ (zSh (IntKind.wrap .i64 (c * 37)) 10, List.getD ad.1 c.toNat ByteArray.empty, List.getD ad.1 c.toNat ByteArray.empty, ())) fun az =>
 (.cond (decide ((List.length f + List.length (List.set (List.replicate 1 zV2) 0 (List.getD ad.1 c.toNat ByteArray.empty, ae.1, false, 1, 1, az.1))) * 88 <= 140737488355328))
 (.ret (.inl (a, b, IntKind.wrap .i64 (c + 1), d, e, f ++ List.set (List.replicate 1 zV2) 0 (List.getD ad.1 c.toNat ByteArray.empty, ae.1, false, 1, 1, az.1), ())))
 (.no))))
 (.cond (decide (0 <= 0) && decide (0 < (f.length : Int)))
 (.cond ((List.getD f (Int.toNat 0) zV2).2.2.2.2.1 != 1)
 (.cond (false)
 (.no)
 (.opt (predQ (zSh (IntKind.wrap .i64 (c * 37)) 10, List.getD ad.1 c.toNat ByteArray.empty, List.getD ad.1 c.toNat ByteArray.empty, ())) fun a0 =>
 (.cond (decide ((List.length f + List.length (List.set (List.replicate 1 zV2) 0 (List.getD ad.1 c.toNat ByteArray.empty, ae.1, false, 1, 1, a0.1))) * 88 <= 140737488355328))
 (.ret (.inl (a, b, IntKind.wrap .i64 (c + 1), d, e, f ++ List.set (List.replicate 1 zV2) 0 (List.getD ad.1 c.toNat ByteArray.empty, ae.1, false, 1, 1, a0.1), ())))
 (.no))))
 (.cond (false)
 (.no)
 (.opt (predQ (zSh (IntKind.wrap .i64 (c * 37)) 10, List.getD ad.1 c.toNat ByteArray.empty, { data := #[97] }, ())) fun a1 =>
 (.cond (decide ((List.length f + List.length (List.set (List.replicate 1 zV2) 0 (List.getD ad.1 c.toNat ByteArray.empty, ae.1, false, 1, 1, a1.1))) * 88 <= 140737488355328))
 (.ret (.inl (a, b, IntKind.wrap .i64 (c + 1), d, e, f ++ List.set (List.replicate 1 zV2) 0 (List.getD ad.1 c.toNat ByteArray.empty, ae.1, false, 1, 1, a1.1), ())))
 (.no)))))
 (.no)))))))
 (.no))))
 (.ret (.inr (d, e, f, ()))))
def queryQ_w0 := Zag fun x => (Zdu x).run
def Zpb : ((List Int) × Unit) -> Br (Za5 × Unit) := fun (p0, ()) =>
 (.cond (decide ((p0.length : Int) > 0))
 (.cond (decide (0 <= 0) && decide (0 < (p0.length : Int)))
 (.cond (false)
 (.no)
 (.cond (false)
 (.no)
 (.cond (decide (0 <= zAn (zSh (zAn (List.getD p0 (Int.toNat 0) 0) 16777215) 6) 3) && decide (zAn (zSh (zAn (List.getD p0 (Int.toNat 0) 0) 16777215) 6) 3 < (↑(List.length (List.set (List.set (List.set (List.set (List.replicate 4 0) 0 100) 1 100) 2 200) 3 1000)) : Int)))
 (.opt (queryQ_w0 (p0, IntKind.wrap .i64 (zAn (zAn (List.getD p0 (Int.toNat 0) 0) 16777215) 3 + 1), 0, IntKind.wrap .i64 (zAn (zSh (zAn (List.getD p0 (Int.toNat 0) 0) 16777215) 2) 15 + 1), List.getD (List.set (List.set (List.set (List.set (List.replicate 4 0) 0 100) 1 100) 2 200) 3 1000) (Int.toNat (zAn (zSh (zAn (List.getD p0 (Int.toNat 0) 0) 16777215) 6) 3)) 0, [], ())) fun a =>
 (.ret ((a.2.2.1, a.1, a.2.1), ())))
 (.no))))
 (.no))
 (.cond (false)
 (.no)
 (.cond (false)
 (.no)
 (.cond (true)
 (.opt (queryQ_w0 (p0, 1, 0, 1, 100, [], ())) fun b =>
 (.ret ((b.2.2.1, b.1, b.2.1), ())))
 (.no)))))
def queryQ := fun x => (Zpb x).run
abbrev Zk5 : List (Bool × Pat) := [(false, .ty true (.sl (.int .i64)))]
abbrev Zi4 : List Pat := [.ty false zA5]
def queryQ_L : List Lp := [
 .mk 8 (shX 118 [(2, .c (.ref 1026 0 0))] [(1026, [(.mfull 1724), .bad, .bad]), (1724, [])] [.slot 0 true (.sl (.int .i64)), sI 4, sI 5, .cell 1026 1 false (.int .i64), .cell 1026 2 false (.int .i64), .ar 1724 false 76 ZaU] ⟨[(0, .as true (.sl (.int .i64))), (2, .keep), (4, .as false (.int .i64)), (5, .as false (.int .i64))], [(2, 0, .row 700 false 76 ZaU), (2, 1, .as false (.int .i64)), (2, 2, .as false (.int .i64))], [(2, false), (700, false)]⟩) ([exX (.exit 0) 118 [(2, .c (.ref 1026 0 0))] [(1026, [(.mfull 1725), .bad, .bad]), (1725, [])] [.cell 1026 1 false (.int .i64), .cell 1026 2 false (.int .i64), .ar 1725 false 76 ZaU] ⟨[(2, .keep)], [(2, 0, .row 701 false 76 ZaU), (2, 1, .as false (.int .i64)), (2, 2, .as false (.int .i64))], [(2, false), (701, false)]⟩]) Zdu]
theorem Zu7 : OC Tryz.prog 25 Zk5 Zi4 queryQ := OC.lp en_predQ 1024 Tryz.func25 queryQ_L (by kernel_rfl) ⟨fun _ => by kernel_rfl, trivial⟩ (fun _ => by kernel_rfl)
end
end Go.Proofs.YtkbdofnbagmlfaaGreat
