/- Contracts of functions. Printed by auto.py. -/
import Derived.Test.YtkbdofnbagmlfaaGreatGe
import Derived.Test.YtkbdofnbagmlfaaGreatHa
import Derived.Test.YtkbdofnbagmlfaaGreatHb
namespace Go.Proofs.YtkbdofnbagmlfaaGreat
set_option maxRecDepth 100000
open Go.PI Go
noncomputable section
abbrev Zew : List (Bool × Pat) := [(false, .ty true (.sl Zb9)), (false, .ty true Zce), (false, .ty false (.int .i64))]
def ZjH : (Int × Unit) -> Br (Int × Unit) := fun (p0, ()) =>
 (.cond (p0 == 1)
 (.cond (p0 == 1)
 (.ret (0, ()))
 (.cond (p0 == 3)
 (.cond (p0 == 3)
 (.ret (1, ()))
 (.cond (decide (p0 >= 4))
 (.cond (decide (p0 <= 15))
 (.ret (2, ()))
 (.ret (-1, ())))
 (.ret (-1, ()))))
 (.cond (p0 == 13)
 (.ret (1, ()))
 (.cond (decide (p0 >= 4))
 (.cond (decide (p0 <= 15))
 (.ret (2, ()))
 (.ret (-1, ())))
 (.ret (-1, ()))))))
 (.cond (p0 == 2)
 (.ret (0, ()))
 (.cond (p0 == 3)
 (.cond (p0 == 3)
 (.ret (1, ()))
 (.cond (decide (p0 >= 4))
 (.cond (decide (p0 <= 15))
 (.ret (2, ()))
 (.ret (-1, ())))
 (.ret (-1, ()))))
 (.cond (p0 == 13)
 (.ret (1, ()))
 (.cond (decide (p0 >= 4))
 (.cond (decide (p0 <= 15))
 (.ret (2, ()))
 (.ret (-1, ())))
 (.ret (-1, ())))))))
def partsR := fun x => (ZjH x).run
theorem Zl3 : OC Tryz.prog 116 [(false, .ty false (.int .i64))] [.ty false (.int .i64)] partsR := OC.lp ZcP 1024 Tryz.func116 [] (by kernel_rfl) trivial (fun _ => by kernel_rfl)
def cx_partsR : Ctx := ocx cx_cmpStr Zl3
theorem ZmI : EnvFull Tryz.prog cx_partsR := ocn ZcP Zl3
def Zs5 : (Int × Unit) -> Br ((Int × Int) × Unit) := fun (p0, ()) =>
 (.cond (false)
 (.no)
 (.cond (decide (Int.tmod p0 4294967296 < 0))
 (.cond (false)
 (.no)
 (.ret ((IntKind.wrap .i64 (Int.tdiv (IntKind.wrap .i64 (p0 - IntKind.wrap .i64 (Int.tmod p0 4294967296 + 4294967296))) 4294967296), IntKind.wrap .i64 (Int.tmod p0 4294967296 + 4294967296)), ())))
 (.cond (false)
 (.no)
 (.ret ((IntKind.wrap .i64 (Int.tdiv (IntKind.wrap .i64 (p0 - Int.tmod p0 4294967296)) 4294967296), Int.tmod p0 4294967296), ())))))
def halfR := fun x => (Zs5 x).run
theorem ZoW : OC Tryz.prog 143 [(false, .ty false (.int .i64))] [.ty false (.int .i64), .ty false (.int .i64)] halfR := OC.lp ZmI 1024 Tryz.func143 [] (by kernel_rfl) trivial (fun _ => by kernel_rfl)
def cx_halfR : Ctx := ocx cx_partsR ZoW
theorem ZoK : EnvFull Tryz.prog cx_halfR := ocn ZmI ZoW
def Zfl : (Int × (Int × Unit)) -> Br ((Int × (Int × Unit)) ⊕ (Int × (Int × Unit))) := fun (a, b, ()) =>
 (.cond (decide (a >= 4294967296))
 (.ret (.inl (IntKind.wrap .i64 (a - 4294967296), IntKind.wrap .i64 (b + 1), ())))
 (.ret (.inr (a, b, ()))))
def fitsR_w0 := Zag fun x => (Zfl x).run
def Zfa : (Int × (Int × Unit)) -> Br ((Int × (Int × Unit)) ⊕ (Int × Unit)) := fun (a, b, ()) =>
 (.cond (decide (a < 0))
 (.ret (.inl (IntKind.wrap .i64 (a + 4294967296), IntKind.wrap .i64 (b - 1), ())))
 (.ret (.inr (b, ()))))
def fitsR_w1 := Zag fun x => (Zfa x).run
def ZlZ : (Int × (Int × (Bool × Unit))) -> Br (Bool × Unit) := fun (p0, p1, p2, ()) =>
 (.opt (halfR (p0, ())) fun a =>
 (.opt (halfR (p1, ())) fun b =>
 (.cond (p2)
 (.opt (fitsR_w0 (IntKind.wrap .i64 (a.1.2 + IntKind.wrap .i64 (0 - b.1.2)), IntKind.wrap .i64 (a.1.1 + IntKind.wrap .i64 (0 - b.1.1)), ())) fun c =>
 (.opt (fitsR_w1 (c.1, c.2.1, ())) fun d =>
 (.cond (decide (d.1 >= -2147483648))
 (.ret (decide (d.1 <= 2147483647), ()))
 (.ret (false, ())))))
 (.opt (fitsR_w0 (IntKind.wrap .i64 (a.1.2 + b.1.2), IntKind.wrap .i64 (a.1.1 + b.1.1), ())) fun e =>
 (.opt (fitsR_w1 (e.1, e.2.1, ())) fun f =>
 (.cond (decide (f.1 >= -2147483648))
 (.ret (decide (f.1 <= 2147483647), ()))
 (.ret (false, ()))))))))
def fitsR := fun x => (ZlZ x).run
def fitsR_L : List Lp := [
 .mk 7 (shO 52 [] [] [sI 11, sI 12] []) ([exO (.exit 0) 52 [] [] [sI 11, sI 12] []]) Zfl,
 .mk 10 (shO 52 [] [] [sI 11, sI 12] []) ([exO (.exit 2) 52 [] [] [sI 12] []]) Zfa]
theorem Zow : OC Tryz.prog 135 [(false, .ty false (.int .i64)), (false, .ty false (.int .i64)), (false, .ty false .bool)] [.ty false .bool] fitsR := OC.lp ZoK 1024 Tryz.func135 fitsR_L (by kernel_rfl) ⟨fun _ => by kernel_rfl, fun _ => by kernel_rfl, trivial⟩ (fun _ => by kernel_rfl)
def cx_fitsR : Ctx := ocx cx_halfR Zow
theorem Zqs : EnvFull Tryz.prog cx_fitsR := ocn ZoK Zow
def Zlk : (Int × (Int × Unit)) -> Br (Bool × Unit) := fun (p0, p1, ()) =>
 (.cond (p0 == 0)
 (.ret (true, ()))
 (.cond (p1 == 0)
 (.ret (true, ()))
 (.cond (decide (p0 > 0))
 (.cond (decide (p1 > 0))
 (.cond (decide (p1 = 0))
 (.no)
 (.ret (decide (p0 <= IntKind.wrap .i64 (Int.tdiv 9223372036854775807 p1)), ())))
 (.cond (decide (p0 < 0))
 (.cond (decide (p1 < 0))
 (.cond (p1 != -9223372036854775808)
 (.cond (p0 != -9223372036854775808)
 (.cond (decide (IntKind.wrap .i64 (0 - p1) = 0))
 (.no)
 (.cond (decide (IntKind.wrap .i64 (0 - p0) <= IntKind.wrap .i64 (Int.tdiv 9223372036854775807 (IntKind.wrap .i64 (0 - p1)))))
 (.ret (true, ()))
 (.cond (p0 == -1)
 (.cond (p1 != -9223372036854775808)
 (.ret (true, ()))
 (.cond (p1 == -1)
 (.ret (p0 != -9223372036854775808, ()))
 (.ret (false, ()))))
 (.cond (p1 == -1)
 (.ret (p0 != -9223372036854775808, ()))
 (.ret (false, ()))))))
 (.cond (p0 == -1)
 (.cond (p1 != -9223372036854775808)
 (.ret (true, ()))
 (.cond (p1 == -1)
 (.ret (p0 != -9223372036854775808, ()))
 (.ret (false, ()))))
 (.cond (p1 == -1)
 (.ret (p0 != -9223372036854775808, ()))
 (.ret (false, ())))))
 (.cond (p0 == -1)
 (.cond (p1 != -9223372036854775808)
 (.ret (true, ()))
 (.cond (p1 == -1)
 (.ret (p0 != -9223372036854775808, ()))
 (.ret (false, ()))))
 (.cond (p1 == -1)
 (.ret (p0 != -9223372036854775808, ()))
 (.ret (false, ())))))
 (.cond (decide (p0 > 0))
 (.cond (decide (p0 = 0))
 (.no)
 (.ret (decide (p1 >= IntKind.wrap .i64 (Int.tdiv (-9223372036854775808) p0)), ())))
 (.cond (decide (p1 = 0))
 (.no)
 (.ret (decide (p0 >= IntKind.wrap .i64 (Int.tdiv (-9223372036854775808) p1)), ())))))
 (.cond (decide (p0 > 0))
 (.cond (decide (p0 = 0))
 (.no)
 (.ret (decide (p1 >= IntKind.wrap .i64 (Int.tdiv (-9223372036854775808) p0)), ())))
 (.cond (decide (p1 = 0))
 (.no)
 (.ret (decide (p0 >= IntKind.wrap .i64 (Int.tdiv (-9223372036854775808) p1)), ()))))))
 (.cond (decide (p0 < 0))
 (.cond (decide (p1 < 0))
 (.cond (p1 != -9223372036854775808)
 (.cond (p0 != -9223372036854775808)
 (.cond (decide (IntKind.wrap .i64 (0 - p1) = 0))
 (.no)
 (.cond (decide (IntKind.wrap .i64 (0 - p0) <= IntKind.wrap .i64 (Int.tdiv 9223372036854775807 (IntKind.wrap .i64 (0 - p1)))))
 (.ret (true, ()))
 (.cond (p0 == -1)
 (.cond (p1 != -9223372036854775808)
 (.ret (true, ()))
 (.cond (p1 == -1)
 (.ret (p0 != -9223372036854775808, ()))
 (.ret (false, ()))))
 (.cond (p1 == -1)
 (.ret (p0 != -9223372036854775808, ()))
 (.ret (false, ()))))))
 (.cond (p0 == -1)
 (.cond (p1 != -9223372036854775808)
 (.ret (true, ()))
 (.cond (p1 == -1)
 (.ret (p0 != -9223372036854775808, ()))
 (.ret (false, ()))))
 (.cond (p1 == -1)
 (.ret (p0 != -9223372036854775808, ()))
 (.ret (false, ())))))
 (.cond (p0 == -1)
 (.cond (p1 != -9223372036854775808)
 (.ret (true, ()))
 (.cond (p1 == -1)
 (.ret (p0 != -9223372036854775808, ()))
 (.ret (false, ()))))
 (.cond (p1 == -1)
 (.ret (p0 != -9223372036854775808, ()))
 (.ret (false, ())))))
 (.cond (decide (p0 > 0))
 (.cond (decide (p0 = 0))
 (.no)
 (.ret (decide (p1 >= IntKind.wrap .i64 (Int.tdiv (-9223372036854775808) p0)), ())))
 (.cond (decide (p1 = 0))
 (.no)
 (.ret (decide (p0 >= IntKind.wrap .i64 (Int.tdiv (-9223372036854775808) p1)), ())))))
 (.cond (decide (p0 > 0))
 (.cond (decide (p0 = 0))
 (.no)
 (.ret (decide (p1 >= IntKind.wrap .i64 (Int.tdiv (-9223372036854775808) p0)), ())))
 (.cond (decide (p1 = 0))
 (.no)
 (.ret (decide (p0 >= IntKind.wrap .i64 (Int.tdiv (-9223372036854775808) p1)), ()))))))))
def productR := fun x => (Zlk x).run
theorem Zi1 : OC Tryz.prog 136 [(false, .ty false (.int .i64)), (false, .ty false (.int .i64))] [.ty false .bool] productR := OC.lp Zqs 1024 Tryz.func136 [] (by kernel_rfl) trivial (fun _ => by kernel_rfl)
def cx_productR : Ctx := ocx cx_fitsR Zi1
theorem ZiA : EnvFull Tryz.prog cx_productR := ocn Zqs Zi1
def Zf6 : (ByteArray × (Int × (zA2 × ((List ByteArray) × Unit)))) -> Br ((ByteArray × (Int × (zA2 × ((List ByteArray) × Unit)))) ⊕ ((Int × Unit) ⊕ Unit)) := fun (a, b, c, d, ()) =>
 (.cond (decide (b < (d.length : Int)))
 (.cond (decide (b < (c.2.2.2.2.length : Int)))
 (.cond (decide (0 <= b) && decide (b < (d.length : Int)))
 (.cond (bl (List.getD d b.toNat ByteArray.empty) == bl a)
 (.ret (.inr (.inl (b, ()))))
 (.ret (.inl (a, IntKind.wrap .i64 (b + 1), c, d, ()))))
 (.no))
 (.ret (.inr (.inr (())))))
 (.ret (.inr (.inr (())))))
def placeR_w0 := Zag fun x => (Zf6 x).run
def Zpy : (zA2 × (ByteArray × Unit)) -> Br (Int × Unit) := fun (p0, p1, ()) =>
 (.cond (bl p0.1 == bl { data := #[67] })
 (.opt (placeR_w0 (p1, 0, p0, [{ data := #[115] }, { data := #[120] }, { data := #[98] }], ())) fun a =>
 (.sum a (fun b =>
 (.ret (b.1, ()))) (fun c =>
 (.ret (-1, ())))))
 (.opt (placeR_w0 (p1, 0, p0, [{ data := #[120] }, { data := #[115] }], ())) fun d =>
 (.sum d (fun e =>
 (.ret (e.1, ()))) (fun f =>
 (.ret (-1, ()))))))
def placeR := fun x => (Zpy x).run
def placeR_L : List Lp := [
 .mk 5 (shO 32 [(2, .c (.ref 1026 0 0)), (5, .c (.mfull 1724))] [(1026, []), (1724, [])] [.slot 1 false .str, sI 6, .tv 1026 true zA9, .ar 1724 false 9 .str] [5]) ([exO .ret 32 [] [] [sI 4] [], exO (.exit 0) 32 [] [] [] []]) Zf6]
theorem ZmO : OC Tryz.prog 117 [(false, .ty true zA9), (false, .ty false .str)] [.ty false (.int .i64)] placeR := OC.lp ZiA 1024 Tryz.func117 placeR_L (by kernel_rfl) ⟨fun _ => by kernel_rfl, trivial⟩ (fun _ => by kernel_rfl)
def cx_placeR : Ctx := ocx cx_productR ZmO
theorem ZmW : EnvFull Tryz.prog cx_placeR := ocn ZiA ZmO
def Zd1 : (Int × (zA8 × (zA8 × Unit))) -> Br ((zA8 × Bool) × Unit) := fun (p0, p1, p2, ()) =>
 (.cond (p0 == 4)
 (.cond (p1.1 == 1)
 (.opt (fitsR (p1.2.1, p2.2.1, false, ())) fun y6 =>
 (.ret (((1, IntKind.wrap .i64 (p1.2.1 + p2.2.1), ByteArray.empty, false), y6.1), ())))
 (.ret (((1, IntKind.wrap .i64 (p1.2.1 + p2.2.1), ByteArray.empty, false), false), ())))
 (.cond (p0 == 5)
 (.cond (p1.1 == 1)
 (.opt (fitsR (p1.2.1, p2.2.1, true, ())) fun y7 =>
 (.ret (((1, IntKind.wrap .i64 (p1.2.1 - p2.2.1), ByteArray.empty, false), y7.1), ())))
 (.ret (((1, IntKind.wrap .i64 (p1.2.1 - p2.2.1), ByteArray.empty, false), false), ())))
 (.cond (p0 == 6)
 (.cond (p1.1 == 1)
 (.opt (productR (p1.2.1, p2.2.1, ())) fun y8 =>
 (.ret (((1, IntKind.wrap .i64 (p1.2.1 * p2.2.1), ByteArray.empty, false), y8.1), ())))
 (.ret (((1, IntKind.wrap .i64 (p1.2.1 * p2.2.1), ByteArray.empty, false), false), ())))
 (.cond (p0 == 14)
 (.cond p1.2.2.2
 (.ret (((3, 0, ByteArray.empty, p2.2.2.2), p1.1 == 3), ()))
 (.ret (((3, 0, ByteArray.empty, false), p1.1 == 3), ())))
 (.cond (p0 == 15)
 (.cond p1.2.2.2
 (.ret (((3, 0, ByteArray.empty, true), p1.1 == 3), ()))
 (.ret (((3, 0, ByteArray.empty, p2.2.2.2), p1.1 == 3), ())))
 (.cond (p1.1 == 1)
 (.cond (decide (p1.2.1 < p2.2.1))
 (.cond (p0 == 7)
 (.ret (((3, 0, ByteArray.empty, decide (p1.1 = p2.1) && (decide (p1.2.1 = p2.2.1) && (bl p1.2.2.1 == bl p2.2.2.1 && p1.2.2.2 == p2.2.2.2))), true), ()))
 (.cond (p0 == 8)
 (.ret (((3, 0, ByteArray.empty, !(decide (p1.1 = p2.1) && (decide (p1.2.1 = p2.2.1) && (bl p1.2.2.1 == bl p2.2.2.1 && p1.2.2.2 == p2.2.2.2)))), true), ()))
 (.cond (p0 == 9)
 (.ret (((3, 0, ByteArray.empty, true), true), ()))
 (.cond (p0 == 10)
 (.ret (((3, 0, ByteArray.empty, true), true), ()))
 (.cond (p0 == 11)
 (.ret (((3, 0, ByteArray.empty, false), true), ()))
 (.ret (((3, 0, ByteArray.empty, false), true), ())))))))
 (.cond (p1.1 == 2)
 (.cond (Op.bytesLess (bl p1.2.2.1) (bl p2.2.2.1))
 (.cond (p0 == 7)
 (.ret (((3, 0, ByteArray.empty, decide (p1.1 = p2.1) && (decide (p1.2.1 = p2.2.1) && (bl p1.2.2.1 == bl p2.2.2.1 && p1.2.2.2 == p2.2.2.2))), true), ()))
 (.cond (p0 == 8)
 (.ret (((3, 0, ByteArray.empty, !(decide (p1.1 = p2.1) && (decide (p1.2.1 = p2.2.1) && (bl p1.2.2.1 == bl p2.2.2.1 && p1.2.2.2 == p2.2.2.2)))), true), ()))
 (.cond (p0 == 9)
 (.ret (((3, 0, ByteArray.empty, true), true), ()))
 (.cond (p0 == 10)
 (.ret (((3, 0, ByteArray.empty, true), true), ()))
 (.cond (p0 == 11)
 (.ret (((3, 0, ByteArray.empty, false), true), ()))
 (.ret (((3, 0, ByteArray.empty, false), true), ())))))))
 (.cond (p1.1 == 3)
 (.cond (!p1.2.2.2)
 (.cond (p0 == 7)
 (.ret (((3, 0, ByteArray.empty, decide (p1.1 = p2.1) && (decide (p1.2.1 = p2.2.1) && (bl p1.2.2.1 == bl p2.2.2.1 && p1.2.2.2 == p2.2.2.2))), true), ()))
 (.cond (p0 == 8)
 (.ret (((3, 0, ByteArray.empty, !(decide (p1.1 = p2.1) && (decide (p1.2.1 = p2.2.1) && (bl p1.2.2.1 == bl p2.2.2.1 && p1.2.2.2 == p2.2.2.2)))), true), ()))
 (.cond (p0 == 9)
 (.ret (((3, 0, ByteArray.empty, p2.2.2.2), true), ()))
 (.cond (p0 == 10)
 (.cond p2.2.2.2
 (.ret (((3, 0, ByteArray.empty, true), true), ()))
 (.ret (((3, 0, ByteArray.empty, decide (p1.1 = p2.1) && (decide (p1.2.1 = p2.2.1) && (bl p1.2.2.1 == bl p2.2.2.1 && p1.2.2.2 == p2.2.2.2))), true), ())))
 (.cond (p0 == 11)
 (.cond (!p2.2.2.2)
 (.ret (((3, 0, ByteArray.empty, !(decide (p1.1 = p2.1) && (decide (p1.2.1 = p2.2.1) && (bl p1.2.2.1 == bl p2.2.2.1 && p1.2.2.2 == p2.2.2.2)))), true), ()))
 (.ret (((3, 0, ByteArray.empty, false), true), ())))
 (.ret (((3, 0, ByteArray.empty, !p2.2.2.2), true), ())))))))
 (.cond (p0 == 7)
 (.ret (((3, 0, ByteArray.empty, decide (p1.1 = p2.1) && (decide (p1.2.1 = p2.2.1) && (bl p1.2.2.1 == bl p2.2.2.1 && p1.2.2.2 == p2.2.2.2))), true), ()))
 (.cond (p0 == 8)
 (.ret (((3, 0, ByteArray.empty, !(decide (p1.1 = p2.1) && (decide (p1.2.1 = p2.2.1) && (bl p1.2.2.1 == bl p2.2.2.1 && p1.2.2.2 == p2.2.2.2)))), true), ()))
 (.cond (p0 == 9)
 (.ret (((3, 0, ByteArray.empty, false), true), ()))
 (.cond (p0 == 10)
 (.ret (((3, 0, ByteArray.empty, decide (p1.1 = p2.1) && (decide (p1.2.1 = p2.2.1) && (bl p1.2.2.1 == bl p2.2.2.1 && p1.2.2.2 == p2.2.2.2))), true), ()))
 (.cond (p0 == 11)
 (.ret (((3, 0, ByteArray.empty, !(decide (p1.1 = p2.1) && (decide (p1.2.1 = p2.2.1) && (bl p1.2.2.1 == bl p2.2.2.1 && p1.2.2.2 == p2.2.2.2)))), true), ()))
 (.ret (((3, 0, ByteArray.empty, true), true), ()))))))))
 (.cond (p0 == 7)
 (.ret (((3, 0, ByteArray.empty, decide (p1.1 = p2.1) && (decide (p1.2.1 = p2.2.1) && (bl p1.2.2.1 == bl p2.2.2.1 && p1.2.2.2 == p2.2.2.2))), true), ()))
 (.cond (p0 == 8)
 (.ret (((3, 0, ByteArray.empty, !(decide (p1.1 = p2.1) && (decide (p1.2.1 = p2.2.1) && (bl p1.2.2.1 == bl p2.2.2.1 && p1.2.2.2 == p2.2.2.2)))), true), ()))
 (.cond (p0 == 9)
 (.ret (((3, 0, ByteArray.empty, false), true), ()))
 (.cond (p0 == 10)
 (.ret (((3, 0, ByteArray.empty, decide (p1.1 = p2.1) && (decide (p1.2.1 = p2.2.1) && (bl p1.2.2.1 == bl p2.2.2.1 && p1.2.2.2 == p2.2.2.2))), true), ()))
 (.cond (p0 == 11)
 (.ret (((3, 0, ByteArray.empty, !(decide (p1.1 = p2.1) && (decide (p1.2.1 = p2.2.1) && (bl p1.2.2.1 == bl p2.2.2.1 && p1.2.2.2 == p2.2.2.2)))), true), ()))
 (.ret (((3, 0, ByteArray.empty, true), true), ())))))))))
 (.cond (p1.1 == 3)
 (.cond (!p1.2.2.2)
 (.cond (p0 == 7)
 (.ret (((3, 0, ByteArray.empty, decide (p1.1 = p2.1) && (decide (p1.2.1 = p2.2.1) && (bl p1.2.2.1 == bl p2.2.2.1 && p1.2.2.2 == p2.2.2.2))), true), ()))
 (.cond (p0 == 8)
 (.ret (((3, 0, ByteArray.empty, !(decide (p1.1 = p2.1) && (decide (p1.2.1 = p2.2.1) && (bl p1.2.2.1 == bl p2.2.2.1 && p1.2.2.2 == p2.2.2.2)))), true), ()))
 (.cond (p0 == 9)
 (.ret (((3, 0, ByteArray.empty, p2.2.2.2), true), ()))
 (.cond (p0 == 10)
 (.cond p2.2.2.2
 (.ret (((3, 0, ByteArray.empty, true), true), ()))
 (.ret (((3, 0, ByteArray.empty, decide (p1.1 = p2.1) && (decide (p1.2.1 = p2.2.1) && (bl p1.2.2.1 == bl p2.2.2.1 && p1.2.2.2 == p2.2.2.2))), true), ())))
 (.cond (p0 == 11)
 (.cond (!p2.2.2.2)
 (.ret (((3, 0, ByteArray.empty, !(decide (p1.1 = p2.1) && (decide (p1.2.1 = p2.2.1) && (bl p1.2.2.1 == bl p2.2.2.1 && p1.2.2.2 == p2.2.2.2)))), true), ()))
 (.ret (((3, 0, ByteArray.empty, false), true), ())))
 (.ret (((3, 0, ByteArray.empty, !p2.2.2.2), true), ())))))))
 (.cond (p0 == 7)
 (.ret (((3, 0, ByteArray.empty, decide (p1.1 = p2.1) && (decide (p1.2.1 = p2.2.1) && (bl p1.2.2.1 == bl p2.2.2.1 && p1.2.2.2 == p2.2.2.2))), true), ()))
 (.cond (p0 == 8)
 (.ret (((3, 0, ByteArray.empty, !(decide (p1.1 = p2.1) && (decide (p1.2.1 = p2.2.1) && (bl p1.2.2.1 == bl p2.2.2.1 && p1.2.2.2 == p2.2.2.2)))), true), ()))
 (.cond (p0 == 9)
 (.ret (((3, 0, ByteArray.empty, false), true), ()))
 (.cond (p0 == 10)
 (.ret (((3, 0, ByteArray.empty, decide (p1.1 = p2.1) && (decide (p1.2.1 = p2.2.1) && (bl p1.2.2.1 == bl p2.2.2.1 && p1.2.2.2 == p2.2.2.2))), true), ()))
 (.cond (p0 == 11)
 (.ret (((3, 0, ByteArray.empty, !(decide (p1.1 = p2.1) && (decide (p1.2.1 = p2.2.1) && (bl p1.2.2.1 == bl p2.2.2.1 && p1.2.2.2 == p2.2.2.2)))), true), ()))
 (.ret (((3, 0, ByteArray.empty, true), true), ()))))))))
 (.cond (p0 == 7)
 (.ret (((3, 0, ByteArray.empty, decide (p1.1 = p2.1) && (decide (p1.2.1 = p2.2.1) && (bl p1.2.2.1 == bl p2.2.2.1 && p1.2.2.2 == p2.2.2.2))), true), ()))
 (.cond (p0 == 8)
 (.ret (((3, 0, ByteArray.empty, !(decide (p1.1 = p2.1) && (decide (p1.2.1 = p2.2.1) && (bl p1.2.2.1 == bl p2.2.2.1 && p1.2.2.2 == p2.2.2.2)))), true), ()))
 (.cond (p0 == 9)
 (.ret (((3, 0, ByteArray.empty, false), true), ()))
 (.cond (p0 == 10)
 (.ret (((3, 0, ByteArray.empty, decide (p1.1 = p2.1) && (decide (p1.2.1 = p2.2.1) && (bl p1.2.2.1 == bl p2.2.2.1 && p1.2.2.2 == p2.2.2.2))), true), ()))
 (.cond (p0 == 11)
 (.ret (((3, 0, ByteArray.empty, !(decide (p1.1 = p2.1) && (decide (p1.2.1 = p2.2.1) && (bl p1.2.2.1 == bl p2.2.2.1 && p1.2.2.2 == p2.2.2.2)))), true), ()))
 (.ret (((3, 0, ByteArray.empty, true), true), ()))))))))))
 (.cond (p1.1 == 2)
 (.cond (Op.bytesLess (bl p1.2.2.1) (bl p2.2.2.1))
 (.cond (p0 == 7)
 (.ret (((3, 0, ByteArray.empty, decide (p1.1 = p2.1) && (decide (p1.2.1 = p2.2.1) && (bl p1.2.2.1 == bl p2.2.2.1 && p1.2.2.2 == p2.2.2.2))), true), ()))
 (.cond (p0 == 8)
 (.ret (((3, 0, ByteArray.empty, !(decide (p1.1 = p2.1) && (decide (p1.2.1 = p2.2.1) && (bl p1.2.2.1 == bl p2.2.2.1 && p1.2.2.2 == p2.2.2.2)))), true), ()))
 (.cond (p0 == 9)
 (.ret (((3, 0, ByteArray.empty, true), true), ()))
 (.cond (p0 == 10)
 (.ret (((3, 0, ByteArray.empty, true), true), ()))
 (.cond (p0 == 11)
 (.ret (((3, 0, ByteArray.empty, false), true), ()))
 (.ret (((3, 0, ByteArray.empty, false), true), ())))))))
 (.cond (p1.1 == 3)
 (.cond (!p1.2.2.2)
 (.cond (p0 == 7)
 (.ret (((3, 0, ByteArray.empty, decide (p1.1 = p2.1) && (decide (p1.2.1 = p2.2.1) && (bl p1.2.2.1 == bl p2.2.2.1 && p1.2.2.2 == p2.2.2.2))), true), ()))
 (.cond (p0 == 8)
 (.ret (((3, 0, ByteArray.empty, !(decide (p1.1 = p2.1) && (decide (p1.2.1 = p2.2.1) && (bl p1.2.2.1 == bl p2.2.2.1 && p1.2.2.2 == p2.2.2.2)))), true), ()))
 (.cond (p0 == 9)
 (.ret (((3, 0, ByteArray.empty, p2.2.2.2), true), ()))
 (.cond (p0 == 10)
 (.cond p2.2.2.2
 (.ret (((3, 0, ByteArray.empty, true), true), ()))
 (.ret (((3, 0, ByteArray.empty, decide (p1.1 = p2.1) && (decide (p1.2.1 = p2.2.1) && (bl p1.2.2.1 == bl p2.2.2.1 && p1.2.2.2 == p2.2.2.2))), true), ())))
 (.cond (p0 == 11)
 (.cond (!p2.2.2.2)
 (.ret (((3, 0, ByteArray.empty, !(decide (p1.1 = p2.1) && (decide (p1.2.1 = p2.2.1) && (bl p1.2.2.1 == bl p2.2.2.1 && p1.2.2.2 == p2.2.2.2)))), true), ()))
 (.ret (((3, 0, ByteArray.empty, false), true), ())))
 (.ret (((3, 0, ByteArray.empty, !p2.2.2.2), true), ())))))))
 (.cond (p0 == 7)
 (.ret (((3, 0, ByteArray.empty, decide (p1.1 = p2.1) && (decide (p1.2.1 = p2.2.1) && (bl p1.2.2.1 == bl p2.2.2.1 && p1.2.2.2 == p2.2.2.2))), true), ()))
 (.cond (p0 == 8)
 (.ret (((3, 0, ByteArray.empty, !(decide (p1.1 = p2.1) && (decide (p1.2.1 = p2.2.1) && (bl p1.2.2.1 == bl p2.2.2.1 && p1.2.2.2 == p2.2.2.2)))), true), ()))
 (.cond (p0 == 9)
 (.ret (((3, 0, ByteArray.empty, false), true), ()))
 (.cond (p0 == 10)
 (.ret (((3, 0, ByteArray.empty, decide (p1.1 = p2.1) && (decide (p1.2.1 = p2.2.1) && (bl p1.2.2.1 == bl p2.2.2.1 && p1.2.2.2 == p2.2.2.2))), true), ()))
 (.cond (p0 == 11)
 (.ret (((3, 0, ByteArray.empty, !(decide (p1.1 = p2.1) && (decide (p1.2.1 = p2.2.1) && (bl p1.2.2.1 == bl p2.2.2.1 && p1.2.2.2 == p2.2.2.2)))), true), ()))
 (.ret (((3, 0, ByteArray.empty, true), true), ()))))))))
 (.cond (p0 == 7)
 (.ret (((3, 0, ByteArray.empty, decide (p1.1 = p2.1) && (decide (p1.2.1 = p2.2.1) && (bl p1.2.2.1 == bl p2.2.2.1 && p1.2.2.2 == p2.2.2.2))), true), ()))
 (.cond (p0 == 8)
 (.ret (((3, 0, ByteArray.empty, !(decide (p1.1 = p2.1) && (decide (p1.2.1 = p2.2.1) && (bl p1.2.2.1 == bl p2.2.2.1 && p1.2.2.2 == p2.2.2.2)))), true), ()))
 (.cond (p0 == 9)
 (.ret (((3, 0, ByteArray.empty, false), true), ()))
 (.cond (p0 == 10)
 (.ret (((3, 0, ByteArray.empty, decide (p1.1 = p2.1) && (decide (p1.2.1 = p2.2.1) && (bl p1.2.2.1 == bl p2.2.2.1 && p1.2.2.2 == p2.2.2.2))), true), ()))
 (.cond (p0 == 11)
 (.ret (((3, 0, ByteArray.empty, !(decide (p1.1 = p2.1) && (decide (p1.2.1 = p2.2.1) && (bl p1.2.2.1 == bl p2.2.2.1 && p1.2.2.2 == p2.2.2.2)))), true), ()))
 (.ret (((3, 0, ByteArray.empty, true), true), ())))))))))
 (.cond (p1.1 == 3)
 (.cond (!p1.2.2.2)
 (.cond (p0 == 7)
 (.ret (((3, 0, ByteArray.empty, decide (p1.1 = p2.1) && (decide (p1.2.1 = p2.2.1) && (bl p1.2.2.1 == bl p2.2.2.1 && p1.2.2.2 == p2.2.2.2))), true), ()))
 (.cond (p0 == 8)
 (.ret (((3, 0, ByteArray.empty, !(decide (p1.1 = p2.1) && (decide (p1.2.1 = p2.2.1) && (bl p1.2.2.1 == bl p2.2.2.1 && p1.2.2.2 == p2.2.2.2)))), true), ()))
 (.cond (p0 == 9)
 (.ret (((3, 0, ByteArray.empty, p2.2.2.2), true), ()))
 (.cond (p0 == 10)
 (.cond p2.2.2.2
 (.ret (((3, 0, ByteArray.empty, true), true), ()))
 (.ret (((3, 0, ByteArray.empty, decide (p1.1 = p2.1) && (decide (p1.2.1 = p2.2.1) && (bl p1.2.2.1 == bl p2.2.2.1 && p1.2.2.2 == p2.2.2.2))), true), ())))
 (.cond (p0 == 11)
 (.cond (!p2.2.2.2)
 (.ret (((3, 0, ByteArray.empty, !(decide (p1.1 = p2.1) && (decide (p1.2.1 = p2.2.1) && (bl p1.2.2.1 == bl p2.2.2.1 && p1.2.2.2 == p2.2.2.2)))), true), ()))
 (.ret (((3, 0, ByteArray.empty, false), true), ())))
 (.ret (((3, 0, ByteArray.empty, !p2.2.2.2), true), ())))))))
 (.cond (p0 == 7)
 (.ret (((3, 0, ByteArray.empty, decide (p1.1 = p2.1) && (decide (p1.2.1 = p2.2.1) && (bl p1.2.2.1 == bl p2.2.2.1 && p1.2.2.2 == p2.2.2.2))), true), ()))
 (.cond (p0 == 8)
 (.ret (((3, 0, ByteArray.empty, !(decide (p1.1 = p2.1) && (decide (p1.2.1 = p2.2.1) && (bl p1.2.2.1 == bl p2.2.2.1 && p1.2.2.2 == p2.2.2.2)))), true), ()))
 (.cond (p0 == 9)
 (.ret (((3, 0, ByteArray.empty, false), true), ()))
 (.cond (p0 == 10)
 (.ret (((3, 0, ByteArray.empty, decide (p1.1 = p2.1) && (decide (p1.2.1 = p2.2.1) && (bl p1.2.2.1 == bl p2.2.2.1 && p1.2.2.2 == p2.2.2.2))), true), ()))
 (.cond (p0 == 11)
 (.ret (((3, 0, ByteArray.empty, !(decide (p1.1 = p2.1) && (decide (p1.2.1 = p2.2.1) && (bl p1.2.2.1 == bl p2.2.2.1 && p1.2.2.2 == p2.2.2.2)))), true), ()))
 (.ret (((3, 0, ByteArray.empty, true), true), ()))))))))
 (.cond (p0 == 7)
 (.ret (((3, 0, ByteArray.empty, decide (p1.1 = p2.1) && (decide (p1.2.1 = p2.2.1) && (bl p1.2.2.1 == bl p2.2.2.1 && p1.2.2.2 == p2.2.2.2))), true), ()))
 (.cond (p0 == 8)
 (.ret (((3, 0, ByteArray.empty, !(decide (p1.1 = p2.1) && (decide (p1.2.1 = p2.2.1) && (bl p1.2.2.1 == bl p2.2.2.1 && p1.2.2.2 == p2.2.2.2)))), true), ()))
 (.cond (p0 == 9)
 (.ret (((3, 0, ByteArray.empty, false), true), ()))
 (.cond (p0 == 10)
 (.ret (((3, 0, ByteArray.empty, decide (p1.1 = p2.1) && (decide (p1.2.1 = p2.2.1) && (bl p1.2.2.1 == bl p2.2.2.1 && p1.2.2.2 == p2.2.2.2))), true), ()))
 (.cond (p0 == 11)
 (.ret (((3, 0, ByteArray.empty, !(decide (p1.1 = p2.1) && (decide (p1.2.1 = p2.2.1) && (bl p1.2.2.1 == bl p2.2.2.1 && p1.2.2.2 == p2.2.2.2)))), true), ()))
 (.ret (((3, 0, ByteArray.empty, true), true), ())))))))))))))))
def bothR := fun x => (Zd1 x).run
theorem ZpO : OC Tryz.prog 118 [(false, .ty false (.int .i64)), (false, .ty false zA4), (false, .ty false zA4)] [.ty false zA4, .ty false .bool] bothR := OC.lp ZmW 1024 Tryz.func118 [] (by kernel_rfl) trivial (fun _ => by kernel_rfl)
def cx_bothR : Ctx := ocx cx_placeR ZpO
theorem Zoq : EnvFull Tryz.prog cx_bothR := ocn ZmW ZpO
def Zdf : (ZaK × (Int × (Int × (zA8 × (ZaX × Unit))))) -> Br ((ZaK × (Int × (Int × (zA8 × (ZaX × Unit))))) ⊕ ((Bool × (Int × (zA8 × Unit))) ⊕ (Int × (zA8 × Unit)))) := fun (a, b, c, d, e, ()) =>
 (.cond (decide (c < (a.length : Int)))
 (.cond (decide (0 <= c) && decide (c < (a.length : Int)))
 (.cond (bl (a.getD c.toNat zV3).1 == bl e.2.2.1)
 (.cond (decide (0 <= c) && decide (c < (a.length : Int)))
 (.opt (placeR ((a.getD c.toNat zV3).2, e.2.2.2, ())) fun f =>
 (.cond (decide (f.1 < 0))
 (.ret (.inr (.inl (false, b, zV0, ()))))
 (.cond (decide (0 <= c) && decide (c < (a.length : Int)))
 (.cond (decide (0 <= f.1) && decide (f.1 < (↑(List.length (a.getD c.toNat zV3).2.2.2.2.2) : Int)))
 (.ret (.inr (.inl (true, b, List.getD (a.getD c.toNat zV3).2.2.2.2.2 f.1.toNat zV0, ()))))
 (.no))
 (.no))))
 (.no))
 (.ret (.inl (a, b, IntKind.wrap .i64 (c + 1), d, e, ()))))
 (.no))
 (.ret (.inr (.inr (b, d, ())))))
def evalR_w0 := Zag fun x => (Zdf x).run
def ZcB (G_evalR : ((List ZaX) × (ZaK × (Int × Unit))) -> Option ((zA8 × (Bool × Int)) × Unit)) : ((List ZaX) × (ZaK × (Int × Unit))) -> Br ((zA8 × (Bool × Int)) × Unit) := fun (p0, p1, p2, ()) =>
 (.cond (decide (p2 < 0))
 (.ret ((zV0, false, 0), ()))
 (.cond (decide (0 <= p2) && decide (p2 < (p0.length : Int)))
 (.opt (partsR ((p0.getD p2.toNat (0, zV0, ByteArray.empty, ByteArray.empty)).1, ())) fun a =>
 (.cond (a.1 == 0)
 (.cond ((p0.getD p2.toNat (0, zV0, ByteArray.empty, ByteArray.empty)).1 == 1)
 (.ret (((p0.getD p2.toNat (0, zV0, ByteArray.empty, ByteArray.empty)).2.1, true, p2), ()))
 (.opt (evalR_w0 (p1, p2, 0, zV0, p0.getD p2.toNat (0, zV0, ByteArray.empty, ByteArray.empty), ())) fun b =>
 (.sum b (fun c =>
 (.ret ((c.2.2.1, c.1, c.2.1), ()))) (fun d =>
 (.ret ((zV0, false, d.1), ()))))))
 (.cond (a.1 == 1)
 (.opt (G_evalR (p0, p1, IntKind.wrap .i64 (p2 - 1), ())) fun e =>
 (.cond ((p0.getD p2.toNat (0, zV0, ByteArray.empty, ByteArray.empty)).1 == 13)
 (.cond e.1.2.1
 (.ret (((3, 0, ByteArray.empty, !e.1.1.2.2.2), e.1.1.1 == 3, e.1.2.2), ()))
 (.ret (((3, 0, ByteArray.empty, !e.1.1.2.2.2), false, e.1.2.2), ())))
 (.cond e.1.2.1
 (.cond (e.1.1.1 == 1)
 (.ret (((1, IntKind.wrap .i64 (0 - e.1.1.2.1), ByteArray.empty, false), e.1.1.2.1 != -9223372036854775808, e.1.2.2), ()))
 (.ret (((1, IntKind.wrap .i64 (0 - e.1.1.2.1), ByteArray.empty, false), false, e.1.2.2), ())))
 (.ret (((1, IntKind.wrap .i64 (0 - e.1.1.2.1), ByteArray.empty, false), false, e.1.2.2), ())))))
 (.opt (G_evalR (p0, p1, IntKind.wrap .i64 (p2 - 1), ())) fun f =>
 (.opt (G_evalR (p0, p1, IntKind.wrap .i64 (f.1.2.2 - 1), ())) fun g =>
 (.cond (!g.1.2.1)
 (.ret ((zV0, false, g.1.2.2), ()))
 (.cond (!f.1.2.1)
 (.ret ((zV0, false, g.1.2.2), ()))
 (.cond (g.1.1.1 != f.1.1.1)
 (.ret ((zV0, false, g.1.2.2), ()))
 (.opt (bothR ((p0.getD p2.toNat (0, zV0, ByteArray.empty, ByteArray.empty)).1, g.1.1, f.1.1, ())) fun h =>
 (.ret ((h.1.1, h.1.2, g.1.2.2), ())))))))))))
 (.no)))
def evalR (G_evalR : ((List ZaX) × (ZaK × (Int × Unit))) -> Option ((zA8 × (Bool × Int)) × Unit)) : ((List ZaX) × (ZaK × (Int × Unit))) -> Option ((zA8 × (Bool × Int)) × Unit) := fun x => ((ZcB G_evalR) x).run
abbrev ZfK : List (Bool × Pat) := Zew
abbrev Zla : List Pat := [.ty false zA4, .ty false .bool, .ty false (.int .i64)]
abbrev ZsH : Func := Tryz.f85
abbrev Zl0 : Program := Tryz.prog
abbrev Zjx : List Nat := ZdU ZfK
abbrev Zcd : List Nat := kfOf ZfK
def ZlY (G_evalR : ((List ZaX) × (ZaK × (Int × Unit))) -> Option ((zA8 × (Bool × Int)) × Unit)) : Ctx := { (Zba cx_bothR 85 (ZaW Zew [.ty false zA4, .ty false .bool, .ty false (.int .i64)] G_evalR)) with base := 1024 }
theorem ZnA (G_evalR : ((List ZaX) × (ZaK × (Int × Unit))) -> Option ((zA8 × (Bool × Int)) × Unit)) (H_evalR : OC Tryz.prog 85 Zew [.ty false zA4, .ty false .bool, .ty false (.int .i64)] G_evalR) : EnvFull Zl0 (ZlY G_evalR) := Zcv ((Zas Zoq (OC.callOk H_evalR))) 1024
abbrev Zha : List Hole := [.slot 1 true Zce, .slot 2 false (.int .i64), .slot 10 false (.int .i64), .tv 1030 false zA4, .tv 1033 false Zb9]
def Zhk : Skel := ⟨164, [(6, D.c (C.ref 1030 0 0)), (9, D.c (C.ref 1033 0 0))], [(1030, []), (1033, [])]⟩
abbrev Zkt : List Hole := [.slot 7 false .bool, .slot 8 false (.int .i64), .tv 1030 false zA4]
def ZjX : Skel := ⟨164, [(6, D.c (C.ref 1030 0 0))], [(1030, [])]⟩
abbrev Zkj : List Hole := [.slot 2 false (.int .i64), .tv 1030 false zA4]
def ZkS : Skel := ⟨164, [(6, D.c (C.ref 1030 0 0))], [(1030, [])]⟩
def ZjQ : Exit -> Shape
 | .normal => ⟨[(1, .as true Zce), (2, .as false (.int .i64)), (6, .keep), (9, .keep), (10, .as false (.int .i64))], [], [(6, false), (9, false)]⟩
 | .ret => ⟨[(6, .keep), (7, .as false .bool), (8, .as false (.int .i64))], [], [(6, false)]⟩
 | .exit 1 => ⟨[(2, .as false (.int .i64)), (6, .keep)], [], [(6, false)]⟩
 | _ => ⟨[], [], []⟩
def Zn4 : ((Bool × (Int × (zA8 × Unit))) ⊕ (Int × (zA8 × Unit))) -> Exit × St
 | (.inl u) => (.ret, ZjX.fillK Zcd Zkt u)
 | (.inr u) => (.exit 1, ZkS.fillK Zcd Zkj u)
def ZpU : ((Bool × (Int × (zA8 × Unit))) ⊕ (Int × (zA8 × Unit))) -> Br (Exit × St) := fun z => .sum z (fun u => .ret (.ret, ZjX.fillK Zcd Zkt u)) (fun u => .ret (.exit 1, ZkS.fillK Zcd Zkj u))
def evalR_C0 : Code := Zfp 0 (Za8 ZsH)
def ZoU : St -> Br (Exit × St) := Zg7 Zjx Zcd 1024 (ZjQ .normal) (Zhk.parseK Zcd Zha) fun x => .opt (evalR_w0 x) ZpU
def Zh8 : Par := { sh := fun _ => none, k := 0, lo := fun i => bif Nat.beq i 9 then some ZoU else none }
theorem evalR_r0 (G_evalR : ((List ZaX) × (ZaK × (Int × Unit))) -> Option ((zA8 × (Bool × Int)) × Unit)) (a : ZaK) (b : Int) (c : Int) (d : zA8) (e : ZaX) : Zeo Zjx Zcd (ZlY G_evalR) Zh8 ZjQ evalR_C0 (Zhk.fillK Zcd Zha (a, b, c, d, e, ())) = (Zdf (a, b, c, d, e, ())).bind (ZcN (fun x => Zhk.fillK Zcd Zha x) Zn4) := by kernel_rfl
theorem Zu2 (G_evalR : ((List ZaX) × (ZaK × (Int × Unit))) -> Option ((zA8 × (Bool × Int)) × Unit)) (H_evalR : OC Tryz.prog 85 Zew [.ty false zA4, .ty false .bool, .ty false (.int .i64)] G_evalR) (g : Cfg) (hg : ∀ n, Go.PI.look n g.m0 ≠ Option.none -> n ∈ Zjx) : ZaL Zl0 g ZoU evalR_C0 := ZaL.auto (ZnA G_evalR H_evalR) hg Zh8 (ZaB.of (l := []) (by kernel_rfl) .nil) ZjQ (fun x => Zhk.fillK Zcd Zha x) (fun s x h => Skel.parseK_ok s x h) Zdf Zn4 (fun z h => by rcases z with z | z <;> cases h) ZpU (fun z => by rcases z with z | z <;> rfl) (fun (a, b, c, d, e, ()) => (evalR_r0 G_evalR) a b c d e)
theorem evalR_eq (G_evalR : ((List ZaX) × (ZaK × (Int × Unit))) -> Option ((zA8 × (Bool × Int)) × Unit)) (p0 : (List ZaX)) (p1 : ZaK) (p2 : Int) : Zia (ZlY G_evalR) Zh8 ZsH ZfK Zla (p0, p1, p2, ()) = (ZcB G_evalR) (p0, p1, p2, ()) := by kernel_rfl
theorem evalR_oc (G_evalR : ((List ZaX) × (ZaK × (Int × Unit))) -> Option ((zA8 × (Bool × Int)) × Unit)) (H_evalR : OC Tryz.prog 85 Zew [.ty false zA4, .ty false .bool, .ty false (.int .i64)] G_evalR) : OC Zl0 85 ZfK Zla (evalR G_evalR) := OC.of_tree (ZnA G_evalR H_evalR) Tryz.func85 (by kernel_rfl) (by kernel_rfl) (p := Zh8) (fun g hg => ZaB.of (l := [evalR_C0]) (by kernel_rfl) (.cons ((Zu2 G_evalR H_evalR) g hg) (by kernel_rfl) .nil)) (fun (p0, p1, p2, ()) => (evalR_eq G_evalR) p0 p1 p2)
def Zc3 : Nat -> ((List ZaX) × (ZaK × (Int × Unit))) -> Option ((zA8 × (Bool × Int)) × Unit)
 | 0 => fun _ => none
 | k + 1 => evalR (Zc3 k)
theorem ZmT : ∀ k, OC Tryz.prog 85 Zew [.ty false zA4, .ty false .bool, .ty false (.int .i64)] (Zc3 k)
 | 0 => OC.zero Tryz.func85 (by kernel_rfl)
 | k + 1 => evalR_oc _ (ZmT k)
def evalRF : ((List ZaX) × (ZaK × (Int × Unit))) -> Option ((zA8 × (Bool × Int)) × Unit) := fun x => Zc3 ((fun x => x.2.2.1.toNat + 3) x) x
theorem Zuf : OC Tryz.prog 85 Zew [.ty false zA4, .ty false .bool, .ty false (.int .i64)] evalRF := OC.deep ZmT (fun x => x.2.2.1.toNat + 3)
def cx_evalR : Ctx := Zba cx_bothR 85 (ZaW Zew [.ty false zA4, .ty false .bool, .ty false (.int .i64)] evalRF)
theorem en_evalR : EnvFull Tryz.prog cx_evalR := Zas (Zoq) Zuf.callOk
def Zjv : ((List ZaX) × (ZaK × Unit)) -> Br (Bool × Unit) := fun (p0, p1, ()) =>
 (.cond ((p0.length : Int) == 0)
 (.ret (true, ()))
 (.opt (evalRF (p0, p1, IntKind.wrap .i64 ((p0.length : Int) - 1), ())) fun y3 =>
 (.cond y3.1.2.1
 (.cond (y3.1.1.1 == 3)
 (.ret (y3.1.1.2.2.2, ()))
 (.ret (false, ())))
 (.ret (false, ())))))
def holdsR := fun x => (Zjv x).run
abbrev Zlg : List (Bool × Pat) := [(false, .ty true (.sl Zb9)), (false, .ty true Zce)]
abbrev ZiF : List Pat := [.ty false .bool]
theorem ZnH : OC Tryz.prog 52 Zlg ZiF holdsR := OC.lp en_evalR 1024 Tryz.func52 [] (by kernel_rfl) trivial (fun _ => by kernel_rfl)
end
end Go.Proofs.YtkbdofnbagmlfaaGreat
