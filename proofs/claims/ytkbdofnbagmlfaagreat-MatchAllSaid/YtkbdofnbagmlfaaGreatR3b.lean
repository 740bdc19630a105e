/- Contracts of functions. Printed by auto.py. -/
import Derived.Test.YtkbdofnbagmlfaaGreatGe
import Derived.Test.YtkbdofnbagmlfaaGreatHa
import Derived.Test.YtkbdofnbagmlfaaGreatHb
namespace Go.Proofs.YtkbdofnbagmlfaaGreat
set_option maxRecDepth 100000
open Go.PI Go
noncomputable section
abbrev Zeq : List (Bool × Pat) := [(false, .ty true (.sl Zca)), (false, .ty true Zb9), (false, .ty false (.int .i64))]
def ZjJ : (Int × Unit) -> Br (Int × Unit) := fun (p0, ()) =>
 (.cond (p0 == 1)
 (.cond (p0 == 1)
 (.ret (0, ()))
 (.cond (p0 == 3)
 (.cond (p0 == 3)
 (.ret (1, ()))
 (.cond (decide (p0 >= 4))
 (.cond (decide (p0 <= 15))
 (.ret (2, ()))
 (.ret (-1, ())))
 (.ret (-1, ()))))
 (.cond (p0 == 13)
 (.ret (1, ()))
 (.cond (decide (p0 >= 4))
 (.cond (decide (p0 <= 15))
 (.ret (2, ()))
 (.ret (-1, ())))
 (.ret (-1, ()))))))
 (.cond (p0 == 2)
 (.ret (0, ()))
 (.cond (p0 == 3)
 (.cond (p0 == 3)
 (.ret (1, ()))
 (.cond (decide (p0 >= 4))
 (.cond (decide (p0 <= 15))
 (.ret (2, ()))
 (.ret (-1, ())))
 (.ret (-1, ()))))
 (.cond (p0 == 13)
 (.ret (1, ()))
 (.cond (decide (p0 >= 4))
 (.cond (decide (p0 <= 15))
 (.ret (2, ()))
 (.ret (-1, ())))
 (.ret (-1, ())))))))
def partsR := fun x => (ZjJ x).run
theorem ZnH : OC Tryz.prog 116 [(false, .ty false (.int .i64))] [.ty false (.int .i64)] partsR := OC.lp ZcI 1024 Tryz.func116 [] (by kernel_rfl) trivial (fun _ => by kernel_rfl)
def cx_partsR : Ctx := ocx cx_cmpStr ZnH
theorem Zmh : EnvFull Tryz.prog cx_partsR := ocn ZcI ZnH
def ZsN : (Int × Unit) -> Br ((Int × Int) × Unit) := fun (p0, ()) =>
 (.cond (false)
 (.no)
 (.cond (decide (Int.tmod p0 4294967296 < 0))
 (.cond (false)
 (.no)
 (.ret ((IntKind.wrap .i64 (Int.tdiv (IntKind.wrap .i64 (p0 - IntKind.wrap .i64 (Int.tmod p0 4294967296 + 4294967296))) 4294967296), IntKind.wrap .i64 (Int.tmod p0 4294967296 + 4294967296)), ())))
 (.cond (false)
 (.no)
 (.ret ((IntKind.wrap .i64 (Int.tdiv (IntKind.wrap .i64 (p0 - Int.tmod p0 4294967296)) 4294967296), Int.tmod p0 4294967296), ())))))
def halfR := fun x => (ZsN x).run
theorem ZqN : OC Tryz.prog 143 [(false, .ty false (.int .i64))] [.ty false (.int .i64), .ty false (.int .i64)] halfR := OC.lp Zmh 1024 Tryz.func143 [] (by kernel_rfl) trivial (fun _ => by kernel_rfl)
def cx_halfR : Ctx := ocx cx_partsR ZqN
theorem ZpA : EnvFull Tryz.prog cx_halfR := ocn Zmh ZqN
def Zfr : (Int × (Int × Unit)) -> Br ((Int × (Int × Unit)) ⊕ (Int × (Int × Unit))) := fun (a, b, ()) =>
 (.cond (decide (a >= 4294967296))
 (.ret (.inl (IntKind.wrap .i64 (a - 4294967296), IntKind.wrap .i64 (b + 1), ())))
 (.ret (.inr (a, b, ()))))
def fitsR_w0 := Zag fun x => (Zfr x).run
def Zfb : (Int × (Int × Unit)) -> Br ((Int × (Int × Unit)) ⊕ (Int × Unit)) := fun (a, b, ()) =>
 (.cond (decide (a < 0))
 (.ret (.inl (IntKind.wrap .i64 (a + 4294967296), IntKind.wrap .i64 (b - 1), ())))
 (.ret (.inr (b, ()))))
def fitsR_w1 := Zag fun x => (Zfb x).run
def ZlI : (Int × (Int × (Bool × Unit))) -> Br (Bool × Unit) := fun (p0, p1, p2, ()) =>
 (.opt (halfR (p0, ())) fun a =>
 (.opt (halfR (p1, ())) fun b =>
 (.cond (p2)
 (.opt (fitsR_w0 (IntKind.wrap .i64 (a.1.2 + IntKind.wrap .i64 (0 - b.1.2)), IntKind.wrap .i64 (a.1.1 + IntKind.wrap .i64 (0 - b.1.1)), ())) fun c =>
 (.opt (fitsR_w1 (c.1, c.2.1, ())) fun d =>
 (.cond (decide (d.1 >= -2147483648))
 (.ret (decide (d.1 <= 2147483647), ()))
 (.ret (false, ())))))
 (.opt (fitsR_w0 (IntKind.wrap .i64 (a.1.2 + b.1.2), IntKind.wrap .i64 (a.1.1 + b.1.1), ())) fun e =>
 (.opt (fitsR_w1 (e.1, e.2.1, ())) fun f =>
 (.cond (decide (f.1 >= -2147483648))
 (.ret (decide (f.1 <= 2147483647), ()))
 (.ret (false, ()))))))))
def fitsR := fun x => (ZlI x).run
def fitsR_L : List Lp := [
 .mk 7 (shO 52 [] [] [sI 11, sI 12] []) ([exO (.exit 0) 52 [] [] [sI 11, sI 12] []]) Zfr,
 .mk 10 (shO 52 [] [] [sI 11, sI 12] []) ([exO (.exit 2) 52 [] [] [sI 12] []]) Zfb]
theorem Zqj : OC Tryz.prog 135 [(false, .ty false (.int .i64)), (false, .ty false (.int .i64)), (false, .ty false .bool)] [.ty false .bool] fitsR := OC.lp ZpA 1024 Tryz.func135 fitsR_L (by kernel_rfl) ⟨fun _ => by kernel_rfl, fun _ => by kernel_rfl, trivial⟩ (fun _ => by kernel_rfl)
def cx_fitsR : Ctx := ocx cx_halfR Zqj
theorem Zn7 : EnvFull Tryz.prog cx_fitsR := ocn ZpA Zqj
def ZkQ : (Int × (Int × Unit)) -> Br (Bool × Unit) := fun (p0, p1, ()) =>
 (.cond (p0 == 0)
 (.ret (true, ()))
 (.cond (p1 == 0)
 (.ret (true, ()))
 (.cond (decide (p0 > 0))
 (.cond (decide (p1 > 0))
 (.cond (decide (p1 = 0))
 (.no)
 (.ret (decide (p0 <= IntKind.wrap .i64 (Int.tdiv 9223372036854775807 p1)), ())))
 (.cond (decide (p0 < 0))
 (.cond (decide (p1 < 0))
 (.cond (p1 != -9223372036854775808)
 (.cond (p0 != -9223372036854775808)
 (.cond (decide (IntKind.wrap .i64 (0 - p1) = 0))
 (.no)
 (.cond (decide (IntKind.wrap .i64 (0 - p0) <= IntKind.wrap .i64 (Int.tdiv 9223372036854775807 (IntKind.wrap .i64 (0 - p1)))))
 (.ret (true, ()))
 (.cond (p0 == -1)
 (.cond (p1 != -9223372036854775808)
 (.ret (true, ()))
 (.cond (p1 == -1)
 (.ret (p0 != -9223372036854775808, ()))
 (.ret (false, ()))))
 (.cond (p1 == -1)
 (.ret (p0 != -9223372036854775808, ()))
 (.ret (false, ()))))))
 (.cond (p0 == -1)
 (.cond (p1 != -9223372036854775808)
 (.ret (true, ()))
 (.cond (p1 == -1)
 (.ret (p0 != -9223372036854775808, ()))
 (.ret (false, ()))))
 (.cond (p1 == -1)
 (.ret (p0 != -9223372036854775808, ()))
 (.ret (false, ())))))
 (.cond (p0 == -1)
 (.cond (p1 != -9223372036854775808)
 (.ret (true, ()))
 (.cond (p1 == -1)
 (.ret (p0 != -9223372036854775808, ()))
 (.ret (false, ()))))
 (.cond (p1 == -1)
 (.ret (p0 != -9223372036854775808, ()))
 (.ret (false, ())))))
 (.cond (decide (p0 > 0))
 (.cond (decide (p0 = 0))
 (.no)
 (.ret (decide (p1 >= IntKind.wrap .i64 (Int.tdiv (-9223372036854775808) p0)), ())))
 (.cond (decide (p1 = 0))
 (.no)
 (.ret (decide (p0 >= IntKind.wrap .i64 (Int.tdiv (-9223372036854775808) p1)), ())))))
 (.cond (decide (p0 > 0))
 (.cond (decide (p0 = 0))
 (.no)
 (.ret (decide (p1 >= IntKind.wrap .i64 (Int.tdiv (-9223372036854775808) p0)), ())))
 (.cond (decide (p1 = 0))
 (.no)
 (.ret (decide (p0 >= IntKind.wrap .i64 (Int.tdiv (-9223372036854775808) p1)), ()))))))
 (.cond (decide (p0 < 0))
 (.cond (decide (p1 < 0))
 (.cond (p1 != -9223372036854775808)
 (.cond (p0 != -9223372036854775808)
 (.cond (decide (IntKind.wrap .i64 (0 - p1) = 0))
 (.no)
 (.cond (decide (IntKind.wrap .i64 (0 - p0) <= IntKind.wrap .i64 (Int.tdiv 9223372036854775807 (IntKind.wrap .i64 (0 - p1)))))
 (.ret (true, ()))
 (.cond (p0 == -1)
 (.cond (p1 != -9223372036854775808)
 (.ret (true, ()))
 (.cond (p1 == -1)
 (.ret (p0 != -9223372036854775808, ()))
 (.ret (false, ()))))
 (.cond (p1 == -1)
 (.ret (p0 != -9223372036854775808, ()))
 (.ret (false, ()))))))
 (.cond (p0 == -1)
 (.cond (p1 != -9223372036854775808)
 (.ret (true, ()))
 (.cond (p1 == -1)
 (.ret (p0 != -9223372036854775808, ()))
 (.ret (false, ()))))
 (.cond (p1 == -1)
 (.ret (p0 != -9223372036854775808, ()))
 (.ret (false, ())))))
 (.cond (p0 == -1)
 (.cond (p1 != -9223372036854775808)
 (.ret (true, ()))
 (.cond (p1 == -1)
 (.ret (p0 != -9223372036854775808, ()))
 (.ret (false, ()))))
 (.cond (p1 == -1)
 (.ret (p0 != -9223372036854775808, ()))
 (.ret (false, ())))))
 (.cond (decide (p0 > 0))
 (.cond (decide (p0 = 0))
 (.no)
 (.ret (decide (p1 >= IntKind.wrap .i64 (Int.tdiv (-9223372036854775808) p0)), ())))
 (.cond (decide (p1 = 0))
 (.no)
 (.ret (decide (p0 >= IntKind.wrap .i64 (Int.tdiv (-9223372036854775808) p1)), ())))))
 (.cond (decide (p0 > 0))
 (.cond (decide (p0 = 0))
 (.no)
 (.ret (decide (p1 >= IntKind.wrap .i64 (Int.tdiv (-9223372036854775808) p0)), ())))
 (.cond (decide (p1 = 0))
 (.no)
 (.ret (decide (p0 >= IntKind.wrap .i64 (Int.tdiv (-9223372036854775808) p1)), ()))))))))
def productR := fun x => (ZkQ x).run
theorem ZiS : OC Tryz.prog 136 [(false, .ty false (.int .i64)), (false, .ty false (.int .i64))] [.ty false .bool] productR := OC.lp Zn7 1024 Tryz.func136 [] (by kernel_rfl) trivial (fun _ => by kernel_rfl)
def cx_productR : Ctx := ocx cx_fitsR ZiS
theorem ZiU : EnvFull Tryz.prog cx_productR := ocn Zn7 ZiS
def ZfV : (ByteArray × (Int × (zA2 × ((List ByteArray) × Unit)))) -> Br ((ByteArray × (Int × (zA2 × ((List ByteArray) × Unit)))) ⊕ ((Int × Unit) ⊕ Unit)) := fun (a, b, c, d, ()) =>
 (.cond (decide (b < (d.length : Int)))
 (.cond (decide (b < (c.2.2.2.2.length : Int)))
 (.cond (decide (0 <= b) && decide (b < (d.length : Int)))
 (.cond (bl (List.getD d b.toNat ByteArray.empty) == bl a)
 (.ret (.inr (.inl (b, ()))))
 (.ret (.inl (a, IntKind.wrap .i64 (b + 1), c, d, ()))))
 (.no))
 (.ret (.inr (.inr (())))))
 (.ret (.inr (.inr (())))))
def placeR_w0 := Zag fun x => (ZfV x).run
def ZoS : (zA2 × (ByteArray × Unit)) -> Br (Int × Unit) := fun (p0, p1, ()) =>
 (.cond (bl p0.1 == bl { data := #[67] })
 (.opt (placeR_w0 (p1, 0, p0, [{ data := #[115] }, { data := #[120] }, { data := #[98] }], ())) fun a =>
 (.sum a (fun b =>
 (.ret (b.1, ()))) (fun c =>
 (.ret (-1, ())))))
 (.opt (placeR_w0 (p1, 0, p0, [{ data := #[120] }, { data := #[115] }], ())) fun d =>
 (.sum d (fun e =>
 (.ret (e.1, ()))) (fun f =>
 (.ret (-1, ()))))))
def placeR := fun x => (ZoS x).run
def placeR_L : List Lp := [
 .mk 5 (shO 32 [(2, .c (.ref 1026 0 0)), (5, .c (.mfull 1724))] [(1026, []), (1724, [])] [.slot 1 false .str, sI 6, .tv 1026 true zA9, .ar 1724 false 9 .str] [5]) ([exO .ret 32 [] [] [sI 4] [], exO (.exit 0) 32 [] [] [] []]) ZfV]
theorem Znp : OC Tryz.prog 117 [(false, .ty true zA9), (false, .ty false .str)] [.ty false (.int .i64)] placeR := OC.lp ZiU 1024 Tryz.func117 placeR_L (by kernel_rfl) ⟨fun _ => by kernel_rfl, trivial⟩ (fun _ => by kernel_rfl)
def cx_placeR : Ctx := ocx cx_productR Znp
theorem ZnE : EnvFull Tryz.prog cx_placeR := ocn ZiU Znp
def Zd1 : (Int × (zA8 × (zA8 × Unit))) -> Br ((zA8 × Bool) × Unit) := fun (p0, p1, p2, ()) =>
 (.cond (p0 == 4)
 (.cond (p1.1 == 1)
 (.opt (fitsR (p1.2.1, p2.2.1, false, ())) fun y6 =>
 (.ret (((1, IntKind.wrap .i64 (p1.2.1 + p2.2.1), ByteArray.empty, false), y6.1), ())))
 (.ret (((1, IntKind.wrap .i64 (p1.2.1 + p2.2.1), ByteArray.empty, false), false), ())))
 (.cond (p0 == 5)
 (.cond (p1.1 == 1)
 (.opt (fitsR (p1.2.1, p2.2.1, true, ())) fun y7 =>
 (.ret (((1, IntKind.wrap .i64 (p1.2.1 - p2.2.1), ByteArray.empty, false), y7.1), ())))
 (.ret (((1, IntKind.wrap .i64 (p1.2.1 - p2.2.1), ByteArray.empty, false), false), ())))
 (.cond (p0 == 6)
 (.cond (p1.1 == 1)
 (.opt (productR (p1.2.1, p2.2.1, ())) fun y8 =>
 (.ret (((1, IntKind.wrap .i64 (p1.2.1 * p2.2.1), ByteArray.empty, false), y8.1), ())))
 (.ret (((1, IntKind.wrap .i64 (p1.2.1 * p2.2.1), ByteArray.empty, false), false), ())))
 (.cond (p0 == 14)
 (.cond p1.2.2.2
 (.ret (((3, 0, ByteArray.empty, p2.2.2.2), p1.1 == 3), ()))
 (.ret (((3, 0, ByteArray.empty, false), p1.1 == 3), ())))
 (.cond (p0 == 15)
 (.cond p1.2.2.2
 (.ret (((3, 0, ByteArray.empty, true), p1.1 == 3), ()))
 (.ret (((3, 0, ByteArray.empty, p2.2.2.2), p1.1 == 3), ())))
 (.cond (p1.1 == 1)
 (.cond (decide (p1.2.1 < p2.2.1))
 (.cond (p0 == 7)
 (.ret (((3, 0, ByteArray.empty, decide (p1.1 = p2.1) && (decide (p1.2.1 = p2.2.1) && (bl p1.2.2.1 == bl p2.2.2.1 && p1.2.2.2 == p2.2.2.2))), true), ()))
 (.cond (p0 == 8)
 (.ret (((3, 0, ByteArray.empty, !(decide (p1.1 = p2.1) && (decide (p1.2.1 = p2.2.1) && (bl p1.2.2.1 == bl p2.2.2.1 && p1.2.2.2 == p2.2.2.2)))), true), ()))
 (.cond (p0 == 9)
 (.ret (((3, 0, ByteArray.empty, true), true), ()))
 (.cond (p0 == 10)
 (.ret (((3, 0, ByteArray.empty, true), true), ()))
 (.cond (p0 == 11)
 (.ret (((3, 0, ByteArray.empty, false), true), ()))
 (.ret (((3, 0, ByteArray.empty, false), true), ())))))))
 (.cond (p1.1 == 2)
 (.cond (Op.bytesLess (bl p1.2.2.1) (bl p2.2.2.1))
 (.cond (p0 == 7)
 (.ret (((3, 0, ByteArray.empty, decide (p1.1 = p2.1) && (decide (p1.2.1 = p2.2.1) && (bl p1.2.2.1 == bl p2.2.2.1 && p1.2.2.2 == p2.2.2.2))), true), ()))
 (.cond (p0 == 8)
 (.ret (((3, 0, ByteArray.empty, !(decide (p1.1 = p2.1) && (decide (p1.2.1 = p2.2.1) && (bl p1.2.2.1 == bl p2.2.2.1 && p1.2.2.2 == p2.2.2.2)))), true), ()))
 (.cond (p0 == 9)
 (.ret (((3, 0, ByteArray.empty, true), true), ()))
 (.cond (p0 == 10)
 (.ret (((3, 0, ByteArray.empty, true), true), ()))
 (.cond (p0 == 11)
 (.ret (((3, 0, ByteArray.empty, false), true), ()))
 (.ret (((3, 0, ByteArray.empty, false), true), ())))))))
 (.cond (p1.1 == 3)
 (.cond (!p1.2.2.2)
 (.cond (p0 == 7)
 (.ret (((3, 0, ByteArray.empty, decide (p1.1 = p2.1) && (decide (p1.2.1 = p2.2.1) && (bl p1.2.2.1 == bl p2.2.2.1 && p1.2.2.2 == p2.2.2.2))), true), ()))
 (.cond (p0 == 8)
 (.ret (((3, 0, ByteArray.empty, !(decide (p1.1 = p2.1) && (decide (p1.2.1 = p2.2.1) && (bl p1.2.2.1 == bl p2.2.2.1 && p1.2.2.2 == p2.2.2.2)))), true), ()))
 (.cond (p0 == 9)
 (.ret (((3, 0, ByteArray.empty, p2.2.2.2), true), ()))
 (.cond (p0 == 10)
 (.cond p2.2.2.2
 (.ret (((3, 0, ByteArray.empty, true), true), ()))
 (.ret (((3, 0, ByteArray.empty, decide (p1.1 = p2.1) && (decide (p1.2.1 = p2.2.1) && (bl p1.2.2.1 == bl p2.2.2.1 && p1.2.2.2 == p2.2.2.2))), true), ())))
 (.cond (p0 == 11)
 (.cond (!p2.2.2.2)
 (.ret (((3, 0, ByteArray.empty, !(decide (p1.1 = p2.1) && (decide (p1.2.1 = p2.2.1) && (bl p1.2.2.1 == bl p2.2.2.1 && p1.2.2.2 == p2.2.2.2)))), true), ()))
 (.ret (((3, 0, ByteArray.empty, false), true), ())))
 (.ret (((3, 0, ByteArray.empty, !p2.2.2.2), true), ())))))))
 (.cond (p0 == 7)
 (.ret (((3, 0, ByteArray.empty, decide (p1.1 = p2.1) && (decide (p1.2.1 = p2.2.1) && (bl p1.2.2.1 == bl p2.2.2.1 && p1.2.2.2 == p2.2.2.2))), true), ()))
 (.cond (p0 == 8)
 (.ret (((3, 0, ByteArray.empty, !(decide (p1.1 = p2.1) && (decide (p1.2.1 = p2.2.1) && (bl p1.2.2.1 == bl p2.2.2.1 && p1.2.2.2 == p2.2.2.2)))), true), ()))
 (.cond (p0 == 9)
 (.ret (((3, 0, ByteArray.empty, false), true), ()))
 (.cond (p0 == 10)
 (.ret (((3, 0, ByteArray.empty, decide (p1.1 = p2.1) && (decide (p1.2.1 = p2.2.1) && (bl p1.2.2.1 == bl p2.2.2.1 && p1.2.2.2 == p2.2.2.2))), true), ()))
 (.cond (p0 == 11)
 (.ret (((3, 0, ByteArray.empty, !(decide (p1.1 = p2.1) && (decide (p1.2.1 = p2.2.1) && (bl p1.2.2.1 == bl p2.2.2.1 && p1.2.2.2 == p2.2.2.2)))), true), ()))
 (.ret (((3, 0, ByteArray.empty, true), true), ()))))))))
 (.cond (p0 == 7)
 (.ret (((3, 0, ByteArray.empty, decide (p1.1 = p2.1) && (decide (p1.2.1 = p2.2.1) && (bl p1.2.2.1 == bl p2.2.2.1 && p1.2.2.2 == p2.2.2.2))), true), ()))
 (.cond (p0 == 8)
 (.ret (((3, 0, ByteArray.empty, !(decide (p1.1 = p2.1) && (decide (p1.2.1 = p2.2.1) && (bl p1.2.2.1 == bl p2.2.2.1 && p1.2.2.2 == p2.2.2.2)))), true), ()))
 (.cond (p0 == 9)
 (.ret (((3, 0, ByteArray.empty, false), true), ()))
 (.cond (p0 == 10)
 (.ret (((3, 0, ByteArray.empty, decide (p1.1 = p2.1) && (decide (p1.2.1 = p2.2.1) && (bl p1.2.2.1 == bl p2.2.2.1 && p1.2.2.2 == p2.2.2.2))), true), ()))
 (.cond (p0 == 11)
 (.ret (((3, 0, ByteArray.empty, !(decide (p1.1 = p2.1) && (decide (p1.2.1 = p2.2.1) && (bl p1.2.2.1 == bl p2.2.2.1 && p1.2.2.2 == p2.2.2.2)))), true), ()))
 (.ret (((3, 0, ByteArray.empty, true), true), ())))))))))
 (.cond (p1.1 == 3)
 (.cond (!p1.2.2.2)
 (.cond (p0 == 7)
 (.ret (((3, 0, ByteArray.empty, decide (p1.1 = p2.1) && (decide (p1.2.1 = p2.2.1) && (bl p1.2.2.1 == bl p2.2.2.1 && p1.2.2.2 == p2.2.2.2))), true), ()))
 (.cond (p0 == 8)
 (.ret (((3, 0, ByteArray.empty, !(decide (p1.1 = p2.1) && (decide (p1.2.1 = p2.2.1) && (bl p1.2.2.1 == bl p2.2.2.1 && p1.2.2.2 == p2.2.2.2)))), true), ()))
 (.cond (p0 == 9)
 (.ret (((3, 0, ByteArray.empty, p2.2.2.2), true), ()))
 (.cond (p0 == 10)
 (.cond p2.2.2.2
 (.ret (((3, 0, ByteArray.empty, true), true), ()))
 (.ret (((3, 0, ByteArray.empty, decide (p1.1 = p2.1) && (decide (p1.2.1 = p2.2.1) && (bl p1.2.2.1 == bl p2.2.2.1 && p1.2.2.2 == p2.2.2.2))), true), ())))
 (.cond (p0 == 11)
 (.cond (!p2.2.2.2)
 (.ret (((3, 0, ByteArray.empty, !(decide (p1.1 = p2.1) && (decide (p1.2.1 = p2.2.1) && (bl p1.2.2.1 == bl p2.2.2.1 && p1.2.2.2 == p2.2.2.2)))), true), ()))
 (.ret (((3, 0, ByteArray.empty, false), true), ())))
 (.ret (((3, 0, ByteArray.empty, !p2.2.2.2), true), ())))))))
 (.cond (p0 == 7)
 (.ret (((3, 0, ByteArray.empty, decide (p1.1 = p2.1) && (decide (p1.2.1 = p2.2.1) && (bl p1.2.2.1 == bl p2.2.2.1 && p1.2.2.2 == p2.2.2.2))), true), ()))
 (.cond (p0 == 8)
 (.ret (((3, 0, ByteArray.empty, !(decide (p1.1 = p2.1) && (decide (p1.2.1 = p2.2.1) && (bl p1.2.2.1 == bl p2.2.2.1 && p1.2.2.2 == p2.2.2.2)))), true), ()))
 (.cond (p0 == 9)
 (.ret (((3, 0, ByteArray.empty, false), true), ()))
 (.cond (p0 == 10)
 (.ret (((3, 0, ByteArray.empty, decide (p1.1 = p2.1) && (decide (p1.2.1 = p2.2.1) && (bl p1.2.2.1 == bl p2.2.2.1 && p1.2.2.2 == p2.2.2.2))), true), ()))
 (.cond (p0 == 11)
 (.ret (((3, 0, ByteArray.empty, !(decide (p1.1 = p2.1) && (decide (p1.2.1 = p2.2.1) && (bl p1.2.2.1 == bl p2.2.2.1 && p1.2.2.2 == p2.2.2.2)))), true), ()))
 (.ret (((3, 0, ByteArray.empty, true), true), ()))))))))
 (.cond (p0 == 7)
 (.ret (((3, 0, ByteArray.empty, decide (p1.1 = p2.1) && (decide (p1.2.1 = p2.2.1) && (bl p1.2.2.1 == bl p2.2.2.1 && p1.2.2.2 == p2.2.2.2))), true), ()))
 (.cond (p0 == 8)
 (.ret (((3, 0, ByteArray.empty, !(decide (p1.1 = p2.1) && (decide (p1.2.1 = p2.2.1) && (bl p1.2.2.1 == bl p2.2.2.1 && p1.2.2.2 == p2.2.2.2)))), true), ()))
 (.cond (p0 == 9)
 (.ret (((3, 0, ByteArray.empty, false), true), ()))
 (.cond (p0 == 10)
 (.ret (((3, 0, ByteArray.empty, decide (p1.1 = p2.1) && (decide (p1.2.1 = p2.2.1) && (bl p1.2.2.1 == bl p2.2.2.1 && p1.2.2.2 == p2.2.2.2))), true), ()))
 (.cond (p0 == 11)
 (.ret (((3, 0, ByteArray.empty, !(decide (p1.1 = p2.1) && (decide (p1.2.1 = p2.2.1) && (bl p1.2.2.1 == bl p2.2.2.1 && p1.2.2.2 == p2.2.2.2)))), true), ()))
 (.ret (((3, 0, ByteArray.empty, true), true), ()))))))))))
 (.cond (p1.1 == 2)
 (.cond (Op.bytesLess (bl p1.2.2.1) (bl p2.2.2.1))
 (.cond (p0 == 7)
 (.ret (((3, 0, ByteArray.empty, decide (p1.1 = p2.1) && (decide (p1.2.1 = p2.2.1) && (bl p1.2.2.1 == bl p2.2.2.1 && p1.2.2.2 == p2.2.2.2))), true), ()))
 (.cond (p0 == 8)
 (.ret (((3, 0, ByteArray.empty, !(decide (p1.1 = p2.1) && (decide (p1.2.1 = p2.2.1) && (bl p1.2.2.1 == bl p2.2.2.1 && p1.2.2.2 == p2.2.2.2)))), true), ()))
 (.cond (p0 == 9)
 (.ret (((3, 0, ByteArray.empty, true), true), ()))
 (.cond (p0 == 10)
 (.ret (((3, 0, ByteArray.empty, true), true), ()))
 (.cond (p0 == 11)
 (.ret (((3, 0, ByteArray.empty, false), true), ()))
 (.ret (((3, 0, ByteArray.empty, false), true), ())))))))
 (.cond (p1.1 == 3)
 (.cond (!p1.2.2.2)
 (.cond (p0 == 7)
 (.ret (((3, 0, ByteArray.empty, decide (p1.1 = p2.1) && (decide (p1.2.1 = p2.2.1) && (bl p1.2.2.1 == bl p2.2.2.1 && p1.2.2.2 == p2.2.2.2))), true), ()))
 (.cond (p0 == 8)
 (.ret (((3, 0, ByteArray.empty, !(decide (p1.1 = p2.1) && (decide (p1.2.1 = p2.2.1) && (bl p1.2.2.1 == bl p2.2.2.1 && p1.2.2.2 == p2.2.2.2)))), true), ()))
 (.cond (p0 == 9)
 (.ret (((3, 0, ByteArray.empty, p2.2.2.2), true), ()))
 (.cond (p0 == 10)
 (.cond p2.2.2.2
 (.ret (((3, 0, ByteArray.empty, true), true), ()))
 (.ret (((3, 0, ByteArray.empty, decide (p1.1 = p2.1) && (decide (p1.2.1 = p2.2.1) && (bl p1.2.2.1 == bl p2.2.2.1 && p1.2.2.2 == p2.2.2.2))), true), ())))
 (.cond (p0 == 11)
 (.cond (!p2.2.2.2)
 (.ret (((3, 0, ByteArray.empty, !(decide (p1.1 = p2.1) && (decide (p1.2.1 = p2.2.1) && (bl p1.2.2.1 == bl p2.2.2.1 && p1.2.2.2 == p2.2.2.2)))), true), ()))
 (.ret (((3, 0, ByteArray.empty, false), true), ())))
 (.ret (((3, 0, ByteArray.empty, !p2.2.2.2), true), ())))))))
 (.cond (p0 == 7)
 (.ret (((3, 0, ByteArray.empty, decide (p1.1 = p2.1) && (decide (p1.2.1 = p2.2.1) && (bl p1.2.2.1 == bl p2.2.2.1 && p1.2.2.2 == p2.2.2.2))), true), ()))
 (.cond (p0 == 8)
 (.ret (((3, 0, ByteArray.empty, !(decide (p1.1 = p2.1) && (decide (p1.2.1 = p2.2.1) && (bl p1.2.2.1 == bl p2.2.2.1 && p1.2.2.2 == p2.2.2.2)))), true), ()))
 (.cond (p0 == 9)
 (.ret (((3, 0, ByteArray.empty, false), true), ()))
 (.cond (p0 == 10)
 (.ret (((3, 0, ByteArray.empty, decide (p1.1 = p2.1) && (decide (p1.2.1 = p2.2.1) && (bl p1.2.2.1 == bl p2.2.2.1 && p1.2.2.2 == p2.2.2.2))), true), ()))
 (.cond (p0 == 11)
 (.ret (((3, 0, ByteArray.empty, !(decide (p1.1 = p2.1) && (decide (p1.2.1 = p2.2.1) && (bl p1.2.2.1 == bl p2.2.2.1 && p1.2.2.2 == p2.2.2.2)))), true), ()))
 (.ret (((3, 0, ByteArray.empty, true), true), ()))))))))
 (.cond (p0 == 7)
 (.ret (((3, 0, ByteArray.empty, decide (p1.1 = p2.1) && (decide (p1.2.1 = p2.2.1) && (bl p1.2.2.1 == bl p2.2.2.1 && p1.2.2.2 == p2.2.2.2))), true), ()))
 (.cond (p0 == 8)
 (.ret (((3, 0, ByteArray.empty, !(decide (p1.1 = p2.1) && (decide (p1.2.1 = p2.2.1) && (bl p1.2.2.1 == bl p2.2.2.1 && p1.2.2.2 == p2.2.2.2)))), true), ()))
 (.cond (p0 == 9)
 (.ret (((3, 0, ByteArray.empty, false), true), ()))
 (.cond (p0 == 10)
 (.ret (((3, 0, ByteArray.empty, decide (p1.1 = p2.1) && (decide (p1.2.1 = p2.2.1) && (bl p1.2.2.1 == bl p2.2.2.1 && p1.2.2.2 == p2.2.2.2))), true), ()))
 (.cond (p0 == 11)
 (.ret (((3, 0, ByteArray.empty, !(decide (p1.1 = p2.1) && (decide (p1.2.1 = p2.2.1) && (bl p1.2.2.1 == bl p2.2.2.1 && p1.2.2.2 == p2.2.2.2)))), true), ()))
 (.ret (((3, 0, ByteArray.empty, true), true), ())))))))))
 (.cond (p1.1 == 3)
 (.cond (!p1.2.2.2)
 (.cond (p0 == 7)
 (.ret (((3, 0, ByteArray.empty, decide (p1.1 = p2.1) && (decide (p1.2.1 = p2.2.1) && (bl p1.2.2.1 == bl p2.2.2.1 && p1.2.2.2 == p2.2.2.2))), true), ()))
 (.cond (p0 == 8)
 (.ret (((3, 0, ByteArray.empty, !(decide (p1.1 = p2.1) && (decide (p1.2.1 = p2.2.1) && (bl p1.2.2.1 == bl p2.2.2.1 && p1.2.2.2 == p2.2.2.2)))), true), ()))
 (.cond (p0 == 9)
 (.ret (((3, 0, ByteArray.empty, p2.2.2.2), true), ()))
 (.cond (p0 == 10)
 (.cond p2.2.2.2
 (.ret (((3, 0, ByteArray.empty, true), true), ()))
 (.ret (((3, 0, ByteArray.empty, decide (p1.1 = p2.1) && (decide (p1.2.1 = p2.2.1) && (bl p1.2.2.1 == bl p2.2.2.1 && p1.2.2.2 == p2.2.2.2))), true), ())))
 (.cond (p0 == 11)
 (.cond (!p2.2.2.2)
 (.ret (((3, 0, ByteArray.empty, !(decide (p1.1 = p2.1) && (decide (p1.2.1 = p2.2.1) && (bl p1.2.2.1 == bl p2.2.2.1 && p1.2.2.2 == p2.2.2.2)))), true), ()))
 (.ret (((3, 0, ByteArray.empty, false), true), ())))
 (.ret (((3, 0, ByteArray.empty, !p2.2.2.2), true), ())))))))
 (.cond (p0 == 7)
 (.ret (((3, 0, ByteArray.empty, decide (p1.1 = p2.1) && (decide (p1.2.1 = p2.2.1) && (bl p1.2.2.1 == bl p2.2.2.1 && p1.2.2.2 == p2.2.2.2))), true), ()))
 (.cond (p0 == 8)
 (.ret (((3, 0, ByteArray.empty, !(decide (p1.1 = p2.1) && (decide (p1.2.1 = p2.2.1) && (bl p1.2.2.1 == bl p2.2.2.1 && p1.2.2.2 == p2.2.2.2)))), true), ()))
 (.cond (p0 == 9)
 (.ret (((3, 0, ByteArray.empty, false), true), ()))
 (.cond (p0 == 10)
 (.ret (((3, 0, ByteArray.empty, decide (p1.1 = p2.1) && (decide (p1.2.1 = p2.2.1) && (bl p1.2.2.1 == bl p2.2.2.1 && p1.2.2.2 == p2.2.2.2))), true), ()))
 (.cond (p0 == 11)
 (.ret (((3, 0, ByteArray.empty, !(decide (p1.1 = p2.1) && (decide (p1.2.1 = p2.2.1) && (bl p1.2.2.1 == bl p2.2.2.1 && p1.2.2.2 == p2.2.2.2)))), true), ()))
 (.ret (((3, 0, ByteArray.empty, true), true), ()))))))))
 (.cond (p0 == 7)
 (.ret (((3, 0, ByteArray.empty, decide (p1.1 = p2.1) && (decide (p1.2.1 = p2.2.1) && (bl p1.2.2.1 == bl p2.2.2.1 && p1.2.2.2 == p2.2.2.2))), true), ()))
 (.cond (p0 == 8)
 (.ret (((3, 0, ByteArray.empty, !(decide (p1.1 = p2.1) && (decide (p1.2.1 = p2.2.1) && (bl p1.2.2.1 == bl p2.2.2.1 && p1.2.2.2 == p2.2.2.2)))), true), ()))
 (.cond (p0 == 9)
 (.ret (((3, 0, ByteArray.empty, false), true), ()))
 (.cond (p0 == 10)
 (.ret (((3, 0, ByteArray.empty, decide (p1.1 = p2.1) && (decide (p1.2.1 = p2.2.1) && (bl p1.2.2.1 == bl p2.2.2.1 && p1.2.2.2 == p2.2.2.2))), true), ()))
 (.cond (p0 == 11)
 (.ret (((3, 0, ByteArray.empty, !(decide (p1.1 = p2.1) && (decide (p1.2.1 = p2.2.1) && (bl p1.2.2.1 == bl p2.2.2.1 && p1.2.2.2 == p2.2.2.2)))), true), ()))
 (.ret (((3, 0, ByteArray.empty, true), true), ())))))))))))))))
def bothR := fun x => (Zd1 x).run
theorem ZoZ : OC Tryz.prog 118 [(false, .ty false (.int .i64)), (false, .ty false zA4), (false, .ty false zA4)] [.ty false zA4, .ty false .bool] bothR := OC.lp ZnE 1024 Tryz.func118 [] (by kernel_rfl) trivial (fun _ => by kernel_rfl)
def cx_bothR : Ctx := ocx cx_placeR ZoZ
theorem ZoE : EnvFull Tryz.prog cx_bothR := ocn ZnE ZoZ
def Zdf : (ZaK × (Int × (Int × (zA8 × (ZaX × Unit))))) -> Br ((ZaK × (Int × (Int × (zA8 × (ZaX × Unit))))) ⊕ ((Bool × (Int × (zA8 × Unit))) ⊕ (Int × (zA8 × Unit)))) := fun (a, b, c, d, e, ()) =>
 (.cond (decide (c < (a.length : Int)))
 (.cond (decide (0 <= c) && decide (c < (a.length : Int)))
 (.cond (bl (a.getD c.toNat zV3).1 == bl e.2.2.1)
 (.cond (decide (0 <= c) && decide (c < (a.length : Int)))
 (.opt (placeR ((a.getD c.toNat zV3).2, e.2.2.2, ())) fun f =>
 (.cond (decide (f.1 < 0))
 (.ret (.inr (.inl (false, b, zV0, ()))))
 (.cond (decide (0 <= c) && decide (c < (a.length : Int)))
 (.cond (decide (0 <= f.1) && decide (f.1 < (↑(List.length (a.getD c.toNat zV3).2.2.2.2.2) : Int)))
 (.ret (.inr (.inl (true, b, List.getD (a.getD c.toNat zV3).2.2.2.2.2 f.1.toNat zV0, ()))))
 (.no))
 (.no))))
 (.no))
 (.ret (.inl (a, b, IntKind.wrap .i64 (c + 1), d, e, ()))))
 (.no))
 (.ret (.inr (.inr (b, d, ())))))
def evalR_w0 := Zag fun x => (Zdf x).run
def ZcC (G_evalR : ((List ZaX) × (ZaK × (Int × Unit))) -> Option ((zA8 × (Bool × Int)) × Unit)) : ((List ZaX) × (ZaK × (Int × Unit))) -> Br ((zA8 × (Bool × Int)) × Unit) := fun (p0, p1, p2, ()) =>
 (.cond (decide (p2 < 0))
 (.ret ((zV0, false, 0), ()))
 (.cond (decide (0 <= p2) && decide (p2 < (p0.length : Int)))
 (.opt (partsR ((p0.getD p2.toNat (0, zV0, ByteArray.empty, ByteArray.empty)).1, ())) fun a =>
 (.cond (a.1 == 0)
 (.cond ((p0.getD p2.toNat (0, zV0, ByteArray.empty, ByteArray.empty)).1 == 1)
 (.ret (((p0.getD p2.toNat (0, zV0, ByteArray.empty, ByteArray.empty)).2.1, true, p2), ()))
 (.opt (evalR_w0 (p1, p2, 0, zV0, p0.getD p2.toNat (0, zV0, ByteArray.empty, ByteArray.empty), ())) fun b =>
 (.sum b (fun c =>
 (.ret ((c.2.2.1, c.1, c.2.1), ()))) (fun d =>
 (.ret ((zV0, false, d.1), ()))))))
 (.cond (a.1 == 1)
 (.opt (G_evalR (p0, p1, IntKind.wrap .i64 (p2 - 1), ())) fun e =>
 (.cond ((p0.getD p2.toNat (0, zV0, ByteArray.empty, ByteArray.empty)).1 == 13)
 (.cond e.1.2.1
 (.ret (((3, 0, ByteArray.empty, !e.1.1.2.2.2), e.1.1.1 == 3, e.1.2.2), ()))
 (.ret (((3, 0, ByteArray.empty, !e.1.1.2.2.2), false, e.1.2.2), ())))
 (.cond e.1.2.1
 (.cond (e.1.1.1 == 1)
 (.ret (((1, IntKind.wrap .i64 (0 - e.1.1.2.1), ByteArray.empty, false), e.1.1.2.1 != -9223372036854775808, e.1.2.2), ()))
 (.ret (((1, IntKind.wrap .i64 (0 - e.1.1.2.1), ByteArray.empty, false), false, e.1.2.2), ())))
 (.ret (((1, IntKind.wrap .i64 (0 - e.1.1.2.1), ByteArray.empty, false), false, e.1.2.2), ())))))
 (.opt (G_evalR (p0, p1, IntKind.wrap .i64 (p2 - 1), ())) fun f =>
 (.opt (G_evalR (p0, p1, IntKind.wrap .i64 (f.1.2.2 - 1), ())) fun g =>
 (.cond (!g.1.2.1)
 (.ret ((zV0, false, g.1.2.2), ()))
 (.cond (!f.1.2.1)
 (.ret ((zV0, false, g.1.2.2), ()))
 (.cond (g.1.1.1 != f.1.1.1)
 (.ret ((zV0, false, g.1.2.2), ()))
 (.opt (bothR ((p0.getD p2.toNat (0, zV0, ByteArray.empty, ByteArray.empty)).1, g.1.1, f.1.1, ())) fun h =>
 (.ret ((h.1.1, h.1.2, g.1.2.2), ())))))))))))
 (.no)))
def evalR (G_evalR : ((List ZaX) × (ZaK × (Int × Unit))) -> Option ((zA8 × (Bool × Int)) × Unit)) : ((List ZaX) × (ZaK × (Int × Unit))) -> Option ((zA8 × (Bool × Int)) × Unit) := fun x => ((ZcC G_evalR) x).run
abbrev ZfE : List (Bool × Pat) := Zeq
abbrev ZjX : List Pat := [.ty false zA4, .ty false .bool, .ty false (.int .i64)]
abbrev Zr3 : Func := Tryz.f85
abbrev ZlM : Program := Tryz.prog
abbrev ZjK : List Nat := ZdN ZfE
abbrev Zb8 : List Nat := kfOf ZfE
def ZlY (G_evalR : ((List ZaX) × (ZaK × (Int × Unit))) -> Option ((zA8 × (Bool × Int)) × Unit)) : Ctx := { (Zba cx_bothR 85 (ZaV Zeq [.ty false zA4, .ty false .bool, .ty false (.int .i64)] G_evalR)) with base := 1024 }
theorem Zl9 (G_evalR : ((List ZaX) × (ZaK × (Int × Unit))) -> Option ((zA8 × (Bool × Int)) × Unit)) (H_evalR : OC Tryz.prog 85 Zeq [.ty false zA4, .ty false .bool, .ty false (.int .i64)] G_evalR) : EnvFull ZlM (ZlY G_evalR) := Zcy ((Zas ZoE (OC.callOk H_evalR))) 1024
abbrev Zhc : List Hole := [.slot 1 true Zb9, .slot 2 false (.int .i64), .slot 10 false (.int .i64), .tv 1030 false zA4, .tv 1033 false Zca]
def ZgF : Skel := ⟨164, [(6, D.c (C.ref 1030 0 0)), (9, D.c (C.ref 1033 0 0))], [(1030, []), (1033, [])]⟩
abbrev ZkS : List Hole := [.slot 7 false .bool, .slot 8 false (.int .i64), .tv 1030 false zA4]
def Zkw : Skel := ⟨164, [(6, D.c (C.ref 1030 0 0))], [(1030, [])]⟩
abbrev Zk3 : List Hole := [.slot 2 false (.int .i64), .tv 1030 false zA4]
def ZjW : Skel := ⟨164, [(6, D.c (C.ref 1030 0 0))], [(1030, [])]⟩
def ZjV : Exit -> Shape
 | .normal => ⟨[(1, .as true Zb9), (2, .as false (.int .i64)), (6, .keep), (9, .keep), (10, .as false (.int .i64))], [], [(6, false), (9, false)]⟩
 | .ret => ⟨[(6, .keep), (7, .as false .bool), (8, .as false (.int .i64))], [], [(6, false)]⟩
 | .exit 1 => ⟨[(2, .as false (.int .i64)), (6, .keep)], [], [(6, false)]⟩
 | _ => ⟨[], [], []⟩
def Zo8 : ((Bool × (Int × (zA8 × Unit))) ⊕ (Int × (zA8 × Unit))) -> Exit × St
 | (.inl u) => (.ret, Zkw.fillK Zb8 ZkS u)
 | (.inr u) => (.exit 1, ZjW.fillK Zb8 Zk3 u)
def Zqh : ((Bool × (Int × (zA8 × Unit))) ⊕ (Int × (zA8 × Unit))) -> Br (Exit × St) := fun z => .sum z (fun u => .ret (.ret, Zkw.fillK Zb8 ZkS u)) (fun u => .ret (.exit 1, ZjW.fillK Zb8 Zk3 u))
def evalR_C0 : Code := Zfm 0 (Za9 Zr3)
def ZoY : St -> Br (Exit × St) := ZgH ZjK Zb8 1024 (ZjV .normal) (ZgF.parseK Zb8 Zhc) fun x => .opt (evalR_w0 x) Zqh
def Zix : Par := { sh := fun _ => none, k := 0, lo := fun i => bif Nat.beq i 9 then some ZoY else none }
theorem evalR_r0 (G_evalR : ((List ZaX) × (ZaK × (Int × Unit))) -> Option ((zA8 × (Bool × Int)) × Unit)) (a : ZaK) (b : Int) (c : Int) (d : zA8) (e : ZaX) : Zek ZjK Zb8 (ZlY G_evalR) Zix ZjV evalR_C0 (ZgF.fillK Zb8 Zhc (a, b, c, d, e, ())) = (Zdf (a, b, c, d, e, ())).bind (ZcJ (fun x => ZgF.fillK Zb8 Zhc x) Zo8) := by kernel_rfl
theorem ZuE (G_evalR : ((List ZaX) × (ZaK × (Int × Unit))) -> Option ((zA8 × (Bool × Int)) × Unit)) (H_evalR : OC Tryz.prog 85 Zeq [.ty false zA4, .ty false .bool, .ty false (.int .i64)] G_evalR) (g : Cfg) (hg : ∀ n, Go.PI.look n g.m0 ≠ Option.none -> n ∈ ZjK) : ZaL ZlM g ZoY evalR_C0 := ZaL.auto (Zl9 G_evalR H_evalR) hg Zix (ZaB.of (l := []) (by kernel_rfl) .nil) ZjV (fun x => ZgF.fillK Zb8 Zhc x) (fun s x h => Skel.parseK_ok s x h) Zdf Zo8 (fun z h => by rcases z with z | z <;> cases h) Zqh (fun z => by rcases z with z | z <;> rfl) (fun (a, b, c, d, e, ()) => (evalR_r0 G_evalR) a b c d e)
theorem evalR_eq (G_evalR : ((List ZaX) × (ZaK × (Int × Unit))) -> Option ((zA8 × (Bool × Int)) × Unit)) (p0 : (List ZaX)) (p1 : ZaK) (p2 : Int) : Zig (ZlY G_evalR) Zix Zr3 ZfE ZjX (p0, p1, p2, ()) = (ZcC G_evalR) (p0, p1, p2, ()) := by kernel_rfl
theorem evalR_oc (G_evalR : ((List ZaX) × (ZaK × (Int × Unit))) -> Option ((zA8 × (Bool × Int)) × Unit)) (H_evalR : OC Tryz.prog 85 Zeq [.ty false zA4, .ty false .bool, .ty false (.int .i64)] G_evalR) : OC ZlM 85 ZfE ZjX (evalR G_evalR) := OC.of_tree (Zl9 G_evalR H_evalR) Tryz.func85 (by kernel_rfl) (by kernel_rfl) (p := Zix) (fun g hg => ZaB.of (l := [evalR_C0]) (by kernel_rfl) (.cons ((ZuE G_evalR H_evalR) g hg) (by kernel_rfl) .nil)) (fun (p0, p1, p2, ()) => (evalR_eq G_evalR) p0 p1 p2)
def ZcW : Nat -> ((List ZaX) × (ZaK × (Int × Unit))) -> Option ((zA8 × (Bool × Int)) × Unit)
 | 0 => fun _ => none
 | k + 1 => evalR (ZcW k)
theorem ZmO : ∀ k, OC Tryz.prog 85 Zeq [.ty false zA4, .ty false .bool, .ty false (.int .i64)] (ZcW k)
 | 0 => OC.zero Tryz.func85 (by kernel_rfl)
 | k + 1 => evalR_oc _ (ZmO k)
def evalRF : ((List ZaX) × (ZaK × (Int × Unit))) -> Option ((zA8 × (Bool × Int)) × Unit) := fun x => ZcW ((fun x => x.2.2.1.toNat + 3) x) x
theorem Zu9 : OC Tryz.prog 85 Zeq [.ty false zA4, .ty false .bool, .ty false (.int .i64)] evalRF := OC.deep ZmO (fun x => x.2.2.1.toNat + 3)
def cx_evalR : Ctx := Zba cx_bothR 85 (ZaV Zeq [.ty false zA4, .ty false .bool, .ty false (.int .i64)] evalRF)
theorem en_evalR : EnvFull Tryz.prog cx_evalR := Zas (ZoE) Zu9.callOk
def Zjx : ((List ZaX) × (ZaK × Unit)) -> Br (Bool × Unit) := fun (p0, p1, ()) =>
 (.cond ((p0.length : Int) == 0)
 (.ret (true, ()))
 (.opt (evalRF (p0, p1, IntKind.wrap .i64 ((p0.length : Int) - 1), ())) fun y3 =>
 (.cond y3.1.2.1
 (.cond (y3.1.1.1 == 3)
 (.ret (y3.1.1.2.2.2, ()))
 (.ret (false, ())))
 (.ret (false, ())))))
def holdsR := fun x => (Zjx x).run
abbrev ZkE : List (Bool × Pat) := [(false, .ty true (.sl Zca)), (false, .ty true Zb9)]
abbrev Zi0 : List Pat := [.ty false .bool]
theorem ZnN : OC Tryz.prog 52 ZkE Zi0 holdsR := OC.lp en_evalR 1024 Tryz.func52 [] (by kernel_rfl) trivial (fun _ => by kernel_rfl)
end
end Go.Proofs.YtkbdofnbagmlfaaGreat
