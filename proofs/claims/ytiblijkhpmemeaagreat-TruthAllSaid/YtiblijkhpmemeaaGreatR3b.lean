/- Contracts of functions. Printed by auto.py. -/
import Derived.Test.YtiblijkhpmemeaaGreatGe
import Derived.Test.YtiblijkhpmemeaaGreatHa
import Derived.Test.YtiblijkhpmemeaaGreatHb
namespace Go.Proofs.YtiblijkhpmemeaaGreat
set_option maxRecDepth 100000
open Go.PI Go
abbrev zIR3b1 : List (Bool × Pat) := [(false, .ty true (.sl zA13)), (false, .ty true zA35), (false, .ty false (.int .i64))]
noncomputable def partsR_B : (Int × Unit) → Br (Int × Unit) := fun (p0, ()) =>
 (.cond (p0 == 1)
 (.cond (p0 == 1)
 (.ret (0, ()))
 (.cond (p0 == 3)
 (.cond (p0 == 3)
 (.ret (1, ()))
 (.cond (decide (p0 ≥ 4))
 (.cond (decide (p0 ≤ 15))
 (.ret (2, ()))
 (.ret (-1, ())))
 (.ret (-1, ()))))
 (.cond (p0 == 13)
 (.ret (1, ()))
 (.cond (decide (p0 ≥ 4))
 (.cond (decide (p0 ≤ 15))
 (.ret (2, ()))
 (.ret (-1, ())))
 (.ret (-1, ()))))))
 (.cond (p0 == 2)
 (.ret (0, ()))
 (.cond (p0 == 3)
 (.cond (p0 == 3)
 (.ret (1, ()))
 (.cond (decide (p0 ≥ 4))
 (.cond (decide (p0 ≤ 15))
 (.ret (2, ()))
 (.ret (-1, ())))
 (.ret (-1, ()))))
 (.cond (p0 == 13)
 (.ret (1, ()))
 (.cond (decide (p0 ≥ 4))
 (.cond (decide (p0 ≤ 15))
 (.ret (2, ()))
 (.ret (-1, ())))
 (.ret (-1, ())))))))
noncomputable def partsR := fun x => (partsR_B x).run
theorem partsR_oc : OC Tryz.prog 101 [(false, .ty false (.int .i64))] [.ty false (.int .i64)] partsR := OC.lp en_cmpStr 1024 Tryz.func101 [] (by kernel_rfl) trivial (fun _ => by kernel_rfl)
noncomputable def cx_partsR : Ctx := ocx cx_cmpStr partsR_oc
theorem en_partsR : EnvFull Tryz.prog cx_partsR := ocn en_cmpStr partsR_oc
noncomputable def halfR_B : (Int × Unit) → Br ((Int × Int) × Unit) := fun (p0, ()) =>
 (.cond (false)
 (.no)
 (.cond (decide (Int.tmod p0 4294967296 < 0))
 (.cond (false)
 (.no)
 (.ret ((IntKind.wrap .i64 (Int.tdiv (IntKind.wrap .i64 (p0 - IntKind.wrap .i64 (Int.tmod p0 4294967296 + 4294967296))) 4294967296), IntKind.wrap .i64 (Int.tmod p0 4294967296 + 4294967296)), ())))
 (.cond (false)
 (.no)
 (.ret ((IntKind.wrap .i64 (Int.tdiv (IntKind.wrap .i64 (p0 - Int.tmod p0 4294967296)) 4294967296), Int.tmod p0 4294967296), ())))))
noncomputable def halfR := fun x => (halfR_B x).run
theorem halfR_oc : OC Tryz.prog 127 [(false, .ty false (.int .i64))] [.ty false (.int .i64), .ty false (.int .i64)] halfR := OC.lp en_partsR 1024 Tryz.func127 [] (by kernel_rfl) trivial (fun _ => by kernel_rfl)
noncomputable def cx_halfR : Ctx := ocx cx_partsR halfR_oc
theorem en_halfR : EnvFull Tryz.prog cx_halfR := ocn en_partsR halfR_oc
noncomputable def fitsR_l0 : (Int × (Int × Unit)) → Br ((Int × (Int × Unit)) ⊕ (Int × (Int × Unit))) := fun (a, b, ()) =>
 (.cond (decide (a ≥ 4294967296))
 (.ret (.inl (IntKind.wrap .i64 (a - 4294967296), IntKind.wrap .i64 (b + 1), ())))
 (.ret (.inr (a, b, ()))))
noncomputable def fitsR_w0 := iterO fun x => (fitsR_l0 x).run
noncomputable def fitsR_l1 : (Int × (Int × Unit)) → Br ((Int × (Int × Unit)) ⊕ (Int × Unit)) := fun (a, b, ()) =>
 (.cond (decide (a < 0))
 (.ret (.inl (IntKind.wrap .i64 (a + 4294967296), IntKind.wrap .i64 (b - 1), ())))
 (.ret (.inr (b, ()))))
noncomputable def fitsR_w1 := iterO fun x => (fitsR_l1 x).run
noncomputable def fitsR_B : (Int × (Int × (Bool × Unit))) → Br (Bool × Unit) := fun (p0, p1, p2, ()) =>
 (.opt (halfR (p0, ())) fun a =>
 (.opt (halfR (p1, ())) fun b =>
 (.cond (p2)
 (.opt (fitsR_w0 (IntKind.wrap .i64 (a.1.2 + IntKind.wrap .i64 (0 - b.1.2)), IntKind.wrap .i64 (a.1.1 + IntKind.wrap .i64 (0 - b.1.1)), ())) fun c =>
 (.opt (fitsR_w1 (c.1, c.2.1, ())) fun d =>
 (.cond (decide (d.1 ≥ -2147483648))
 (.ret (decide (d.1 ≤ 2147483647), ()))
 (.ret (false, ())))))
 (.opt (fitsR_w0 (IntKind.wrap .i64 (a.1.2 + b.1.2), IntKind.wrap .i64 (a.1.1 + b.1.1), ())) fun e =>
 (.opt (fitsR_w1 (e.1, e.2.1, ())) fun f =>
 (.cond (decide (f.1 ≥ -2147483648))
 (.ret (decide (f.1 ≤ 2147483647), ()))
 (.ret (false, ()))))))))
noncomputable def fitsR := fun x => (fitsR_B x).run
noncomputable def fitsR_L : List Lp := [
 .mk 7 (shO 52 [] [] [sI 11, sI 12] []) ([exO (.exit 0) 52 [] [] [sI 11, sI 12] []]) fitsR_l0,
 .mk 10 (shO 52 [] [] [sI 11, sI 12] []) ([exO (.exit 2) 52 [] [] [sI 12] []]) fitsR_l1]
theorem fitsR_oc : OC Tryz.prog 114 [(false, .ty false (.int .i64)), (false, .ty false (.int .i64)), (false, .ty false .bool)] [.ty false .bool] fitsR := OC.lp en_halfR 1024 Tryz.func114 fitsR_L (by kernel_rfl) ⟨fun _ => by kernel_rfl, fun _ => by kernel_rfl, trivial⟩ (fun _ => by kernel_rfl)
noncomputable def cx_fitsR : Ctx := ocx cx_halfR fitsR_oc
theorem en_fitsR : EnvFull Tryz.prog cx_fitsR := ocn en_halfR fitsR_oc
noncomputable def productR_B : (Int × (Int × Unit)) → Br (Bool × Unit) := fun (p0, p1, ()) =>
 (.cond (p0 == 0)
 (.ret (true, ()))
 (.cond (p1 == 0)
 (.ret (true, ()))
 (.cond (decide (p0 > 0))
 (.cond (decide (p1 > 0))
 (.cond (decide (p1 = 0))
 (.no)
 (.ret (decide (p0 ≤ IntKind.wrap .i64 (Int.tdiv 9223372036854775807 p1)), ())))
 (.cond (decide (p0 < 0))
 (.cond (decide (p1 < 0))
 (.cond (p1 != -9223372036854775808)
 (.cond (p0 != -9223372036854775808)
 (.cond (decide (IntKind.wrap .i64 (0 - p1) = 0))
 (.no)
 (.cond (decide (IntKind.wrap .i64 (0 - p0) ≤ IntKind.wrap .i64 (Int.tdiv 9223372036854775807 (IntKind.wrap .i64 (0 - p1)))))
 (.ret (true, ()))
 (.cond (p0 == -1)
 (.cond (p1 != -9223372036854775808)
 (.ret (true, ()))
 (.cond (p1 == -1)
 (.ret (p0 != -9223372036854775808, ()))
 (.ret (false, ()))))
 (.cond (p1 == -1)
 (.ret (p0 != -9223372036854775808, ()))
 (.ret (false, ()))))))
 (.cond (p0 == -1)
 (.cond (p1 != -9223372036854775808)
 (.ret (true, ()))
 (.cond (p1 == -1)
 (.ret (p0 != -9223372036854775808, ()))
 (.ret (false, ()))))
 (.cond (p1 == -1)
 (.ret (p0 != -9223372036854775808, ()))
 (.ret (false, ())))))
 (.cond (p0 == -1)
 (.cond (p1 != -9223372036854775808)
 (.ret (true, ()))
 (.cond (p1 == -1)
 (.ret (p0 != -9223372036854775808, ()))
 (.ret (false, ()))))
 (.cond (p1 == -1)
 (.ret (p0 != -9223372036854775808, ()))
 (.ret (false, ())))))
 (.cond (decide (p0 > 0))
 (.cond (decide (p0 = 0))
 (.no)
 (.ret (decide (p1 ≥ IntKind.wrap .i64 (Int.tdiv (-9223372036854775808) p0)), ())))
 (.cond (decide (p1 = 0))
 (.no)
 (.ret (decide (p0 ≥ IntKind.wrap .i64 (Int.tdiv (-9223372036854775808) p1)), ())))))
 (.cond (decide (p0 > 0))
 (.cond (decide (p0 = 0))
 (.no)
 (.ret (decide (p1 ≥ IntKind.wrap .i64 (Int.tdiv (-9223372036854775808) p0)), ())))
 (.cond (decide (p1 = 0))
 (.no)
 (.ret (decide (p0 ≥ IntKind.wrap .i64 (Int.tdiv (-9223372036854775808) p1)), ()))))))
 (.cond (decide (p0 < 0))
 (.cond (decide (p1 < 0))
 (.cond (p1 != -9223372036854775808)
 (.cond (p0 != -9223372036854775808)
 (.cond (decide (IntKind.wrap .i64 (0 - p1) = 0))
 (.no)
 (.cond (decide (IntKind.wrap .i64 (0 - p0) ≤ IntKind.wrap .i64 (Int.tdiv 9223372036854775807 (IntKind.wrap .i64 (0 - p1)))))
 (.ret (true, ()))
 (.cond (p0 == -1)
 (.cond (p1 != -9223372036854775808)
 (.ret (true, ()))
 (.cond (p1 == -1)
 (.ret (p0 != -9223372036854775808, ()))
 (.ret (false, ()))))
 (.cond (p1 == -1)
 (.ret (p0 != -9223372036854775808, ()))
 (.ret (false, ()))))))
 (.cond (p0 == -1)
 (.cond (p1 != -9223372036854775808)
 (.ret (true, ()))
 (.cond (p1 == -1)
 (.ret (p0 != -9223372036854775808, ()))
 (.ret (false, ()))))
 (.cond (p1 == -1)
 (.ret (p0 != -9223372036854775808, ()))
 (.ret (false, ())))))
 (.cond (p0 == -1)
 (.cond (p1 != -9223372036854775808)
 (.ret (true, ()))
 (.cond (p1 == -1)
 (.ret (p0 != -9223372036854775808, ()))
 (.ret (false, ()))))
 (.cond (p1 == -1)
 (.ret (p0 != -9223372036854775808, ()))
 (.ret (false, ())))))
 (.cond (decide (p0 > 0))
 (.cond (decide (p0 = 0))
 (.no)
 (.ret (decide (p1 ≥ IntKind.wrap .i64 (Int.tdiv (-9223372036854775808) p0)), ())))
 (.cond (decide (p1 = 0))
 (.no)
 (.ret (decide (p0 ≥ IntKind.wrap .i64 (Int.tdiv (-9223372036854775808) p1)), ())))))
 (.cond (decide (p0 > 0))
 (.cond (decide (p0 = 0))
 (.no)
 (.ret (decide (p1 ≥ IntKind.wrap .i64 (Int.tdiv (-9223372036854775808) p0)), ())))
 (.cond (decide (p1 = 0))
 (.no)
 (.ret (decide (p0 ≥ IntKind.wrap .i64 (Int.tdiv (-9223372036854775808) p1)), ()))))))))
noncomputable def productR := fun x => (productR_B x).run
theorem productR_oc : OC Tryz.prog 115 [(false, .ty false (.int .i64)), (false, .ty false (.int .i64))] [.ty false .bool] productR := OC.lp en_fitsR 1024 Tryz.func115 [] (by kernel_rfl) trivial (fun _ => by kernel_rfl)
noncomputable def cx_productR : Ctx := ocx cx_fitsR productR_oc
theorem en_productR : EnvFull Tryz.prog cx_productR := ocn en_fitsR productR_oc
noncomputable def placeR_l0 : (ByteArray × (Int × (zA2 × ((List ByteArray) × Unit)))) → Br ((ByteArray × (Int × (zA2 × ((List ByteArray) × Unit)))) ⊕ ((Int × Unit) ⊕ Unit)) := fun (a, b, c, d, ()) =>
 (.cond (decide (b < (↑(List.length d) : Int)))
 (.cond (decide (b < (↑(List.length c.2.2.2.2) : Int)))
 (.cond (decide (0 ≤ b) && decide (b < (↑(List.length d) : Int)))
 (.cond (bl (List.getD d (Int.toNat b) ByteArray.empty) == bl a)
 (.ret (.inr (.inl (b, ()))))
 (.ret (.inl (a, IntKind.wrap .i64 (b + 1), c, d, ()))))
 (.no))
 (.ret (.inr (.inr (())))))
 (.ret (.inr (.inr (())))))
noncomputable def placeR_w0 := iterO fun x => (placeR_l0 x).run
noncomputable def placeR_B : (zA2 × (ByteArray × Unit)) → Br (Int × Unit) := fun (p0, p1, ()) =>
 (.cond (bl p0.1 == bl { data := #[67] })
 (.opt (placeR_w0 (p1, 0, p0, [{ data := #[115] }, { data := #[120] }, { data := #[98] }], ())) fun a =>
 (.sum a (fun b =>
 (.ret (b.1, ()))) (fun c =>
 (.ret (-1, ())))))
 (.opt (placeR_w0 (p1, 0, p0, [{ data := #[120] }, { data := #[115] }], ())) fun d =>
 (.sum d (fun e =>
 (.ret (e.1, ()))) (fun f =>
 (.ret (-1, ()))))))
noncomputable def placeR := fun x => (placeR_B x).run
noncomputable def placeR_L : List Lp := [
 .mk 5 (shO 32 [(2, .c (.ref 1026 0 0)), (5, .c (.mfull 1724))] [(1026, []), (1724, [])] [.slot 1 false .str, sI 6, .tv 1026 true zA9, .ar 1724 false 9 .str] [5]) ([exO .ret 32 [] [] [sI 4] [], exO (.exit 0) 32 [] [] [] []]) placeR_l0]
theorem placeR_oc : OC Tryz.prog 102 [(false, .ty true zA9), (false, .ty false .str)] [.ty false (.int .i64)] placeR := OC.lp en_productR 1024 Tryz.func102 placeR_L (by kernel_rfl) ⟨fun _ => by kernel_rfl, trivial⟩ (fun _ => by kernel_rfl)
noncomputable def cx_placeR : Ctx := ocx cx_productR placeR_oc
theorem en_placeR : EnvFull Tryz.prog cx_placeR := ocn en_productR placeR_oc
noncomputable def bothR_B : (Int × (zA8 × (zA8 × Unit))) → Br ((zA8 × Bool) × Unit) := fun (p0, p1, p2, ()) =>
 (.cond (p0 == 4)
 (.cond (p1.1 == 1)
 (.opt (fitsR (p1.2.1, p2.2.1, false, ())) fun y6 =>
 (.ret (((1, IntKind.wrap .i64 (p1.2.1 + p2.2.1), ByteArray.empty, false), y6.1), ())))
 (.ret (((1, IntKind.wrap .i64 (p1.2.1 + p2.2.1), ByteArray.empty, false), false), ())))
 (.cond (p0 == 5)
 (.cond (p1.1 == 1)
 (.opt (fitsR (p1.2.1, p2.2.1, true, ())) fun y7 =>
 (.ret (((1, IntKind.wrap .i64 (p1.2.1 - p2.2.1), ByteArray.empty, false), y7.1), ())))
 (.ret (((1, IntKind.wrap .i64 (p1.2.1 - p2.2.1), ByteArray.empty, false), false), ())))
 (.cond (p0 == 6)
 (.cond (p1.1 == 1)
 (.opt (productR (p1.2.1, p2.2.1, ())) fun y8 =>
 (.ret (((1, IntKind.wrap .i64 (p1.2.1 * p2.2.1), ByteArray.empty, false), y8.1), ())))
 (.ret (((1, IntKind.wrap .i64 (p1.2.1 * p2.2.1), ByteArray.empty, false), false), ())))
 (.cond (p0 == 14)
 (.cond p1.2.2.2
 (.ret (((3, 0, ByteArray.empty, p2.2.2.2), p1.1 == 3), ()))
 (.ret (((3, 0, ByteArray.empty, false), p1.1 == 3), ())))
 (.cond (p0 == 15)
 (.cond p1.2.2.2
 (.ret (((3, 0, ByteArray.empty, true), p1.1 == 3), ()))
 (.ret (((3, 0, ByteArray.empty, p2.2.2.2), p1.1 == 3), ())))
 (.cond (p1.1 == 1)
 (.cond (decide (p1.2.1 < p2.2.1))
 (.cond (p0 == 7)
 (.ret (((3, 0, ByteArray.empty, decide (p1.1 = p2.1) && (decide (p1.2.1 = p2.2.1) && (bl p1.2.2.1 == bl p2.2.2.1 && p1.2.2.2 == p2.2.2.2))), true), ()))
 (.cond (p0 == 8)
 (.ret (((3, 0, ByteArray.empty, !(decide (p1.1 = p2.1) && (decide (p1.2.1 = p2.2.1) && (bl p1.2.2.1 == bl p2.2.2.1 && p1.2.2.2 == p2.2.2.2)))), true), ()))
 (.cond (p0 == 9)
 (.ret (((3, 0, ByteArray.empty, true), true), ()))
 (.cond (p0 == 10)
 (.ret (((3, 0, ByteArray.empty, true), true), ()))
 (.cond (p0 == 11)
 (.ret (((3, 0, ByteArray.empty, false), true), ()))
 (.ret (((3, 0, ByteArray.empty, false), true), ())))))))
 (.cond (p1.1 == 2)
 (.cond (Op.bytesLess (bl p1.2.2.1) (bl p2.2.2.1))
 (.cond (p0 == 7)
 (.ret (((3, 0, ByteArray.empty, decide (p1.1 = p2.1) && (decide (p1.2.1 = p2.2.1) && (bl p1.2.2.1 == bl p2.2.2.1 && p1.2.2.2 == p2.2.2.2))), true), ()))
 (.cond (p0 == 8)
 (.ret (((3, 0, ByteArray.empty, !(decide (p1.1 = p2.1) && (decide (p1.2.1 = p2.2.1) && (bl p1.2.2.1 == bl p2.2.2.1 && p1.2.2.2 == p2.2.2.2)))), true), ()))
 (.cond (p0 == 9)
 (.ret (((3, 0, ByteArray.empty, true), true), ()))
 (.cond (p0 == 10)
 (.ret (((3, 0, ByteArray.empty, true), true), ()))
 (.cond (p0 == 11)
 (.ret (((3, 0, ByteArray.empty, false), true), ()))
 (.ret (((3, 0, ByteArray.empty, false), true), ())))))))
 (.cond (p1.1 == 3)
 (.cond (!p1.2.2.2)
 (.cond (p0 == 7)
 (.ret (((3, 0, ByteArray.empty, decide (p1.1 = p2.1) && (decide (p1.2.1 = p2.2.1) && (bl p1.2.2.1 == bl p2.2.2.1 && p1.2.2.2 == p2.2.2.2))), true), ()))
 (.cond (p0 == 8)
 (.ret (((3, 0, ByteArray.empty, !(decide (p1.1 = p2.1) && (decide (p1.2.1 = p2.2.1) && (bl p1.2.2.1 == bl p2.2.2.1 && p1.2.2.2 == p2.2.2.2)))), true), ()))
 (.cond (p0 == 9)
 (.ret (((3, 0, ByteArray.empty, p2.2.2.2), true), ()))
 (.cond (p0 == 10)
 (.cond p2.2.2.2
 (.ret (((3, 0, ByteArray.empty, true), true), ()))
 (.ret (((3, 0, ByteArray.empty, decide (p1.1 = p2.1) && (decide (p1.2.1 = p2.2.1) && (bl p1.2.2.1 == bl p2.2.2.1 && p1.2.2.2 == p2.2.2.2))), true), ())))
 (.cond (p0 == 11)
 (.cond (!p2.2.2.2)
 (.ret (((3, 0, ByteArray.empty, !(decide (p1.1 = p2.1) && (decide (p1.2.1 = p2.2.1) && (bl p1.2.2.1 == bl p2.2.2.1 && p1.2.2.2 == p2.2.2.2)))), true), ()))
 (.ret (((3, 0, ByteArray.empty, false), true), ())))
 (.ret (((3, 0, ByteArray.empty, !p2.2.2.2), true), ())))))))
 (.cond (p0 == 7)
 (.ret (((3, 0, ByteArray.empty, decide (p1.1 = p2.1) && (decide (p1.2.1 = p2.2.1) && (bl p1.2.2.1 == bl p2.2.2.1 && p1.2.2.2 == p2.2.2.2))), true), ()))
 (.cond (p0 == 8)
 (.ret (((3, 0, ByteArray.empty, !(decide (p1.1 = p2.1) && (decide (p1.2.1 = p2.2.1) && (bl p1.2.2.1 == bl p2.2.2.1 && p1.2.2.2 == p2.2.2.2)))), true), ()))
 (.cond (p0 == 9)
 (.ret (((3, 0, ByteArray.empty, false), true), ()))
 (.cond (p0 == 10)
 (.ret (((3, 0, ByteArray.empty, decide (p1.1 = p2.1) && (decide (p1.2.1 = p2.2.1) && (bl p1.2.2.1 == bl p2.2.2.1 && p1.2.2.2 == p2.2.2.2))), true), ()))
 (.cond (p0 == 11)
 (.ret (((3, 0, ByteArray.empty, !(decide (p1.1 = p2.1) && (decide (p1.2.1 = p2.2.1) && (bl p1.2.2.1 == bl p2.2.2.1 && p1.2.2.2 == p2.2.2.2)))), true), ()))
 (.ret (((3, 0, ByteArray.empty, true), true), ()))))))))
 (.cond (p0 == 7)
 (.ret (((3, 0, ByteArray.empty, decide (p1.1 = p2.1) && (decide (p1.2.1 = p2.2.1) && (bl p1.2.2.1 == bl p2.2.2.1 && p1.2.2.2 == p2.2.2.2))), true), ()))
 (.cond (p0 == 8)
 (.ret (((3, 0, ByteArray.empty, !(decide (p1.1 = p2.1) && (decide (p1.2.1 = p2.2.1) && (bl p1.2.2.1 == bl p2.2.2.1 && p1.2.2.2 == p2.2.2.2)))), true), ()))
 (.cond (p0 == 9)
 (.ret (((3, 0, ByteArray.empty, false), true), ()))
 (.cond (p0 == 10)
 (.ret (((3, 0, ByteArray.empty, decide (p1.1 = p2.1) && (decide (p1.2.1 = p2.2.1) && (bl p1.2.2.1 == bl p2.2.2.1 && p1.2.2.2 == p2.2.2.2))), true), ()))
 (.cond (p0 == 11)
 (.ret (((3, 0, ByteArray.empty, !(decide (p1.1 = p2.1) && (decide (p1.2.1 = p2.2.1) && (bl p1.2.2.1 == bl p2.2.2.1 && p1.2.2.2 == p2.2.2.2)))), true), ()))
 (.ret (((3, 0, ByteArray.empty, true), true), ())))))))))
 (.cond (p1.1 == 3)
 (.cond (!p1.2.2.2)
 (.cond (p0 == 7)
 (.ret (((3, 0, ByteArray.empty, decide (p1.1 = p2.1) && (decide (p1.2.1 = p2.2.1) && (bl p1.2.2.1 == bl p2.2.2.1 && p1.2.2.2 == p2.2.2.2))), true), ()))
 (.cond (p0 == 8)
 (.ret (((3, 0, ByteArray.empty, !(decide (p1.1 = p2.1) && (decide (p1.2.1 = p2.2.1) && (bl p1.2.2.1 == bl p2.2.2.1 && p1.2.2.2 == p2.2.2.2)))), true), ()))
 (.cond (p0 == 9)
 (.ret (((3, 0, ByteArray.empty, p2.2.2.2), true), ()))
 (.cond (p0 == 10)
 (.cond p2.2.2.2
 (.ret (((3, 0, ByteArray.empty, true), true), ()))
 (.ret (((3, 0, ByteArray.empty, decide (p1.1 = p2.1) && (decide (p1.2.1 = p2.2.1) && (bl p1.2.2.1 == bl p2.2.2.1 && p1.2.2.2 == p2.2.2.2))), true), ())))
 (.cond (p0 == 11)
 (.cond (!p2.2.2.2)
 (.ret (((3, 0, ByteArray.empty, !(decide (p1.1 = p2.1) && (decide (p1.2.1 = p2.2.1) && (bl p1.2.2.1 == bl p2.2.2.1 && p1.2.2.2 == p2.2.2.2)))), true), ()))
 (.ret (((3, 0, ByteArray.empty, false), true), ())))
 (.ret (((3, 0, ByteArray.empty, !p2.2.2.2), true), ())))))))
 (.cond (p0 == 7)
 (.ret (((3, 0, ByteArray.empty, decide (p1.1 = p2.1) && (decide (p1.2.1 = p2.2.1) && (bl p1.2.2.1 == bl p2.2.2.1 && p1.2.2.2 == p2.2.2.2))), true), ()))
 (.cond (p0 == 8)
 (.ret (((3, 0, ByteArray.empty, !(decide (p1.1 = p2.1) && (decide (p1.2.1 = p2.2.1) && (bl p1.2.2.1 == bl p2.2.2.1 && p1.2.2.2 == p2.2.2.2)))), true), ()))
 (.cond (p0 == 9)
 (.ret (((3, 0, ByteArray.empty, false), true), ()))
 (.cond (p0 == 10)
 (.ret (((3, 0, ByteArray.empty, decide (p1.1 = p2.1) && (decide (p1.2.1 = p2.2.1) && (bl p1.2.2.1 == bl p2.2.2.1 && p1.2.2.2 == p2.2.2.2))), true), ()))
 (.cond (p0 == 11)
 (.ret (((3, 0, ByteArray.empty, !(decide (p1.1 = p2.1) && (decide (p1.2.1 = p2.2.1) && (bl p1.2.2.1 == bl p2.2.2.1 && p1.2.2.2 == p2.2.2.2)))), true), ()))
 (.ret (((3, 0, ByteArray.empty, true), true), ()))))))))
 (.cond (p0 == 7)
 (.ret (((3, 0, ByteArray.empty, decide (p1.1 = p2.1) && (decide (p1.2.1 = p2.2.1) && (bl p1.2.2.1 == bl p2.2.2.1 && p1.2.2.2 == p2.2.2.2))), true), ()))
 (.cond (p0 == 8)
 (.ret (((3, 0, ByteArray.empty, !(decide (p1.1 = p2.1) && (decide (p1.2.1 = p2.2.1) && (bl p1.2.2.1 == bl p2.2.2.1 && p1.2.2.2 == p2.2.2.2)))), true), ()))
 (.cond (p0 == 9)
 (.ret (((3, 0, ByteArray.empty, false), true), ()))
 (.cond (p0 == 10)
 (.ret (((3, 0, ByteArray.empty, decide (p1.1 = p2.1) && (decide (p1.2.1 = p2.2.1) && (bl p1.2.2.1 == bl p2.2.2.1 && p1.2.2.2 == p2.2.2.2))), true), ()))
 (.cond (p0 == 11)
 (.ret (((3, 0, ByteArray.empty, !(decide (p1.1 = p2.1) && (decide (p1.2.1 = p2.2.1) && (bl p1.2.2.1 == bl p2.2.2.1 && p1.2.2.2 == p2.2.2.2)))), true), ()))
 (.ret (((3, 0, ByteArray.empty, true), true), ()))))))))))
 (.cond (p1.1 == 2)
 (.cond (Op.bytesLess (bl p1.2.2.1) (bl p2.2.2.1))
 (.cond (p0 == 7)
 (.ret (((3, 0, ByteArray.empty, decide (p1.1 = p2.1) && (decide (p1.2.1 = p2.2.1) && (bl p1.2.2.1 == bl p2.2.2.1 && p1.2.2.2 == p2.2.2.2))), true), ()))
 (.cond (p0 == 8)
 (.ret (((3, 0, ByteArray.empty, !(decide (p1.1 = p2.1) && (decide (p1.2.1 = p2.2.1) && (bl p1.2.2.1 == bl p2.2.2.1 && p1.2.2.2 == p2.2.2.2)))), true), ()))
 (.cond (p0 == 9)
 (.ret (((3, 0, ByteArray.empty, true), true), ()))
 (.cond (p0 == 10)
 (.ret (((3, 0, ByteArray.empty, true), true), ()))
 (.cond (p0 == 11)
 (.ret (((3, 0, ByteArray.empty, false), true), ()))
 (.ret (((3, 0, ByteArray.empty, false), true), ())))))))
 (.cond (p1.1 == 3)
 (.cond (!p1.2.2.2)
 (.cond (p0 == 7)
 (.ret (((3, 0, ByteArray.empty, decide (p1.1 = p2.1) && (decide (p1.2.1 = p2.2.1) && (bl p1.2.2.1 == bl p2.2.2.1 && p1.2.2.2 == p2.2.2.2))), true), ()))
 (.cond (p0 == 8)
 (.ret (((3, 0, ByteArray.empty, !(decide (p1.1 = p2.1) && (decide (p1.2.1 = p2.2.1) && (bl p1.2.2.1 == bl p2.2.2.1 && p1.2.2.2 == p2.2.2.2)))), true), ()))
 (.cond (p0 == 9)
 (.ret (((3, 0, ByteArray.empty, p2.2.2.2), true), ()))
 (.cond (p0 == 10)
 (.cond p2.2.2.2
 (.ret (((3, 0, ByteArray.empty, true), true), ()))
 (.ret (((3, 0, ByteArray.empty, decide (p1.1 = p2.1) && (decide (p1.2.1 = p2.2.1) && (bl p1.2.2.1 == bl p2.2.2.1 && p1.2.2.2 == p2.2.2.2))), true), ())))
 (.cond (p0 == 11)
 (.cond (!p2.2.2.2)
 (.ret (((3, 0, ByteArray.empty, !(decide (p1.1 = p2.1) && (decide (p1.2.1 = p2.2.1) && (bl p1.2.2.1 == bl p2.2.2.1 && p1.2.2.2 == p2.2.2.2)))), true), ()))
 (.ret (((3, 0, ByteArray.empty, false), true), ())))
 (.ret (((3, 0, ByteArray.empty, !p2.2.2.2), true), ())))))))
 (.cond (p0 == 7)
 (.ret (((3, 0, ByteArray.empty, decide (p1.1 = p2.1) && (decide (p1.2.1 = p2.2.1) && (bl p1.2.2.1 == bl p2.2.2.1 && p1.2.2.2 == p2.2.2.2))), true), ()))
 (.cond (p0 == 8)
 (.ret (((3, 0, ByteArray.empty, !(decide (p1.1 = p2.1) && (decide (p1.2.1 = p2.2.1) && (bl p1.2.2.1 == bl p2.2.2.1 && p1.2.2.2 == p2.2.2.2)))), true), ()))
 (.cond (p0 == 9)
 (.ret (((3, 0, ByteArray.empty, false), true), ()))
 (.cond (p0 == 10)
 (.ret (((3, 0, ByteArray.empty, decide (p1.1 = p2.1) && (decide (p1.2.1 = p2.2.1) && (bl p1.2.2.1 == bl p2.2.2.1 && p1.2.2.2 == p2.2.2.2))), true), ()))
 (.cond (p0 == 11)
 (.ret (((3, 0, ByteArray.empty, !(decide (p1.1 = p2.1) && (decide (p1.2.1 = p2.2.1) && (bl p1.2.2.1 == bl p2.2.2.1 && p1.2.2.2 == p2.2.2.2)))), true), ()))
 (.ret (((3, 0, ByteArray.empty, true), true), ()))))))))
 (.cond (p0 == 7)
 (.ret (((3, 0, ByteArray.empty, decide (p1.1 = p2.1) && (decide (p1.2.1 = p2.2.1) && (bl p1.2.2.1 == bl p2.2.2.1 && p1.2.2.2 == p2.2.2.2))), true), ()))
 (.cond (p0 == 8)
 (.ret (((3, 0, ByteArray.empty, !(decide (p1.1 = p2.1) && (decide (p1.2.1 = p2.2.1) && (bl p1.2.2.1 == bl p2.2.2.1 && p1.2.2.2 == p2.2.2.2)))), true), ()))
 (.cond (p0 == 9)
 (.ret (((3, 0, ByteArray.empty, false), true), ()))
 (.cond (p0 == 10)
 (.ret (((3, 0, ByteArray.empty, decide (p1.1 = p2.1) && (decide (p1.2.1 = p2.2.1) && (bl p1.2.2.1 == bl p2.2.2.1 && p1.2.2.2 == p2.2.2.2))), true), ()))
 (.cond (p0 == 11)
 (.ret (((3, 0, ByteArray.empty, !(decide (p1.1 = p2.1) && (decide (p1.2.1 = p2.2.1) && (bl p1.2.2.1 == bl p2.2.2.1 && p1.2.2.2 == p2.2.2.2)))), true), ()))
 (.ret (((3, 0, ByteArray.empty, true), true), ())))))))))
 (.cond (p1.1 == 3)
 (.cond (!p1.2.2.2)
 (.cond (p0 == 7)
 (.ret (((3, 0, ByteArray.empty, decide (p1.1 = p2.1) && (decide (p1.2.1 = p2.2.1) && (bl p1.2.2.1 == bl p2.2.2.1 && p1.2.2.2 == p2.2.2.2))), true), ()))
 (.cond (p0 == 8)
 (.ret (((3, 0, ByteArray.empty, !(decide (p1.1 = p2.1) && (decide (p1.2.1 = p2.2.1) && (bl p1.2.2.1 == bl p2.2.2.1 && p1.2.2.2 == p2.2.2.2)))), true), ()))
 (.cond (p0 == 9)
 (.ret (((3, 0, ByteArray.empty, p2.2.2.2), true), ()))
 (.cond (p0 == 10)
 (.cond p2.2.2.2
 (.ret (((3, 0, ByteArray.empty, true), true), ()))
 (.ret (((3, 0, ByteArray.empty, decide (p1.1 = p2.1) && (decide (p1.2.1 = p2.2.1) && (bl p1.2.2.1 == bl p2.2.2.1 && p1.2.2.2 == p2.2.2.2))), true), ())))
 (.cond (p0 == 11)
 (.cond (!p2.2.2.2)
 (.ret (((3, 0, ByteArray.empty, !(decide (p1.1 = p2.1) && (decide (p1.2.1 = p2.2.1) && (bl p1.2.2.1 == bl p2.2.2.1 && p1.2.2.2 == p2.2.2.2)))), true), ()))
 (.ret (((3, 0, ByteArray.empty, false), true), ())))
 (.ret (((3, 0, ByteArray.empty, !p2.2.2.2), true), ())))))))
 (.cond (p0 == 7)
 (.ret (((3, 0, ByteArray.empty, decide (p1.1 = p2.1) && (decide (p1.2.1 = p2.2.1) && (bl p1.2.2.1 == bl p2.2.2.1 && p1.2.2.2 == p2.2.2.2))), true), ()))
 (.cond (p0 == 8)
 (.ret (((3, 0, ByteArray.empty, !(decide (p1.1 = p2.1) && (decide (p1.2.1 = p2.2.1) && (bl p1.2.2.1 == bl p2.2.2.1 && p1.2.2.2 == p2.2.2.2)))), true), ()))
 (.cond (p0 == 9)
 (.ret (((3, 0, ByteArray.empty, false), true), ()))
 (.cond (p0 == 10)
 (.ret (((3, 0, ByteArray.empty, decide (p1.1 = p2.1) && (decide (p1.2.1 = p2.2.1) && (bl p1.2.2.1 == bl p2.2.2.1 && p1.2.2.2 == p2.2.2.2))), true), ()))
 (.cond (p0 == 11)
 (.ret (((3, 0, ByteArray.empty, !(decide (p1.1 = p2.1) && (decide (p1.2.1 = p2.2.1) && (bl p1.2.2.1 == bl p2.2.2.1 && p1.2.2.2 == p2.2.2.2)))), true), ()))
 (.ret (((3, 0, ByteArray.empty, true), true), ()))))))))
 (.cond (p0 == 7)
 (.ret (((3, 0, ByteArray.empty, decide (p1.1 = p2.1) && (decide (p1.2.1 = p2.2.1) && (bl p1.2.2.1 == bl p2.2.2.1 && p1.2.2.2 == p2.2.2.2))), true), ()))
 (.cond (p0 == 8)
 (.ret (((3, 0, ByteArray.empty, !(decide (p1.1 = p2.1) && (decide (p1.2.1 = p2.2.1) && (bl p1.2.2.1 == bl p2.2.2.1 && p1.2.2.2 == p2.2.2.2)))), true), ()))
 (.cond (p0 == 9)
 (.ret (((3, 0, ByteArray.empty, false), true), ()))
 (.cond (p0 == 10)
 (.ret (((3, 0, ByteArray.empty, decide (p1.1 = p2.1) && (decide (p1.2.1 = p2.2.1) && (bl p1.2.2.1 == bl p2.2.2.1 && p1.2.2.2 == p2.2.2.2))), true), ()))
 (.cond (p0 == 11)
 (.ret (((3, 0, ByteArray.empty, !(decide (p1.1 = p2.1) && (decide (p1.2.1 = p2.2.1) && (bl p1.2.2.1 == bl p2.2.2.1 && p1.2.2.2 == p2.2.2.2)))), true), ()))
 (.ret (((3, 0, ByteArray.empty, true), true), ())))))))))))))))
noncomputable def bothR := fun x => (bothR_B x).run
theorem bothR_oc : OC Tryz.prog 103 [(false, .ty false (.int .i64)), (false, .ty false zA4), (false, .ty false zA4)] [.ty false zA4, .ty false .bool] bothR := OC.lp en_placeR 1024 Tryz.func103 [] (by kernel_rfl) trivial (fun _ => by kernel_rfl)
noncomputable def cx_bothR : Ctx := ocx cx_placeR bothR_oc
theorem en_bothR : EnvFull Tryz.prog cx_bothR := ocn en_placeR bothR_oc
noncomputable def evalR_l0 : (zA21 × (Int × (Int × (zA8 × (zA12 × Unit))))) → Br ((zA21 × (Int × (Int × (zA8 × (zA12 × Unit))))) ⊕ ((Bool × (Int × (zA8 × Unit))) ⊕ (Int × (zA8 × Unit)))) := fun (a, b, c, d, e, ()) =>
 (.cond (decide (c < (↑(List.length a) : Int)))
 (.cond (decide (0 ≤ c) && decide (c < (↑(List.length a) : Int)))
 (.cond (bl (List.getD a (Int.toNat c) zV3).1 == bl e.2.2.1)
 (.cond (decide (0 ≤ c) && decide (c < (↑(List.length a) : Int)))
 (.opt (placeR ((List.getD a (Int.toNat c) zV3).2, e.2.2.2, ())) fun f =>
 (.cond (decide (f.1 < 0))
 (.ret (.inr (.inl (false, b, zV0, ()))))
 (.cond (decide (0 ≤ c) && decide (c < (↑(List.length a) : Int)))
 (.cond (decide (0 ≤ f.1) && decide (f.1 < (↑(List.length (List.getD a (Int.toNat c) zV3).2.2.2.2.2) : Int)))
 (.ret (.inr (.inl (true, b, List.getD (List.getD a (Int.toNat c) zV3).2.2.2.2.2 (Int.toNat f.1) zV0, ()))))
 (.no))
 (.no))))
 (.no))
 (.ret (.inl (a, b, IntKind.wrap .i64 (c + 1), d, e, ()))))
 (.no))
 (.ret (.inr (.inr (b, d, ())))))
noncomputable def evalR_w0 := iterO fun x => (evalR_l0 x).run
noncomputable def evalR_B (G_evalR : ((List zA12) × (zA21 × (Int × Unit))) → Option ((zA8 × (Bool × Int)) × Unit)) : ((List zA12) × (zA21 × (Int × Unit))) → Br ((zA8 × (Bool × Int)) × Unit) := fun (p0, p1, p2, ()) =>
 (.cond (decide (p2 < 0))
 (.ret ((zV0, false, 0), ()))
 (.cond (decide (0 ≤ p2) && decide (p2 < (↑(List.length p0) : Int)))
 (.opt (partsR ((List.getD p0 (Int.toNat p2) (0, zV0, ByteArray.empty, ByteArray.empty)).1, ())) fun a =>
 (.cond (a.1 == 0)
 (.cond ((List.getD p0 (Int.toNat p2) (0, zV0, ByteArray.empty, ByteArray.empty)).1 == 1)
 (.ret (((List.getD p0 (Int.toNat p2) (0, zV0, ByteArray.empty, ByteArray.empty)).2.1, true, p2), ()))
 (.opt (evalR_w0 (p1, p2, 0, zV0, List.getD p0 (Int.toNat p2) (0, zV0, ByteArray.empty, ByteArray.empty), ())) fun b =>
 (.sum b (fun c =>
 (.ret ((c.2.2.1, c.1, c.2.1), ()))) (fun d =>
 (.ret ((zV0, false, d.1), ()))))))
 (.cond (a.1 == 1)
 (.opt (G_evalR (p0, p1, IntKind.wrap .i64 (p2 - 1), ())) fun e =>
 (.cond ((List.getD p0 (Int.toNat p2) (0, zV0, ByteArray.empty, ByteArray.empty)).1 == 13)
 (.cond e.1.2.1
 (.ret (((3, 0, ByteArray.empty, !e.1.1.2.2.2), e.1.1.1 == 3, e.1.2.2), ()))
 (.ret (((3, 0, ByteArray.empty, !e.1.1.2.2.2), false, e.1.2.2), ())))
 (.cond e.1.2.1
 (.cond (e.1.1.1 == 1)
 (.ret (((1, IntKind.wrap .i64 (0 - e.1.1.2.1), ByteArray.empty, false), e.1.1.2.1 != -9223372036854775808, e.1.2.2), ()))
 (.ret (((1, IntKind.wrap .i64 (0 - e.1.1.2.1), ByteArray.empty, false), false, e.1.2.2), ())))
 (.ret (((1, IntKind.wrap .i64 (0 - e.1.1.2.1), ByteArray.empty, false), false, e.1.2.2), ())))))
 (.opt (G_evalR (p0, p1, IntKind.wrap .i64 (p2 - 1), ())) fun f =>
 (.opt (G_evalR (p0, p1, IntKind.wrap .i64 (f.1.2.2 - 1), ())) fun g =>
 (.cond (!g.1.2.1)
 (.ret ((zV0, false, g.1.2.2), ()))
 (.cond (!f.1.2.1)
 (.ret ((zV0, false, g.1.2.2), ()))
 (.cond (g.1.1.1 != f.1.1.1)
 (.ret ((zV0, false, g.1.2.2), ()))
 (.opt (bothR ((List.getD p0 (Int.toNat p2) (0, zV0, ByteArray.empty, ByteArray.empty)).1, g.1.1, f.1.1, ())) fun h =>
 (.ret ((h.1.1, h.1.2, g.1.2.2), ())))))))))))
 (.no)))
noncomputable def evalR (G_evalR : ((List zA12) × (zA21 × (Int × Unit))) → Option ((zA8 × (Bool × Int)) × Unit)) : ((List zA12) × (zA21 × (Int × Unit))) → Option ((zA8 × (Bool × Int)) × Unit) := fun x => ((evalR_B G_evalR) x).run
abbrev evalR_ins : List (Bool × Pat) := zIR3b1
abbrev evalR_outs : List Pat := [.ty false zA4, .ty false .bool, .ty false (.int .i64)]
noncomputable abbrev evalR_f : Func := Tryz.f89
noncomputable abbrev evalR_P : Program := Tryz.prog
abbrev evalR_kp : List Nat := kpOf evalR_ins
abbrev evalR_kf : List Nat := kfOf evalR_ins
noncomputable def evalR_c (G_evalR : ((List zA12) × (zA21 × (Int × Unit))) → Option ((zA8 × (Bool × Int)) × Unit)) : Ctx := { (addO cx_bothR 89 (ocOrc zIR3b1 [.ty false zA4, .ty false .bool, .ty false (.int .i64)] G_evalR)) with base := 1024 }
theorem evalR_env (G_evalR : ((List zA12) × (zA21 × (Int × Unit))) → Option ((zA8 × (Bool × Int)) × Unit)) (H_evalR : OC Tryz.prog 89 zIR3b1 [.ty false zA4, .ty false .bool, .ty false (.int .i64)] G_evalR) : EnvFull evalR_P (evalR_c G_evalR) := env_base ((env_add en_bothR (OC.callOk H_evalR))) 1024
abbrev evalR_H0 : List Hole := [.slot 1 true zA35, .slot 2 false (.int .i64), .slot 10 false (.int .i64), .tv 1030 false zA4, .tv 1033 false zA13]
def evalR_S0 : Skel := ⟨164, [(6, D.c (C.ref 1030 0 0)), (9, D.c (C.ref 1033 0 0))], [(1030, []), (1033, [])]⟩
abbrev evalR_H0e0 : List Hole := [.slot 7 false .bool, .slot 8 false (.int .i64), .tv 1030 false zA4]
def evalR_S0e0 : Skel := ⟨164, [(6, D.c (C.ref 1030 0 0))], [(1030, [])]⟩
abbrev evalR_H0e1 : List Hole := [.slot 2 false (.int .i64), .tv 1030 false zA4]
def evalR_S0e1 : Skel := ⟨164, [(6, D.c (C.ref 1030 0 0))], [(1030, [])]⟩
def evalR_h0 : Exit → Shape
 | .normal => ⟨[(1, .as true zA35), (2, .as false (.int .i64)), (6, .keep), (9, .keep), (10, .as false (.int .i64))], [], [(6, false), (9, false)]⟩
 | .ret => ⟨[(6, .keep), (7, .as false .bool), (8, .as false (.int .i64))], [], [(6, false)]⟩
 | .exit 1 => ⟨[(2, .as false (.int .i64)), (6, .keep)], [], [(6, false)]⟩
 | _ => ⟨[], [], []⟩
def evalR_e0 : ((Bool × (Int × (zA8 × Unit))) ⊕ (Int × (zA8 × Unit))) → Exit × St
 | (.inl u) => (.ret, evalR_S0e0.fillK evalR_kf evalR_H0e0 u)
 | (.inr u) => (.exit 1, evalR_S0e1.fillK evalR_kf evalR_H0e1 u)
def evalR_t0 : ((Bool × (Int × (zA8 × Unit))) ⊕ (Int × (zA8 × Unit))) → Br (Exit × St) := fun z => .sum z (fun u => .ret (.ret, evalR_S0e0.fillK evalR_kf evalR_H0e0 u)) (fun u => .ret (.exit 1, evalR_S0e1.fillK evalR_kf evalR_H0e1 u))
noncomputable def evalR_C0 : Code := loopAt 0 (bodyOf evalR_f)
noncomputable def evalR_o0 : St → Br (Exit × St) := loopF evalR_kp evalR_kf 1024 (evalR_h0 .normal) (evalR_S0.parseK evalR_kf evalR_H0) fun x => .opt (evalR_w0 x) evalR_t0
noncomputable def evalR_p : Par := { sh := fun _ => none, k := 0, lo := fun i => bif Nat.beq i 9 then some evalR_o0 else none }
theorem evalR_r0 (G_evalR : ((List zA12) × (zA21 × (Int × Unit))) → Option ((zA8 × (Bool × Int)) × Unit)) (a : zA21) (b : Int) (c : Int) (d : zA8) (e : zA12) : roundF evalR_kp evalR_kf (evalR_c G_evalR) evalR_p evalR_h0 evalR_C0 (evalR_S0.fillK evalR_kf evalR_H0 (a, b, c, d, e, ())) = (evalR_l0 (a, b, c, d, e, ())).bind (loopLeaf (fun x => evalR_S0.fillK evalR_kf evalR_H0 x) evalR_e0) := by kernel_rfl
theorem evalR_ok0 (G_evalR : ((List zA12) × (zA21 × (Int × Unit))) → Option ((zA8 × (Bool × Int)) × Unit)) (H_evalR : OC Tryz.prog 89 zIR3b1 [.ty false zA4, .ty false .bool, .ty false (.int .i64)] G_evalR) (g : Cfg) (hg : ∀ n, Go.PI.look n g.m0 ≠ Option.none → n ∈ evalR_kp) : LoopOk evalR_P g evalR_o0 evalR_C0 := LoopOk.auto (evalR_env G_evalR H_evalR) hg evalR_p (LoOk.of (l := []) (by kernel_rfl) .nil) evalR_h0 (fun x => evalR_S0.fillK evalR_kf evalR_H0 x) (fun s x h => Skel.parseK_ok s x h) evalR_l0 evalR_e0 (fun z h => by rcases z with z | z <;> cases h) evalR_t0 (fun z => by rcases z with z | z <;> rfl) (fun (a, b, c, d, e, ()) => (evalR_r0 G_evalR) a b c d e)
theorem evalR_eq (G_evalR : ((List zA12) × (zA21 × (Int × Unit))) → Option ((zA8 × (Bool × Int)) × Unit)) (p0 : (List zA12)) (p1 : zA21) (p2 : Int) : ocRun (evalR_c G_evalR) evalR_p evalR_f evalR_ins evalR_outs (p0, p1, p2, ()) = (evalR_B G_evalR) (p0, p1, p2, ()) := by kernel_rfl
theorem evalR_oc (G_evalR : ((List zA12) × (zA21 × (Int × Unit))) → Option ((zA8 × (Bool × Int)) × Unit)) (H_evalR : OC Tryz.prog 89 zIR3b1 [.ty false zA4, .ty false .bool, .ty false (.int .i64)] G_evalR) : OC evalR_P 89 evalR_ins evalR_outs (evalR G_evalR) := OC.of_tree (evalR_env G_evalR H_evalR) Tryz.func89 (by kernel_rfl) (by kernel_rfl) (p := evalR_p) (fun g hg => LoOk.of (l := [evalR_C0]) (by kernel_rfl) (.cons ((evalR_ok0 G_evalR H_evalR) g hg) (by kernel_rfl) .nil)) (fun (p0, p1, p2, ()) => (evalR_eq G_evalR) p0 p1 p2)
noncomputable def evalR_k : Nat → ((List zA12) × (zA21 × (Int × Unit))) → Option ((zA8 × (Bool × Int)) × Unit)
 | 0 => fun _ => none
 | k + 1 => evalR (evalR_k k)
theorem evalR_kok : ∀ k, OC Tryz.prog 89 zIR3b1 [.ty false zA4, .ty false .bool, .ty false (.int .i64)] (evalR_k k)
 | 0 => OC.zero Tryz.func89 (by kernel_rfl)
 | k + 1 => evalR_oc _ (evalR_kok k)
noncomputable def evalRF : ((List zA12) × (zA21 × (Int × Unit))) → Option ((zA8 × (Bool × Int)) × Unit) := fun x => evalR_k ((fun x => x.2.2.1.toNat + 3) x) x
theorem evalRF_oc : OC Tryz.prog 89 zIR3b1 [.ty false zA4, .ty false .bool, .ty false (.int .i64)] evalRF := OC.deep evalR_kok (fun x => x.2.2.1.toNat + 3)
noncomputable def cx_evalR : Ctx := addO cx_bothR 89 (ocOrc zIR3b1 [.ty false zA4, .ty false .bool, .ty false (.int .i64)] evalRF)
theorem en_evalR : EnvFull Tryz.prog cx_evalR := env_add (en_bothR) evalRF_oc.callOk
noncomputable def holdsR_B : ((List zA12) × (zA21 × Unit)) → Br (Bool × Unit) := fun (p0, p1, ()) =>
 (.cond ((↑(List.length p0) : Int) == 0)
 (.ret (true, ()))
 (.opt (evalRF (p0, p1, IntKind.wrap .i64 ((↑(List.length p0) : Int) - 1), ())) fun y3 =>
 (.cond y3.1.2.1
 (.cond (y3.1.1.1 == 3)
 (.ret (y3.1.1.2.2.2, ()))
 (.ret (false, ())))
 (.ret (false, ())))))
noncomputable def holdsR := fun x => (holdsR_B x).run
abbrev holdsR_ins : List (Bool × Pat) := [(false, .ty true (.sl zA13)), (false, .ty true zA35)]
abbrev holdsR_outs : List Pat := [.ty false .bool]
theorem holdsR_oc : OC Tryz.prog 62 holdsR_ins holdsR_outs holdsR := OC.lp en_evalR 1024 Tryz.func62 [] (by kernel_rfl) trivial (fun _ => by kernel_rfl)
end Go.Proofs.YtiblijkhpmemeaaGreat
