/- Contracts of functions. Printed by auto.py. -/
import Derived.Test.YtkbdofnbagmlfaaGreatGe
import Derived.Test.YtkbdofnbagmlfaaGreatHg
import Derived.Test.YtkbdofnbagmlfaaGreatHh
namespace Go.Proofs.YtkbdofnbagmlfaaGreat
set_option maxRecDepth 100000
open Go.PI Go
noncomputable section
abbrev zIS21 : List (Bool × Pat) := [(false, .ty true (.ptr (.st (.pair (.st (.pair zM1 zM9)) (.sl (.st zM9)))))), (false, .ty false (.int .i64))]
def cxS2 : Ctx := (ocx (ocx cx_sameMs Zqr) ZgI)
theorem enS2 : EnvFull Tryz.prog cxS2 := (ocn (ocn Zt8 Zqr) ZgI)
def Zie : (Int × (Int × (zM2 × (Int × (Int × ((zM2 × (Int × Int)) × ((List (Int × Int)) × Unit))))))) -> Br ((Int × (Int × (zM2 × (Int × (Int × ((zM2 × (Int × Int)) × ((List (Int × Int)) × Unit))))))) ⊕ (Int × (zM2 × (Int × (Int × ((zM2 × (Int × Int)) × ((List (Int × Int)) × Unit))))))) := fun (a, b, c, d, e, f, g, ()) =>
 (.cond (decide (0 <= a) && decide (a < (↑(List.length (Prod.fst f)) : Int)))
 (.cond (decide (b <= if 4 < (List.getD (Prod.fst f) a.toNat (ByteArray.empty, [], false, 0, 0, [])).2.2.2.2.1 then 4 else (List.getD (Prod.fst f) a.toNat (ByteArray.empty, [], false, 0, 0, [])).2.2.2.2.1))
 (.cond (decide ((List.length g + List.length (List.set (List.replicate 1 (0, 0)) 0 (a, b))) * 16 <= 140737488355328))
 (.ret (.inl (a, IntKind.wrap IntKind.i64 (b + 1), c, d, e, f, g ++ List.set (List.replicate 1 (0, 0)) 0 (a, b), ())))
 (.no))
 (.ret (.inr (a, c, d, e, f, g, ()))))
 (.no))
def newN_w1 := Zag fun x => (Zie x).run
def Ziw : (Int × (zM2 × (Int × (Int × ((zM2 × (Int × Int)) × ((List (Int × Int)) × Unit)))))) -> Br ((Int × (zM2 × (Int × (Int × ((zM2 × (Int × Int)) × ((List (Int × Int)) × Unit)))))) ⊕ (zM2 × (Int × (Int × ((List (Int × Int)) × Unit))))) := fun (a, b, c, d, e, f, ()) =>
 (.cond (decide (a >= 0))
 (.opt (newN_w1 (a, 1, b, c, d, e, f, ())) fun g =>
 (.opt (nextT (Prod.fst (Prod.snd (Prod.snd (Prod.snd (Prod.snd g)))), Prod.fst g, ())) fun h =>
 (.ret (.inl (Prod.fst h, Prod.fst (Prod.snd g), Prod.fst (Prod.snd (Prod.snd g)), Prod.fst (Prod.snd (Prod.snd (Prod.snd g))), Prod.fst (Prod.snd (Prod.snd (Prod.snd (Prod.snd g)))), Prod.fst (Prod.snd (Prod.snd (Prod.snd (Prod.snd (Prod.snd g))))), ())))))
 (.ret (.inr (b, c, d, f, ()))))
def newN_w0 := Zag fun x => (Ziw x).run
def newN_B : ((zM2 × (Int × Int)) × Unit) -> Br ((Option ((zM2 × (Int × Int)) × (List (Int × Int)))) × Unit) := fun (p0, ()) =>
 (.opt (copyQ (p0, ())) fun a =>
 (.opt (nextT (p0, -1, ())) fun b =>
 (.opt (newN_w0 (Prod.fst b, Prod.fst (Prod.fst a), Prod.fst (Prod.snd (Prod.fst a)), Prod.snd (Prod.snd (Prod.fst a)), p0, [(-1, 0)], ())) fun c =>
 (.ret (some ((Prod.fst c, Prod.fst (Prod.snd c), Prod.fst (Prod.snd (Prod.snd c))), Prod.fst (Prod.snd (Prod.snd (Prod.snd c)))), ())))))
def newN := fun x => (newN_B x).run
def newN_L : List Lp := [
 .mk 3 (shX 43 [(1, .c (.ref 1025 0 0)), (3, .c (.ref 1035 0 0))] [(1025, []), (1035, [.bad, .bad, .bad, (.mfull 1726)]), (1726, [])] [sI 4, .cell 1035 0 false zM1, .cell 1035 1 false (.int .i64), .cell 1035 2 false (.int .i64), .tv 1025 false (.st (.pair zM1 zM9)), .ar 1726 false 129 (.st zM9)] ⟨[(1, .keep), (3, .keep), (4, .as false (.int .i64))], [(11, 0, .as false zM1), (11, 1, .as false (.int .i64)), (11, 2, .as false (.int .i64)), (11, 3, .row 702 false 129 (.st zM9))], [(1, false), (11, false), (702, false)]⟩) ([exX (.exit 0) 43 [(3, .c (.ref 1035 0 0))] [(1035, [.bad, .bad, .bad, (.mfull 1727)]), (1727, [])] [.cell 1035 0 false zM1, .cell 1035 1 false (.int .i64), .cell 1035 2 false (.int .i64), .ar 1727 false 129 (.st zM9)] ⟨[(3, .keep)], [(11, 0, .as false zM1), (11, 1, .as false (.int .i64)), (11, 2, .as false (.int .i64)), (11, 3, .row 703 false 129 (.st zM9))], [(11, false), (703, false)]⟩]) Ziw,
 .mk 6 (shX 43 [(1, .c (.ref 1025 0 0)), (3, .c (.ref 1035 0 0))] [(1025, []), (1035, [.bad, .bad, .bad, (.mfull 1724)]), (1724, [])] [sI 4, sI 5, .cell 1035 0 false zM1, .cell 1035 1 false (.int .i64), .cell 1035 2 false (.int .i64), .tv 1025 false (.st (.pair zM1 zM9)), .ar 1724 false 129 (.st zM9)] ⟨[(1, .keep), (3, .keep), (4, .as false (.int .i64)), (5, .as false (.int .i64))], [(11, 0, .as false zM1), (11, 1, .as false (.int .i64)), (11, 2, .as false (.int .i64)), (11, 3, .row 700 false 129 (.st zM9))], [(1, false), (11, false), (700, false)]⟩) ([exX (.exit 2) 43 [(1, .c (.ref 1025 0 0)), (3, .c (.ref 1035 0 0))] [(1025, []), (1035, [.bad, .bad, .bad, (.mfull 1725)]), (1725, [])] [sI 4, .cell 1035 0 false zM1, .cell 1035 1 false (.int .i64), .cell 1035 2 false (.int .i64), .tv 1025 false (.st (.pair zM1 zM9)), .ar 1725 false 129 (.st zM9)] ⟨[(1, .keep), (3, .keep), (4, .as false (.int .i64))], [(11, 0, .as false zM1), (11, 1, .as false (.int .i64)), (11, 2, .as false (.int .i64)), (11, 3, .row 701 false 129 (.st zM9))], [(1, false), (11, false), (701, false)]⟩]) Zie]
theorem ZsX : OC Tryz.prog 56 [(false, .ty false (.st (.pair zM1 zM9)))] [.ty false (.ptr (.st (.pair (.st (.pair zM1 zM9)) (.sl (.st zM9)))))] newN := OC.lp enS2 1024 Tryz.func56 newN_L (by kernel_rfl) ⟨fun _ => by kernel_rfl, fun _ => by kernel_rfl, trivial⟩ (fun _ => by kernel_rfl)
def cx_newN : Ctx := ocx cxS2 ZsX
theorem ZrU : EnvFull Tryz.prog cx_newN := ocn enS2 ZsX
def lenN_B : ((Option ((zM2 × (Int × Int)) × (List (Int × Int)))) × Unit) -> Br (Int × Unit) := fun (p0, ()) =>
 (.cond (Option.isNone p0)
 (.ret (0, ()))
 (.cond (Option.isSome p0)
 (.ret ((↑(List.length (Prod.snd (Option.rec (([], 0, 0), []) (fun (val : Ty.T (Ty.st (Ty.pair zM3 ZaY))) => val) p0))) : Int), ()))
 (.no)))
def lenN := fun x => (lenN_B x).run
theorem Zr6 : OC Tryz.prog 91 [(false, .ty true (.ptr (.st (.pair (.st (.pair zM1 zM9)) (.sl (.st zM9))))))] [.ty false (.int .i64)] lenN := OC.lp ZrU 1024 Tryz.func91 [] (by kernel_rfl) trivial (fun _ => by kernel_rfl)
def cx_lenN : Ctx := ocx cx_newN Zr6
theorem Zru : EnvFull Tryz.prog cx_lenN := ocn ZrU Zr6
def atN_B : ((Option ((zM2 × (Int × Int)) × (List (Int × Int)))) × (Int × Unit)) -> Br (((Int × Int) × Bool) × Unit) := fun (p0, p1, ()) =>
 (.cond (decide (p1 < 0))
 (.ret (((0, 0), false), ()))
 (.opt (lenN (p0, ())) fun y3 =>
 (.cond (decide (p1 >= Prod.fst y3))
 (.ret (((0, 0), false), ()))
 (.cond (Option.isSome p0)
 (.cond (decide (0 <= p1) && decide (p1 < (↑(List.length (Prod.snd (Option.rec (([], 0, 0), []) (fun (val : Ty.T (Ty.st (Ty.pair zM3 ZaY))) => val) p0))) : Int)))
 (.ret ((List.getD (Prod.snd (Option.rec (([], 0, 0), []) (fun (val : Ty.T (Ty.st (Ty.pair zM3 ZaY))) => val) p0)) p1.toNat (0, 0), true), ()))
 (.no))
 (.no)))))
def atN := fun x => (atN_B x).run
theorem atN_oc : OC Tryz.prog 63 zIS21 [.ty false (.st zM9), .ty false .bool] atN := OC.lp Zru 1024 Tryz.func63 [] (by kernel_rfl) trivial (fun _ => by kernel_rfl)
def cx_atN : Ctx := ocx cx_lenN atN_oc
theorem en_atN : EnvFull Tryz.prog cx_atN := ocn Zru atN_oc
def Zea : ((List (Int × Int)) × (Int × (Int × ((Int × Int) × Unit)))) -> Br (((List (Int × Int)) × (Int × (Int × ((Int × Int) × Unit)))) ⊕ ((Int × Unit) ⊕ Unit)) := fun (a, b, c, d, ()) =>
 (.cond (decide (c < b))
 (.cond (decide (0 <= c) && decide (c < (a.length : Int)))
 (.cond (decide (Prod.fst d = (a.getD c.toNat (0, 0)).1) && decide (Prod.snd d = (a.getD c.toNat (0, 0)).2))
 (.ret (.inr (.inl (c, ()))))
 (.ret (.inl (a, b, IntKind.wrap IntKind.i64 (c + 1), d, ()))))
 (.no))
 (.ret (.inr (.inr (())))))
def idxState_w0 := Zag fun x => (Zea x).run
def Zk1 : ((List (Int × Int)) × ((Int × Int) × Unit)) -> Br (Int × Unit) := fun (p0, p1, ()) =>
 (.opt (idxState_w0 (p0, (p0.length : Int), 0, p1, ())) fun a =>
 (.sum a (fun b =>
 (.ret (Prod.fst b, ()))) (fun c =>
 (.ret (-1, ())))))
def idxState := fun x => (Zk1 x).run
def ZtA : List Lp := [
 .mk 2 (shO 19 [(3, .c (.ref 1027 0 0))] [(1027, [])] [.slot 0 true (.sl (.st zM9)), sI 7, sI 8, .tv 1027 false (.st zM9)] []) ([exO .ret 19 [] [] [sI 4] [], exO (.exit 0) 19 [] [] [] []]) Zea]
theorem Zi3 : OC Tryz.prog 122 [(false, .ty true (.sl (.st zM9))), (false, .ty false (.st zM9))] [.ty false (.int .i64)] idxState := OC.lp en_atN 1024 Tryz.func122 ZtA (by kernel_rfl) ⟨fun _ => by kernel_rfl, trivial⟩ (fun _ => by kernel_rfl)
def cx_idxState : Ctx := ocx cx_atN Zi3
theorem ZiX : EnvFull Tryz.prog cx_idxState := ocn en_atN Zi3
def ZrY : ((Option ((zM2 × (Int × Int)) × (List (Int × Int)))) × ((Int × Int) × Unit)) -> Br (Int × Unit) := fun (p0, p1, ()) =>
 (.cond (Option.isNone p0)
 (.ret (-1, ()))
 (.cond (Option.isSome p0)
 (.opt (idxState (Prod.snd (Option.rec (([], 0, 0), []) (fun (val : Ty.T (Ty.st (Ty.pair zM3 ZaY))) => val) p0), p1, ())) fun y3 =>
 (.ret (Prod.fst y3, ())))
 (.no)))
def findN := fun x => (ZrY x).run
theorem ZoG : OC Tryz.prog 90 [(false, .ty true (.ptr (.st (.pair (.st (.pair zM1 zM9)) (.sl (.st zM9)))))), (false, .ty false (.st zM9))] [.ty false (.int .i64)] findN := OC.lp ZiX 1024 Tryz.func90 [] (by kernel_rfl) trivial (fun _ => by kernel_rfl)
def cx_findN : Ctx := ocx cx_idxState ZoG
theorem ZqI : EnvFull Tryz.prog cx_findN := ocn ZiX ZoG
def ZpY : ((Option ((zM2 × (Int × Int)) × (List (Int × Int)))) × (Int × Unit)) -> Br ((List Int) × Unit) := fun (p0, p1, ()) =>
 (.opt (atN (p0, p1, ())) fun a =>
 (.cond (!Prod.snd (Prod.fst a))
 (.ret ([], ()))
 (.opt (findN (p0, (Prod.fst (Prod.fst (Prod.fst a)), IntKind.wrap IntKind.i64 (Prod.snd (Prod.fst (Prod.fst a)) + 1)), ())) fun b =>
 (.cond (decide (Prod.fst (Prod.fst (Prod.fst a)) >= 0))
 (.cond (decide (Prod.fst b >= 0))
 (.cond (decide (List.length (List.set (List.replicate 1 0) 0 (Prod.fst b)) * 8 <= 140737488355328))
 (.cond (decide (Prod.fst (Prod.fst (Prod.fst a)) >= 0))
 (.cond (Option.isSome p0)
 (.cond (decide (0 <= Prod.fst (Prod.fst (Prod.fst a))) && decide (Prod.fst (Prod.fst (Prod.fst a)) < (↑(List.length (Prod.fst (Prod.fst (Option.rec (([], 0, 0), []) (fun (val : Ty.T (Ty.st (Ty.pair zM3 ZaY))) => val) p0)))) : Int)))
 (.cond (decide (Prod.snd (Prod.fst (Prod.fst a)) < (List.getD (Prod.fst (Prod.fst (Option.rec (([], 0, 0), []) (fun (val : Ty.T (Ty.st (Ty.pair zM3 ZaY))) => val) p0))) (Int.toNat (Prod.fst (Prod.fst (Prod.fst a)))) (ByteArray.empty, [], false, 0, 0, [])).2.2.2.1))
 (.ret ([Prod.fst b], ()))
 (.cond (Option.isSome p0)
 (.opt (nextT (Prod.fst (Option.rec (([], 0, 0), []) (fun (val : Ty.T (Ty.st (Ty.pair zM3 ZaY))) => val) p0), Prod.fst (Prod.fst (Prod.fst a)), ())) fun c =>
 (.opt (findN (p0, (Prod.fst c, 1), ())) fun d =>
 (.cond (decide (Prod.fst d > 0))
 (.cond (decide ((List.length [Prod.fst b] + List.length (List.set (List.replicate 1 0) 0 (Prod.fst d))) * 8 <= 140737488355328))
 (.ret ([Prod.fst b, Prod.fst d], ()))
 (.no))
 (.ret ([Prod.fst b], ())))))
 (.no)))
 (.no))
 (.no))
 (.cond (Option.isSome p0)
 (.opt (nextT (Prod.fst (Option.rec (([], 0, 0), []) (fun (val : Ty.T (Ty.st (Ty.pair zM3 ZaY))) => val) p0), Prod.fst (Prod.fst (Prod.fst a)), ())) fun e =>
 (.opt (findN (p0, (Prod.fst e, 1), ())) fun f =>
 (.cond (decide (Prod.fst f > 0))
 (.cond (decide ((List.length [Prod.fst b] + List.length (List.set (List.replicate 1 0) 0 (Prod.fst f))) * 8 <= 140737488355328))
 (.ret ([Prod.fst b, Prod.fst f], ()))
 (.no))
 (.ret ([Prod.fst b], ())))))
 (.no)))
 (.no))
 (.cond (decide (Prod.fst (Prod.fst (Prod.fst a)) >= 0))
 (.cond (Option.isSome p0)
 (.cond (decide (0 <= Prod.fst (Prod.fst (Prod.fst a))) && decide (Prod.fst (Prod.fst (Prod.fst a)) < (↑(List.length (Prod.fst (Prod.fst (Option.rec (([], 0, 0), []) (fun (val : Ty.T (Ty.st (Ty.pair zM3 ZaY))) => val) p0)))) : Int)))
 (.cond (decide (Prod.snd (Prod.fst (Prod.fst a)) < (List.getD (Prod.fst (Prod.fst (Option.rec (([], 0, 0), []) (fun (val : Ty.T (Ty.st (Ty.pair zM3 ZaY))) => val) p0))) (Int.toNat (Prod.fst (Prod.fst (Prod.fst a)))) (ByteArray.empty, [], false, 0, 0, [])).2.2.2.1))
 (.ret ([], ()))
 (.cond (Option.isSome p0)
 (.opt (nextT (Prod.fst (Option.rec (([], 0, 0), []) (fun (val : Ty.T (Ty.st (Ty.pair zM3 ZaY))) => val) p0), Prod.fst (Prod.fst (Prod.fst a)), ())) fun g =>
 (.opt (findN (p0, (Prod.fst g, 1), ())) fun h =>
 (.cond (decide (Prod.fst h > 0))
 (.cond (decide (List.length (List.set (List.replicate 1 0) 0 (Prod.fst h)) * 8 <= 140737488355328))
 (.ret ([Prod.fst h], ()))
 (.no))
 (.ret ([], ())))))
 (.no)))
 (.no))
 (.no))
 (.cond (Option.isSome p0)
 (.opt (nextT (Prod.fst (Option.rec (([], 0, 0), []) (fun (val : Ty.T (Ty.st (Ty.pair zM3 ZaY))) => val) p0), Prod.fst (Prod.fst (Prod.fst a)), ())) fun i =>
 (.opt (findN (p0, (Prod.fst i, 1), ())) fun j =>
 (.cond (decide (Prod.fst j > 0))
 (.cond (decide (List.length (List.set (List.replicate 1 0) 0 (Prod.fst j)) * 8 <= 140737488355328))
 (.ret ([Prod.fst j], ()))
 (.no))
 (.ret ([], ())))))
 (.no))))
 (.cond (decide (Prod.fst (Prod.fst (Prod.fst a)) >= 0))
 (.cond (Option.isSome p0)
 (.cond (decide (0 <= Prod.fst (Prod.fst (Prod.fst a))) && decide (Prod.fst (Prod.fst (Prod.fst a)) < (↑(List.length (Prod.fst (Prod.fst (Option.rec (([], 0, 0), []) (fun (val : Ty.T (Ty.st (Ty.pair zM3 ZaY))) => val) p0)))) : Int)))
 (.cond (decide (Prod.snd (Prod.fst (Prod.fst a)) < (List.getD (Prod.fst (Prod.fst (Option.rec (([], 0, 0), []) (fun (val : Ty.T (Ty.st (Ty.pair zM3 ZaY))) => val) p0))) (Int.toNat (Prod.fst (Prod.fst (Prod.fst a)))) (ByteArray.empty, [], false, 0, 0, [])).2.2.2.1))
 (.ret ([], ()))
 (.cond (Option.isSome p0)
 (.opt (nextT (Prod.fst (Option.rec (([], 0, 0), []) (fun (val : Ty.T (Ty.st (Ty.pair zM3 ZaY))) => val) p0), Prod.fst (Prod.fst (Prod.fst a)), ())) fun k =>
 (.opt (findN (p0, (Prod.fst k, 1), ())) fun l =>
 (.cond (decide (Prod.fst l > 0))
 (.cond (decide (List.length (List.set (List.replicate 1 0) 0 (Prod.fst l)) * 8 <= 140737488355328))
 (.ret ([Prod.fst l], ()))
 (.no))
 (.ret ([], ())))))
 (.no)))
 (.no))
 (.no))
 (.cond (Option.isSome p0)
 (.opt (nextT (Prod.fst (Option.rec (([], 0, 0), []) (fun (val : Ty.T (Ty.st (Ty.pair zM3 ZaY))) => val) p0), Prod.fst (Prod.fst (Prod.fst a)), ())) fun m =>
 (.opt (findN (p0, (Prod.fst m, 1), ())) fun n =>
 (.cond (decide (Prod.fst n > 0))
 (.cond (decide (List.length (List.set (List.replicate 1 0) 0 (Prod.fst n)) * 8 <= 140737488355328))
 (.ret ([Prod.fst n], ()))
 (.no))
 (.ret ([], ())))))
 (.no)))))))
def movesN := fun x => (ZpY x).run
theorem Znu : OC Tryz.prog 61 zIS21 [.ty false (.sl (.int .i64))] movesN := OC.lp ZqI 1024 Tryz.func61 [] (by kernel_rfl) trivial (fun _ => by kernel_rfl)
def cx_movesN : Ctx := ocx cx_findN Znu
theorem ZnA : EnvFull Tryz.prog cx_movesN := ocn ZqI Znu
def ZsH : ((Option ((zM2 × (Int × Int)) × (List (Int × Int)))) × (Int × Unit)) -> Br (Bool × Unit) := fun (p0, p1, ()) =>
 (.opt (atN (p0, p1, ())) fun y4 =>
 (.cond (Prod.snd (Prod.fst y4))
 (.cond (decide (Prod.fst (Prod.fst (Prod.fst y4)) >= 0))
 (.cond (Option.isSome p0)
 (.opt (lastQ (Prod.fst (Option.rec (([], 0, 0), []) (fun (val : Ty.T (Ty.st (Ty.pair zM3 ZaY))) => val) p0), ())) fun y5 =>
 (.cond (Prod.fst (Prod.fst (Prod.fst y4)) == Prod.fst y5)
 (.cond (Option.isSome p0)
 (.cond (decide (0 <= Prod.fst (Prod.fst (Prod.fst y4))) && decide (Prod.fst (Prod.fst (Prod.fst y4)) < (↑(List.length (Prod.fst (Prod.fst (Option.rec (([], 0, 0), []) (fun (val : Ty.T (Ty.st (Ty.pair zM3 ZaY))) => val) p0)))) : Int)))
 (.ret (decide (Prod.snd (Prod.fst (Prod.fst y4)) >= (List.getD (Prod.fst (Prod.fst (Option.rec (([], 0, 0), []) (fun (val : Ty.T (Ty.st (Ty.pair zM3 ZaY))) => val) p0))) (Int.toNat (Prod.fst (Prod.fst (Prod.fst y4)))) (ByteArray.empty, [], false, 0, 0, [])).2.2.2.1), ()))
 (.no))
 (.no))
 (.ret (false, ()))))
 (.no))
 (.ret (false, ())))
 (.ret (false, ()))))
def endsN := fun x => (ZsH x).run
theorem ZqO : OC Tryz.prog 70 zIS21 [.ty false .bool] endsN := OC.lp ZnA 1024 Tryz.func70 [] (by kernel_rfl) trivial (fun _ => by kernel_rfl)
def cx_endsN : Ctx := ocx cx_movesN ZqO
theorem Zpl : EnvFull Tryz.prog cx_endsN := ocn ZnA ZqO
def ZpH : ((Option ((zM2 × (Int × Int)) × (List (Int × Int)))) × Unit) -> Br ((zM2 × (Int × Int)) × Unit) := fun (p0, ()) =>
 (.cond (Option.isNone p0)
 (.ret (([], 0, 0), ()))
 (.cond (Option.isSome p0)
 (.opt (copyQ (Prod.fst (Option.rec (([], 0, 0), []) (fun (val : Ty.T (Ty.st (Ty.pair zM3 ZaY))) => val) p0), ())) fun y2 =>
 (.ret (Prod.fst y2, ())))
 (.no)))
def queryN := fun x => (ZpH x).run
theorem ZmH : OC Tryz.prog 57 [(false, .ty false (.ptr (.st (.pair (.st (.pair zM1 zM9)) (.sl (.st zM9))))))] [.ty false (.st (.pair zM1 zM9))] queryN := OC.lp Zpl 1024 Tryz.func57 [] (by kernel_rfl) trivial (fun _ => by kernel_rfl)
def cx_queryN : Ctx := ocx cx_endsN ZmH
theorem ZmS : EnvFull Tryz.prog cx_queryN := ocn Zpl ZmH
def Ztc : (zM5 × Unit) -> Br (Int × Unit) := fun (p0, ()) =>
 (.ret (Prod.fst p0, ()))
def runState := fun x => (Ztc x).run
theorem Zjb : OC Tryz.prog 62 [(false, .ty true zM4)] [.ty false (.int .i64)] runState := OC.lp ZmS 1024 Tryz.func62 [] (by kernel_rfl) trivial (fun _ => by kernel_rfl)
def cx_runState : Ctx := ocx cx_queryN Zjb
theorem ZiH : EnvFull Tryz.prog cx_runState := ocn ZmS Zjb
def ZtO : (zM5 × Unit) -> Br (zM5 × Unit) := fun (p0, ()) =>
 (.ret ((Prod.fst p0, Prod.fst (Prod.snd p0), Prod.fst (Prod.snd (Prod.snd p0)), Prod.fst (Prod.snd (Prod.snd (Prod.snd p0))), Prod.fst (Prod.snd (Prod.snd (Prod.snd (Prod.snd p0)))), true), ()))
def runBlock := fun x => (ZtO x).run
theorem Zjl : OC Tryz.prog 69 [(false, .ty false zM4)] [.ty false zM4] runBlock := OC.lp ZiH 1024 Tryz.func69 [] (by kernel_rfl) trivial (fun _ => by kernel_rfl)
def cx_runBlock : Ctx := ocx cx_runState Zjl
theorem Zjf : EnvFull Tryz.prog cx_runBlock := ocn ZiH Zjl
def ZuB : (zM5 × Unit) -> Br (Bool × Unit) := fun (p0, ()) =>
 (.ret (Prod.snd (Prod.snd (Prod.snd (Prod.snd (Prod.snd p0)))), ()))
def runBlkd := fun x => (ZuB x).run
theorem Zk2 : OC Tryz.prog 65 [(false, .ty true zM4)] [.ty false .bool] runBlkd := OC.lp Zjf 1024 Tryz.func65 [] (by kernel_rfl) trivial (fun _ => by kernel_rfl)
def cx_runBlkd : Ctx := ocx cx_runBlock Zk2
theorem Zka : EnvFull Tryz.prog cx_runBlkd := ocn Zjf Zk2
def ZkL : (zM5 × Unit) -> Br ((List (Int × Int)) × Unit) := fun (p0, ()) =>
 (.opt (listP (Prod.fst (Prod.snd p0), ())) fun y2 =>
 (.ret (Prod.fst y2, ())))
def runPairs := fun x => (ZkL x).run
theorem ZiJ : OC Tryz.prog 37 [(false, .ty false zM4)] [.ty false (.sl (.st zM9))] runPairs := OC.lp Zka 1024 Tryz.func37 [] (by kernel_rfl) trivial (fun _ => by kernel_rfl)
def cx_runPairs : Ctx := ocx cx_runBlkd ZiJ
theorem Zi8 : EnvFull Tryz.prog cx_runPairs := ocn Zka ZiJ
def Znv : (zM5 × ((zM2 × (Int × Int)) × (Int × Unit))) -> Br (Bool × Unit) := fun (p0, p1, p2, ()) =>
 (.opt (runElem (p0, ())) fun y5 =>
 (.cond (decide (Prod.fst y5 < 0))
 (.ret (false, ()))
 (.cond (decide (Prod.fst y5 >= (↑(List.length (Prod.fst p1)) : Int)))
 (.ret (false, ()))
 (.cond (decide (0 <= Prod.fst y5) && decide (Prod.fst y5 < (↑(List.length (Prod.fst p1)) : Int)))
 (.cond (decide (p2 < (List.getD (Prod.fst p1) (Int.toNat (Prod.fst y5)) (ByteArray.empty, [], false, 0, 0, [])).2.2.2.2.1))
 (.ret (false, ()))
 (.cond (Prod.snd (Prod.snd (Prod.snd (Prod.snd (Prod.snd p0)))))
 (.ret (true, ()))
 (.opt (nextT (p1, Prod.fst y5, ())) fun y6 =>
 (.ret (decide (Prod.fst y6 < 0), ())))))
 (.no)))))
def runDead := fun x => (Znv x).run
theorem Zlh : OC Tryz.prog 72 [(false, .ty true zM4), (false, .ty true (.st (.pair zM1 zM9))), (false, .ty false (.int .i64))] [.ty false .bool] runDead := OC.lp Zi8 1024 Tryz.func72 [] (by kernel_rfl) trivial (fun _ => by kernel_rfl)
def cx_runDead : Ctx := ocx cx_runPairs Zlh
theorem Zlo : EnvFull Tryz.prog cx_runDead := ocn Zi8 Zlh
def Zmr : (zM5 × ((zM2 × (Int × Int)) × (Int × Unit))) -> Br (Bool × Unit) := fun (p0, p1, p2, ()) =>
 (.opt (runLen (p0, ())) fun y4 =>
 (.cond (decide (Prod.fst y4 > 0))
 (.ret (decide (IntKind.wrap IntKind.i64 (p2 - Prod.fst (Prod.snd (Prod.snd (Prod.snd p0)))) > Prod.fst (Prod.snd p1)), ()))
 (.ret (false, ()))))
def runOver := fun x => (Zmr x).run
theorem Zld : OC Tryz.prog 60 [(false, .ty true zM4), (false, .ty true (.st (.pair zM1 zM9))), (false, .ty false (.int .i64))] [.ty false .bool] runOver := OC.lp Zlo 1024 Tryz.func60 [] (by kernel_rfl) trivial (fun _ => by kernel_rfl)
def cx_runOver : Ctx := ocx cx_runDead Zld
theorem Zlr : EnvFull Tryz.prog cx_runOver := ocn Zlo Zld
def newM_B : ((Option (List (ByteArray × (List (ByteArray × Int))))) × ((zM2 × (Int × Int)) × Unit)) -> Br (zM7 × Unit) := fun (p0, p1, ()) =>
 (.opt (newN (p1, ())) fun y4 =>
 (.opt (queryN (Prod.fst y4, ())) fun y5 =>
 (.ret (some (p0, Prod.fst y5, Prod.fst y4), ()))))
def newM := fun x => (newM_B x).run
theorem Zsr : OC Tryz.prog 31 [(false, .ty false (.ptr (.st (.sl (.st (.pair .str (.sl (.st (.pair .str (.int .i64)))))))))), (false, .ty false (.st (.pair zM1 zM9)))] [.ty false zM6] newM := OC.lp Zlr 1024 Tryz.func31 [] (by kernel_rfl) trivial (fun _ => by kernel_rfl)
def cx_newM : Ctx := ocx cx_runOver Zsr
theorem ZrZ : EnvFull Tryz.prog cx_newM := ocn Zlr Zsr
def Zoc : (zM7 × Unit) -> Br ((zM2 × (Int × Int)) × Unit) := fun (p0, ()) =>
 (.cond (Option.isNone p0)
 (.ret (([], 0, 0), ()))
 (.cond (Option.isSome p0)
 (.opt (queryN (Prod.snd (Prod.snd (Option.rec (none, ([], 0, 0), none) (fun (val : Ty.T (Ty.st (Ty.pair ZdC (Ty.pair zM3 (Ty.ptr (Ty.st (Ty.pair zM3 ZaY))))))) => val) p0)), ())) fun y2 =>
 (.ret (Prod.fst y2, ())))
 (.no)))
def queryM := fun x => (Zoc x).run
theorem Zns : OC Tryz.prog 32 [(false, .ty false zM6)] [.ty false (.st (.pair zM1 zM9))] queryM := OC.lp ZrZ 1024 Tryz.func32 [] (by kernel_rfl) trivial (fun _ => by kernel_rfl)
def cx_queryM : Ctx := ocx cx_newM Zns
theorem Zm3 : EnvFull Tryz.prog cx_queryM := ocn ZrZ Zns
def Zg3 : (zM7 × ((List Int) × (Int × (Int × (zM5 × (Zez × ((List zM5) × Unit))))))) -> Br ((zM7 × ((List Int) × (Int × (Int × (zM5 × (Zez × ((List zM5) × Unit))))))) ⊕ ((List zM5) × Unit)) := fun (a, b, c, d, e, f, g, ()) =>
 (.cond (decide (d < c))
 (.cond (decide (0 <= d) && decide (d < (b.length : Int)))
 (.cond (Option.isSome a)
 (.opt (atN (Prod.snd (Prod.snd (Option.rec (none, ([], 0, 0), none) (fun (val : Ty.T (Ty.st (Ty.pair ZdC (Ty.pair zM3 (Ty.ptr (Ty.st (Ty.pair zM3 ZaY))))))) => val) a)), b.getD d.toNat 0, ())) fun h =>
 (.opt (runElem (e, ())) fun i =>
 (.cond (Prod.fst (Prod.fst (Prod.fst h)) != Prod.fst i)
 (.opt (runBlkd (e, ())) fun j =>
 (.cond (Prod.fst j)
 (.ret (.inl (a, b, c, IntKind.wrap IntKind.i64 (d + 1), e, f, g, ())))
 (.cond (Option.isSome a)
 (.cond (Option.isSome a)
 (.opt (fitsG (Prod.fst (Option.rec (none, ([], 0, 0), none) (fun (val : Ty.T (Ty.st (Ty.pair ZdC (Ty.pair zM3 (Ty.ptr (Ty.st (Ty.pair zM3 ZaY))))))) => val) a), Prod.fst (Prod.snd (Option.rec (none, ([], 0, 0), none) (fun (val : Ty.T (Ty.st (Ty.pair ZdC (Ty.pair zM3 (Ty.ptr (Ty.st (Ty.pair zM3 ZaY))))))) => val) a)), e, Prod.fst (Prod.fst (Prod.fst h)), f, ())) fun k =>
 (.cond (!Prod.fst k)
 (.ret (.inl (a, b, c, IntKind.wrap IntKind.i64 (d + 1), e, f, g, ())))
 (.cond (Option.isSome a)
 (.opt (runWith (e, Prod.fst (Prod.snd (Option.rec (none, ([], 0, 0), none) (fun (val : Ty.T (Ty.st (Ty.pair ZdC (Ty.pair zM3 (Ty.ptr (Ty.st (Ty.pair zM3 ZaY))))))) => val) a)), b.getD d.toNat 0, Prod.fst (Prod.fst (Prod.fst h)), f, ())) fun l =>
 (.cond (decide ((List.length g + List.length (List.set (List.replicate 1 (0, [], [], 0, (0, 0, 0), false)) 0 (Prod.fst l))) * 64 <= 140737488355328))
 (.ret (.inl (a, b, c, IntKind.wrap IntKind.i64 (d + 1), e, f, g ++ List.set (List.replicate 1 (0, [], [], 0, (0, 0, 0), false)) 0 (Prod.fst l), ())))
 (.no)))
 (.no))))
 (.no))
 (.no))))
 (.cond (Option.isSome a)
 (.cond (Option.isSome a)
 (.opt (fitsG (Prod.fst (Option.rec (none, ([], 0, 0), none) (fun (val : Ty.T (Ty.st (Ty.pair ZdC (Ty.pair zM3 (Ty.ptr (Ty.st (Ty.pair zM3 ZaY))))))) => val) a), Prod.fst (Prod.snd (Option.rec (none, ([], 0, 0), none) (fun (val : Ty.T (Ty.st (Ty.pair ZdC (Ty.pair zM3 (Ty.ptr (Ty.st (Ty.pair zM3 ZaY))))))) => val) a)), e, Prod.fst (Prod.fst (Prod.fst h)), f, ())) fun m =>
 (.cond (!Prod.fst m)
 (.ret (.inl (a, b, c, IntKind.wrap IntKind.i64 (d + 1), e, f, g, ())))
 (.cond (Option.isSome a)
 (.opt (runWith (e, Prod.fst (Prod.snd (Option.rec (none, ([], 0, 0), none) (fun (val : Ty.T (Ty.st (Ty.pair ZdC (Ty.pair zM3 (Ty.ptr (Ty.st (Ty.pair zM3 ZaY))))))) => val) a)), b.getD d.toNat 0, Prod.fst (Prod.fst (Prod.fst h)), f, ())) fun n =>
 (.cond (decide ((List.length g + List.length (List.set (List.replicate 1 (0, [], [], 0, (0, 0, 0), false)) 0 (Prod.fst n))) * 64 <= 140737488355328))
 (.ret (.inl (a, b, c, IntKind.wrap IntKind.i64 (d + 1), e, f, g ++ List.set (List.replicate 1 (0, [], [], 0, (0, 0, 0), false)) 0 (Prod.fst n), ())))
 (.no)))
 (.no))))
 (.no))
 (.no)))))
 (.no))
 (.no))
 (.ret (.inr (g, ()))))
def moreM_w0 := Zag fun x => (Zg3 x).run
def Zsg : (zM7 × (zM5 × (Zez × Unit))) -> Br ((List zM5) × Unit) := fun (p0, p1, p2, ()) =>
 (.cond (Option.isNone p0)
 (.ret ([], ()))
 (.cond (Option.isSome p0)
 (.opt (runState (p1, ())) fun a =>
 (.opt (movesN (Prod.snd (Prod.snd (Option.rec (none, ([], 0, 0), none) (fun (val : Ty.T (Ty.st (Ty.pair ZdC (Ty.pair zM3 (Ty.ptr (Ty.st (Ty.pair zM3 ZaY))))))) => val) p0)), Prod.fst a, ())) fun b =>
 (.opt (moreM_w0 (p0, Prod.fst b, (↑(List.length (Prod.fst b)) : Int), 0, p1, p2, [], ())) fun c =>
 (.ret (Prod.fst c, ())))))
 (.no)))
def moreM := fun x => (Zsg x).run
def moreM_L : List Lp := [
 .mk 5 (shO 75 [(4, .c (.ref 1028 0 0)), (5, .c (.ref 1029 0 0)), (7, .c (.mfull 1724))] [(1028, []), (1029, []), (1724, [])] [.slot 0 false zM6, .slot 20 false (.sl (.int .i64)), sI 21, sI 22, .tv 1028 false zM4, .tv 1029 false zM8, .ar 1724 false 97 zM4] [7]) ([exO (.exit 0) 75 [(7, .c (.mfull 1725))] [(1725, [])] [.ar 1725 false 97 zM4] [7]]) Zg3]
theorem Zqb : OC Tryz.prog 34 [(false, .ty false zM6), (false, .ty false zM4), (false, .ty false zM8)] [.ty false (.sl zM4)] moreM := OC.lp Zm3 1024 Tryz.func34 moreM_L (by kernel_rfl) ⟨fun _ => by kernel_rfl, trivial⟩ (fun _ => by kernel_rfl)
def cx_moreM : Ctx := ocx cx_queryM Zqb
theorem ZoF : EnvFull Tryz.prog cx_moreM := ocn Zm3 Zqb
def ZmP : (zM7 × (zM5 × (Zez × Unit))) -> Br (zM5 × Unit) := fun (p0, p1, p2, ()) =>
 (.cond (!Option.isNone p0)
 (.opt (runBlkd (p1, ())) fun y6 =>
 (.cond (!Prod.fst y6)
 (.cond (Option.isSome p0)
 (.cond (Option.isSome p0)
 (.opt (blocksG (Prod.fst (Option.rec (none, ([], 0, 0), none) (fun (val : Ty.T (Ty.st (Ty.pair ZdC (Ty.pair zM3 (Ty.ptr (Ty.st (Ty.pair zM3 ZaY))))))) => val) p0), Prod.fst (Prod.snd (Option.rec (none, ([], 0, 0), none) (fun (val : Ty.T (Ty.st (Ty.pair ZdC (Ty.pair zM3 (Ty.ptr (Ty.st (Ty.pair zM3 ZaY))))))) => val) p0)), p1, p2, ())) fun y7 =>
 (.cond (Prod.fst y7)
 (.opt (runBlock (p1, ())) fun y8 =>
 (.ret (Prod.fst y8, ())))
 (.ret (p1, ()))))
 (.no))
 (.no))
 (.ret (p1, ()))))
 (.ret (p1, ())))
def behindM := fun x => (ZmP x).run
theorem Zkj : OC Tryz.prog 35 [(false, .ty true zM6), (false, .ty false zM4), (false, .ty true zM8)] [.ty false zM4] behindM := OC.lp ZoF 1024 Tryz.func35 [] (by kernel_rfl) trivial (fun _ => by kernel_rfl)
def cx_behindM : Ctx := ocx cx_moreM Zkj
theorem Zkh : EnvFull Tryz.prog cx_behindM := ocn ZoF Zkj
def ZsM : (zM7 × (zM5 × Unit)) -> Br (Bool × Unit) := fun (p0, p1, ()) =>
 (.cond (!Option.isNone p0)
 (.cond (Option.isSome p0)
 (.opt (runState (p1, ())) fun y4 =>
 (.opt (endsN (Prod.snd (Prod.snd (Option.rec (none, ([], 0, 0), none) (fun (val : Ty.T (Ty.st (Ty.pair ZdC (Ty.pair zM3 (Ty.ptr (Ty.st (Ty.pair zM3 ZaY))))))) => val) p0)), Prod.fst y4, ())) fun y5 =>
 (.ret (Prod.fst y5, ()))))
 (.no))
 (.ret (false, ())))
def endsM := fun x => (ZsM x).run
theorem ZpZ : OC Tryz.prog 36 [(false, .ty true zM6), (false, .ty true zM4)] [.ty false .bool] endsM := OC.lp Zkh 1024 Tryz.func36 [] (by kernel_rfl) trivial (fun _ => by kernel_rfl)
def cx_endsM : Ctx := ocx cx_behindM ZpZ
theorem ZpF : EnvFull Tryz.prog cx_endsM := ocn Zkh ZpZ
def Zr5 : (zM7 × (zM5 × Unit)) -> Br (Bool × Unit) := fun (p0, p1, ()) =>
 (.cond (Option.isNone p0)
 (.ret (true, ()))
 (.cond (Option.isSome p0)
 (.opt (runState (p1, ())) fun y5 =>
 (.opt (atN (Prod.snd (Prod.snd (Option.rec (none, ([], 0, 0), none) (fun (val : Ty.T (Ty.st (Ty.pair ZdC (Ty.pair zM3 (Ty.ptr (Ty.st (Ty.pair zM3 ZaY))))))) => val) p0)), Prod.fst y5, ())) fun y6 =>
 (.cond (!Prod.snd (Prod.fst y6))
 (.ret (true, ()))
 (.cond (Option.isSome p0)
 (.opt (runDead (p1, Prod.fst (Prod.snd (Option.rec (none, ([], 0, 0), none) (fun (val : Ty.T (Ty.st (Ty.pair ZdC (Ty.pair zM3 (Ty.ptr (Ty.st (Ty.pair zM3 ZaY))))))) => val) p0)), Prod.snd (Prod.fst (Prod.fst y6)), ())) fun y7 =>
 (.ret (Prod.fst y7, ())))
 (.no)))))
 (.no)))
def deadM := fun x => (Zr5 x).run
theorem ZoW : OC Tryz.prog 38 [(false, .ty true zM6), (false, .ty true zM4)] [.ty false .bool] deadM := OC.lp ZpF 1024 Tryz.func38 [] (by kernel_rfl) trivial (fun _ => by kernel_rfl)
def cx_deadM : Ctx := ocx cx_endsM ZoW
theorem Zoo : EnvFull Tryz.prog cx_deadM := ocn ZpF ZoW
end
end Go.Proofs.YtkbdofnbagmlfaaGreat
