/- Contracts of functions. Printed by auto.py. -/
import Derived.Test.YtkbdofnbagmlfaaGreatGe
import Derived.Test.YtkbdofnbagmlfaaGreatHg
import Derived.Test.YtkbdofnbagmlfaaGreatHa
import Derived.Test.YtkbdofnbagmlfaaGreatR3b
namespace Go.Proofs.YtkbdofnbagmlfaaGreat
set_option maxRecDepth 100000
open Go.PI Go
noncomputable section
def Znc : (zA2 × (zA2 × Unit)) -> Br (Bool × Unit) := fun (p0, p1, ()) =>
 (.cond (decide (p0.2.2.1 < p1.2.2.1))
 (.ret (true, ()))
 (.cond (p0.2.2.1 == p1.2.2.1)
 (.ret (decide (p0.2.2.2.1 < p1.2.2.2.1), ()))
 (.ret (false, ()))))
def beforeE := fun x => (Znc x).run
theorem ZkT : OC Tryz.prog 49 [(false, .ty true zA9), (false, .ty true zA9)] [.ty false .bool] beforeE := OC.lp ((Zas enP3 ZnN.callOk)) 1024 Tryz.func49 [] (by kernel_rfl) trivial (fun _ => by kernel_rfl)
def cx_beforeE : Ctx := ocx (Zba cxP3 52 (ZaV ZkE Zi0 holdsR)) ZkT
theorem Zk9 : EnvFull Tryz.prog cx_beforeE := ocn ((Zas enP3 ZnN.callOk)) ZkT
def ZgQ : zA28 -> Br (zA28 ⊕ zA28) := fun (a, b, c, d, ()) =>
 (.cond (decide (c > 0))
 (.cond (decide (0 <= b) && decide (b < (a.length : Int)))
 (.cond (decide (0 <= IntKind.wrap .i64 (c - 1)) && decide (IntKind.wrap .i64 (c - 1) < (d.length : Int)))
 (.opt (beforeE (a.getD b.toNat zV1, List.getD d (Int.toNat (IntKind.wrap .i64 (c - 1))) zV1, ())) fun e =>
 (.cond e.1
 (.ret (.inl (a, b, IntKind.wrap .i64 (c - 1), d, ())))
 (.ret (.inr (a, b, c, d, ())))))
 (.no))
 (.no))
 (.ret (.inr (a, b, c, d, ()))))
def sortE_w1 := Zag fun x => (ZgQ x).run
def ZgO : ((List zA2) × zT4) -> Br (((List zA2) × zT4) ⊕ zA28) := fun (a, b, c, d, e, ()) =>
 (.cond (decide (d > c))
 (.cond (decide (0 <= IntKind.wrap .i64 (d - 1)) && decide (IntKind.wrap .i64 (d - 1) < (e.length : Int)))
 (.cond (decide (0 <= d) && decide (d < (e.length : Int)))
 (.ret (.inl (a, b, c, IntKind.wrap .i64 (d - 1), List.set e d.toNat (List.getD e (Int.toNat (IntKind.wrap .i64 (d - 1))) zV1), ())))
 (.no))
 (.no))
 (.ret (.inr (a, b, c, e, ()))))
def sortE_w2 := Zag fun x => (ZgO x).run
def Zhm : ((List zA2) × (Int × ((List zA2) × Unit))) -> Br (((List zA2) × (Int × ((List zA2) × Unit))) ⊕ ((List zA2) × Unit)) := fun (a, b, c, ()) =>
 (.cond (decide (b < (a.length : Int)))
 (.opt (sortE_w1 (a, b, (c.length : Int), c, ())) fun d =>
 (.cond (decide ((List.length d.2.2.2.1 + @List.length (ByteArray × ByteArray × Int × Int × List (Int × Int × ByteArray × Bool)) (List.set (List.replicate 1 zV1) 0 zV1)) * 72 <= 140737488355328))
 (.opt (sortE_w2 (d.1, d.2.1, d.2.2.1, IntKind.wrap .i64 ((↑(List.length (d.2.2.2.1 ++ List.set (List.replicate 1 zV1) 0 zV1)) : Int) - 1), d.2.2.2.1 ++ List.set (List.replicate 1 zV1) 0 zV1, ())) fun e =>
 (.cond (decide (0 <= e.2.1) && decide (e.2.1 < (e.1.length : Int)))
 (.cond (decide (0 <= e.2.2.1) && decide (e.2.2.1 < (e.2.2.2.1.length : Int)))
 (.ret (.inl (e.1, IntKind.wrap .i64 (e.2.1 + 1), List.set e.2.2.2.1 e.2.2.1.toNat (e.1.getD e.2.1.toNat zV1), ())))
 (.no))
 (.no)))
 (.no)))
 (.ret (.inr (c, ()))))
def sortE_w0 := Zag fun x => (Zhm x).run
def Zsx : ((List zA2) × Unit) -> Br ((List zA2) × Unit) := fun (p0, ()) =>
 (.opt (sortE_w0 (p0, 0, [], ())) fun a =>
 (.ret (a.1, ())))
def sortE := fun x => (Zsx x).run
def sortE_L : List Lp := [
 .mk 3 (shO 60 [(3, .c (.mfull 1724))] [(1724, [])] [.slot 0 false (.sl zA9), sI 4, .ar 1724 false 43 zA9] [3]) ([exO (.exit 0) 60 [(3, .c (.mfull 1727))] [(1727, [])] [.ar 1727 false 43 zA9] [3]]) Zhm,
 .mk 6 (shO 60 [(3, .c (.mfull 1725))] [(1725, [])] [.slot 0 false (.sl zA9), sI 4, sI 5, .ar 1725 false 43 zA9] [3]) ([exO (.exit 2) 60 [(3, .c (.mfull 1726))] [(1726, [])] [.slot 0 false (.sl zA9), sI 4, sI 5, .ar 1726 false 43 zA9] [3]]) ZgQ,
 .mk 10 (shO 60 [(3, .c (.mfull 1059))] [(1059, [])] [.slot 0 false (.sl zA9), sI 4, sI 5, sI 6, .ar 1059 false 43 zA9] []) ([exO (.exit 4) 60 [(3, .c (.mfull 1059))] [(1059, [])] [.slot 0 false (.sl zA9), sI 4, sI 5, .ar 1059 false 43 zA9] []]) ZgO]
theorem ZpO : OC Tryz.prog 26 [(false, .ty false (.sl zA9))] [.ty false (.sl zA9)] sortE := OC.lp Zk9 1024 Tryz.func26 sortE_L (by kernel_rfl) ⟨fun _ => by kernel_rfl, fun _ => by kernel_rfl, fun _ => by kernel_rfl, trivial⟩ (fun _ => by kernel_rfl)
def cx_sortE : Ctx := ocx cx_beforeE ZpO
theorem Zqg : EnvFull Tryz.prog cx_sortE := ocn Zk9 ZpO
def Zj9 : ((List zA2) × (Int × Unit)) -> Br ((List zA2) × Unit) := fun (p0, p1, ()) =>
 (.opt (eventsR (p0, p1, ())) fun y4 =>
 (.opt (sortE (y4.1, ())) fun y5 =>
 (.ret (y5.1, ()))))
def events20 := fun x => (Zj9 x).run
theorem Zjn : OC Tryz.prog 9 [(false, .ty true (.sl zA9)), (false, .ty false (.int .i64))] [.ty false (.sl zA9)] events20 := OC.lp Zqg 1024 Tryz.func9 [] (by kernel_rfl) trivial (fun _ => by kernel_rfl)
def cx_events20 : Ctx := ocx cx_sortE Zjn
theorem Zjq : EnvFull Tryz.prog cx_events20 := ocn Zqg Zjn
def Zgm : ((List ByteArray) × (ByteArray × (Int × Unit))) -> Br (((List ByteArray) × (ByteArray × (Int × Unit))) ⊕ (Unit ⊕ Unit)) := fun (a, b, c, ()) =>
 (.cond (decide (c < (a.length : Int)))
 (.cond (decide (0 <= c) && decide (c < (a.length : Int)))
 (.cond (bl (List.getD a c.toNat ByteArray.empty) == bl b)
 (.ret (.inr (.inl (()))))
 (.ret (.inl (a, b, IntKind.wrap .i64 (c + 1), ()))))
 (.no))
 (.ret (.inr (.inr (())))))
def ofS_w0 := Zag fun x => (Zgm x).run
def ofS_B : ((List ByteArray) × (ByteArray × Unit)) -> Br (Bool × Unit) := fun (p0, p1, ()) =>
 (.opt (ofS_w0 (p0, p1, 0, ())) fun a =>
 (.sum a (fun b =>
 (.ret (true, ()))) (fun c =>
 (.ret (false, ())))))
def ofS := fun x => (ofS_B x).run
def ofS_L : List Lp := [
 .mk 2 (shO 18 [] [] [.slot 0 true (.sl .str), .slot 1 false .str, sI 5] []) ([exO .ret 18 [(4, D.c C.tt)] [] [] [], exO (.exit 0) 18 [] [] [] []]) Zgm]
theorem ofS_oc : OC Tryz.prog 51 [(false, .ty true (.sl .str)), (false, .ty false .str)] [.ty false .bool] ofS := OC.lp Zjq 1024 Tryz.func51 ofS_L (by kernel_rfl) ⟨fun _ => by kernel_rfl, trivial⟩ (fun _ => by kernel_rfl)
def cx_ofS : Ctx := ocx cx_events20 ofS_oc
theorem en_ofS : EnvFull Tryz.prog cx_ofS := ocn Zjq ofS_oc
def Zhb : (zA1 × (zA2 × (ZaK × Unit))) -> Br (Bool × Unit) := fun (p0, p1, p2, ()) =>
 (.opt (ofS (p0.2.1, p1.1, ())) fun y5 =>
 (.cond y5.1
 (.cond (decide ((@List.length (ByteArray × ByteArray × ByteArray × Int × Int × List (Int × Int × ByteArray × Bool)) (List.replicate 0 zV3) + List.length p2) * 88 <= 140737488355328))
 (.cond (decide ((List.length (List.replicate 0 zV3 ++ p2) + List.length (List.set (List.replicate 1 zV3) 0 (p0.1, p1))) * 88 <= 140737488355328))
 (.opt (holdsR (p0.2.2.2.2.2, List.replicate 0 zV3 ++ p2 ++ List.set (List.replicate 1 zV3) 0 (p0.1, p1), ())) fun y6 =>
 (.ret (y6.1, ())))
 (.no))
 (.no))
 (.ret (false, ()))))
def fits20 := fun x => (Zhb x).run
theorem ZmE : OC Tryz.prog 28 [(false, .ty true ZaU), (false, .ty true zA9), (false, .ty true Zb9)] [.ty false .bool] fits20 := OC.lp en_ofS 1024 Tryz.func28 [] (by kernel_rfl) trivial (fun _ => by kernel_rfl)
def cx_fits20 : Ctx := ocx cx_ofS ZmE
theorem Zml : EnvFull Tryz.prog cx_fits20 := ocn en_ofS ZmE
def Zg4 : (Int × ((Za5 × ((List zA2) × zA23)) × ((List Int) × Unit))) -> Br ((Int × ((Za5 × ((List zA2) × zA23)) × ((List Int) × Unit))) ⊕ ((Int × ((List Int) × Unit)) ⊕ ((List Int) × Unit))) := fun (a, b, c, ()) =>
 (.cond (decide (a < (b.1.1.length : Int)))
 (.cond (decide (0 <= a) && decide (a < (b.1.1.length : Int)))
 (.cond (!(b.1.1.getD a.toNat zV2).2.2.1)
 (.ret (.inr (.inl (a, c, ()))))
 (.cond (decide ((List.length c + List.length (List.set (List.replicate 1 0) 0 a)) * 8 <= 140737488355328))
 (.ret (.inl (IntKind.wrap .i64 (a + 1), b, c ++ List.set (List.replicate 1 0) 0 a, ())))
 (.no)))
 (.no))
 (.ret (.inr (.inr (c, ())))))
def nextF_w0 := Zag fun x => (Zg4 x).run
def Zso : ((Za5 × ((List zA2) × zA23)) × (Int × Unit)) -> Br ((Int × (List Int)) × Unit) := fun (p0, p1, ()) =>
 (.opt (nextF_w0 (IntKind.wrap .i64 (p1 + 1), p0, [], ())) fun a =>
 (.sum a (fun b =>
 (.ret ((b.1, b.2.1), ()))) (fun c =>
 (.ret ((-1, c.1), ())))))
def nextF := fun x => (Zso x).run
def nextF_L : List Lp := [
 .mk 3 (shO 34 [(2, .c (.ref 1026 0 0)), (6, .c (.mfull 1724))] [(1026, []), (1724, [])] [sI 7, .tv 1026 true (.st (.pair zA5 (.pair (.sl zA9) (.sl (.sl Zad))))), .ar 1724 false 3 (.int .i64)] [6]) ([exO .ret 34 [(5, .c (.mfull 1725))] [(1725, [])] [sI 4, .ar 1725 false 3 (.int .i64)] [5], exO (.exit 0) 34 [(6, .c (.mfull 1726))] [(1726, [])] [.ar 1726 false 3 (.int .i64)] [6]]) Zg4]
theorem Zpc : OC Tryz.prog 53 [(false, .ty true (.st (.pair zA5 (.pair (.sl zA9) (.sl (.sl Zad)))))), (false, .ty false (.int .i64))] [.ty false (.int .i64), .ty false (.sl (.int .i64))] nextF := OC.lp Zml 1024 Tryz.func53 nextF_L (by kernel_rfl) ⟨fun _ => by kernel_rfl, trivial⟩ (fun _ => by kernel_rfl)
def cx_nextF : Ctx := ocx cx_fits20 Zpc
theorem Zoq : EnvFull Tryz.prog cx_nextF := ocn Zml Zpc
def Zhh : ((List (Int × Int)) × zT2) -> Br (((List (Int × Int)) × zT2) ⊕ ((Bool × Unit) ⊕ ((List (Int × Int)) × zA31))) := fun (a, b, c, ()) =>
 (.cond (decide (c < (a.length : Int)))
 (.cond (decide (c < (b.length : Int)))
 (.cond (decide (0 <= c) && decide (c < (a.length : Int)))
 (.cond (decide (0 <= c) && decide (c < (b.length : Int)))
 (.cond ((a.getD c.toNat (0, 0)).1 != (b.getD c.toNat (0, 0)).1)
 (.cond (decide (0 <= c) && decide (c < (a.length : Int)))
 (.cond (decide (0 <= c) && decide (c < (b.length : Int)))
 (.ret (.inr (.inl (decide ((a.getD c.toNat (0, 0)).1 < (b.getD c.toNat (0, 0)).1), ()))))
 (.no))
 (.no))
 (.cond (decide (0 <= c) && decide (c < (a.length : Int)))
 (.cond (decide (0 <= c) && decide (c < (b.length : Int)))
 (.cond ((a.getD c.toNat (0, 0)).2 != (b.getD c.toNat (0, 0)).2)
 (.cond (decide (0 <= c) && decide (c < (a.length : Int)))
 (.cond (decide (0 <= c) && decide (c < (b.length : Int)))
 (.ret (.inr (.inl (decide ((a.getD c.toNat (0, 0)).2 < (b.getD c.toNat (0, 0)).2), ()))))
 (.no))
 (.no))
 (.ret (.inl (a, b, IntKind.wrap .i64 (c + 1), ()))))
 (.no))
 (.no)))
 (.no))
 (.no))
 (.ret (.inr (.inr (a, b, ())))))
 (.ret (.inr (.inr (a, b, ())))))
def lessP_w0 := Zag fun x => (Zhh x).run
def Zs3 : ((List (Int × Int)) × zA31) -> Br (Bool × Unit) := fun (p0, p1, ()) =>
 (.opt (lessP_w0 (p0, p1, 0, ())) fun a =>
 (.sum a (fun b =>
 (.ret (b.1, ()))) (fun c =>
 (.ret (decide ((c.1.length : Int) < (c.2.1.length : Int)), ())))))
def lessP := fun x => (Zs3 x).run
def lessP_L : List Lp := [
 .mk 2 (shO 67 [] [] [.slot 0 true (.sl Zad), .slot 1 true (.sl Zad), sI 5] []) ([exO .ret 67 [] [] [.slot 4 false .bool] [], exO (.exit 0) 67 [] [] [.slot 0 true (.sl Zad), .slot 1 true (.sl Zad)] []]) Zhh]
theorem Zpn : OC Tryz.prog 55 [(false, .ty true (.sl Zad)), (false, .ty true (.sl Zad))] [.ty false .bool] lessP := OC.lp Zoq 1024 Tryz.func55 lessP_L (by kernel_rfl) ⟨fun _ => by kernel_rfl, trivial⟩ (fun _ => by kernel_rfl)
def cx_lessP : Ctx := ocx cx_nextF Zpn
theorem Zo0 : EnvFull Tryz.prog cx_lessP := ocn Zoq Zpn
def Zhl : (zA23 × zT7) -> Br ((zA23 × zT7) ⊕ (zA23 × zT7)) := fun (a, b, c, d, ()) =>
 (.cond (decide (c > 0))
 (.cond (decide (0 <= b) && decide (b < (a.length : Int)))
 (.cond (decide (0 <= IntKind.wrap .i64 (c - 1)) && decide (IntKind.wrap .i64 (c - 1) < (d.length : Int)))
 (.opt (lessP (a.getD b.toNat [], List.getD d (Int.toNat (IntKind.wrap .i64 (c - 1))) [], ())) fun e =>
 (.cond e.1
 (.ret (.inl (a, b, IntKind.wrap .i64 (c - 1), d, ())))
 (.ret (.inr (a, b, c, d, ())))))
 (.no))
 (.no))
 (.ret (.inr (a, b, c, d, ()))))
def sortP_w1 := Zag fun x => (Zhl x).run
def ZgL : (zA23 × (Int × zT7)) -> Br ((zA23 × (Int × zT7)) ⊕ (zA23 × zT7)) := fun (a, b, c, d, e, ()) =>
 (.cond (decide (d > c))
 (.cond (decide (0 <= IntKind.wrap .i64 (d - 1)) && decide (IntKind.wrap .i64 (d - 1) < (e.length : Int)))
 (.cond (decide (0 <= d) && decide (d < (e.length : Int)))
 (.ret (.inl (a, b, c, IntKind.wrap .i64 (d - 1), List.set e d.toNat (List.getD e (Int.toNat (IntKind.wrap .i64 (d - 1))) []), ())))
 (.no))
 (.no))
 (.ret (.inr (a, b, c, e, ()))))
def sortP_w2 := Zag fun x => (ZgL x).run
def ZgW : (zA23 × (Int × (zA23 × Unit))) -> Br ((zA23 × (Int × (zA23 × Unit))) ⊕ (zA23 × Unit)) := fun (a, b, c, ()) =>
 (.cond (decide (b < (a.length : Int)))
 (.opt (sortP_w1 (a, b, (c.length : Int), c, ())) fun d =>
 (.cond (decide ((List.length d.2.2.2.1 + @List.length (List (Int × Int)) (List.set (List.replicate 1 []) 0 [])) * 24 <= 140737488355328))
 (.opt (sortP_w2 (d.1, d.2.1, d.2.2.1, IntKind.wrap .i64 ((↑(List.length (d.2.2.2.1 ++ List.set (List.replicate 1 []) 0 [])) : Int) - 1), d.2.2.2.1 ++ List.set (List.replicate 1 []) 0 [], ())) fun e =>
 (.cond (decide (0 <= e.2.1) && decide (e.2.1 < (e.1.length : Int)))
 (.cond (decide (0 <= e.2.2.1) && decide (e.2.2.1 < (e.2.2.2.1.length : Int)))
 (.ret (.inl (e.1, IntKind.wrap .i64 (e.2.1 + 1), List.set e.2.2.2.1 e.2.2.1.toNat (e.1.getD e.2.1.toNat []), ())))
 (.no))
 (.no)))
 (.no)))
 (.ret (.inr (c, ()))))
def sortP_w0 := Zag fun x => (ZgW x).run
def Zrx : (zA23 × Unit) -> Br (zA23 × Unit) := fun (p0, ()) =>
 (.opt (sortP_w0 (p0, 0, [], ())) fun a =>
 (.ret (a.1, ())))
def sortP := fun x => (Zrx x).run
def sortP_L : List Lp := [
 .mk 3 (shO 59 [(3, .c (.mfull 1724))] [(1724, [])] [.slot 0 false (.sl (.sl Zad)), sI 4, .ar 1724 false 49 (.sl Zad)] [3]) ([exO (.exit 0) 59 [(3, .c (.mfull 1727))] [(1727, [])] [.ar 1727 false 49 (.sl Zad)] [3]]) ZgW,
 .mk 6 (shO 59 [(3, .c (.mfull 1725))] [(1725, [])] [.slot 0 false (.sl (.sl Zad)), sI 4, sI 5, .ar 1725 false 49 (.sl Zad)] [3]) ([exO (.exit 2) 59 [(3, .c (.mfull 1726))] [(1726, [])] [.slot 0 false (.sl (.sl Zad)), sI 4, sI 5, .ar 1726 false 49 (.sl Zad)] [3]]) Zhl,
 .mk 10 (shO 59 [(3, .c (.mfull 1058))] [(1058, [])] [.slot 0 false (.sl (.sl Zad)), sI 4, sI 5, sI 6, .ar 1058 false 49 (.sl Zad)] []) ([exO (.exit 4) 59 [(3, .c (.mfull 1058))] [(1058, [])] [.slot 0 false (.sl (.sl Zad)), sI 4, sI 5, .ar 1058 false 49 (.sl Zad)] []]) ZgL]
theorem Zov : OC Tryz.prog 30 [(false, .ty false (.sl (.sl Zad)))] [.ty false (.sl (.sl Zad))] sortP := OC.lp Zo0 1024 Tryz.func30 sortP_L (by kernel_rfl) ⟨fun _ => by kernel_rfl, fun _ => by kernel_rfl, fun _ => by kernel_rfl, trivial⟩ (fun _ => by kernel_rfl)
def cx_sortP : Ctx := ocx cx_lessP Zov
theorem en_sortP : EnvFull Tryz.prog cx_sortP := ocn Zo0 Zov
def cx_again1 : Ctx := cx_sortP
theorem Zus : EnvFull Tryz.prog cx_again1 := (en_sortP)
def cx_idxEvA : Ctx := cx_again1
theorem ZuR : EnvFull Tryz.prog cx_idxEvA := (Zus)
def cx_againR : Ctx := cx_idxEvA
theorem ZfS : EnvFull Tryz.prog cx_againR := (ZuR)
end
end Go.Proofs.YtkbdofnbagmlfaaGreat
