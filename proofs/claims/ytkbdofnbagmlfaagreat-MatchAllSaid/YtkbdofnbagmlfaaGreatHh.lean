/- Contracts of functions. Printed by auto.py. Contracts of functions. Printed by auto.py. The context of law 23's other statement. Contracts of functions. Printed by auto.py. -/
import Derived.Test.YtkbdofnbagmlfaaGreatGe
import Derived.Test.YtkbdofnbagmlfaaGreatHg
import Derived.Test.YtkbdofnbagmlfaaGreatHa
import Derived.Test.YtkbdofnbagmlfaaGreatF1a
import Derived.Test.YtkbdofnbagmlfaaGreatF2a
namespace Go.Proofs.YtkbdofnbagmlfaaGreat
open Go.PI Go
noncomputable section
def cx_find1 : Ctx := cx_againR
theorem en_find1 : EnvFull Tryz.prog cx_find1 := ZfS
def cx_idxEvT : Ctx := cx_find1
theorem Zue : EnvFull Tryz.prog cx_idxEvT := en_find1
def cx_findT : Ctx := cx_idxEvT
theorem en_findT : EnvFull Tryz.prog cx_findT := Zue
def cx_envT : Ctx := cx_findT
theorem en_envT : EnvFull Tryz.prog cx_envT := en_findT
def cx_fitsT : Ctx := cx_envT
theorem en_fitsT : EnvFull Tryz.prog cx_fitsT := en_envT
end
end Go.Proofs.YtkbdofnbagmlfaaGreat

namespace Go.Proofs.YtkbdofnbagmlfaaGreat
open Go.PI Go
end Go.Proofs.YtkbdofnbagmlfaaGreat

namespace Go.Proofs.YtkbdofnbagmlfaaGreat
open Go.PI Go
noncomputable def cxF3 : Ctx := Zba cx_fitsT 10 (ZaV Zqy Zmw allM)
theorem enF3 : EnvFull Tryz.prog cxF3 := Zas en_fitsT allM_oc.callOk
noncomputable def cxF4 : Ctx := cxF3
theorem enF4 : EnvFull Tryz.prog cxF4 := enF3
end Go.Proofs.YtkbdofnbagmlfaaGreat

namespace Go.Proofs.YtkbdofnbagmlfaaGreat
open Go.PI Go
noncomputable section
def ZgZ : zT6 -> Br (zT6 ⊕ ((Int × Unit) ⊕ Unit)) := fun (a, b, c, ()) =>
 (.cond (decide (b < (c.1.length : Int)))
 (.cond (decide (a < (c.1.length : Int)))
 (.cond (decide (0 <= b) && decide (b < (c.1.length : Int)))
 (.cond (!(c.1.getD b.toNat zV2).2.2.1)
 (.ret (.inr (.inl (b, ()))))
 (.ret (.inl (a, IntKind.wrap .i64 (b + 1), c, ()))))
 (.no))
 (.ret (.inr (.inr (())))))
 (.ret (.inr (.inr (())))))
def nextT_w0 := Zag fun x => (ZgZ x).run
def Zry : (Za5 × (Int × Unit)) -> Br (Int × Unit) := fun (p0, p1, ()) =>
 (.opt (nextT_w0 (p1, if IntKind.wrap .i64 (p1 + 1) < 0 then 0 else IntKind.wrap .i64 (p1 + 1), p0, ())) fun a =>
 (.sum a (fun b =>
 (.ret (b.1, ()))) (fun c =>
 (.ret (-1, ())))))
def nextT := fun x => (Zry x).run
def nextT_L : List Lp := [
 .mk 2 (shO 31 [(2, .c (.ref 1026 0 0))] [(1026, [])] [sI 1, sI 5, .tv 1026 true zA5] []) ([exO .ret 31 [] [] [sI 4] [], exO (.exit 0) 31 [] [] [] []]) ZgZ]
theorem ZpW : OC Tryz.prog 87 [(false, .ty true zA5), (false, .ty false (.int .i64))] [.ty false (.int .i64)] nextT := OC.lp enF4 1024 Tryz.func87 nextT_L (by kernel_rfl) ⟨fun _ => by kernel_rfl, trivial⟩ (fun _ => by kernel_rfl)
def cx_nextT : Ctx := ocx cxF4 ZpW
theorem Zqd : EnvFull Tryz.prog cx_nextT := ocn enF4 ZpW
def Zho : (Int × (Int × (Za5 × ((List Int) × Unit)))) -> Br ((Int × (Int × (Za5 × ((List Int) × Unit)))) ⊕ ((List Int) × Unit)) := fun (a, b, c, d, ()) =>
 (.cond (decide (b < (c.1.length : Int)))
 (.cond (decide (a < (c.1.length : Int)))
 (.cond (decide (0 <= b) && decide (b < (c.1.length : Int)))
 (.cond (c.1.getD b.toNat zV2).2.2.1
 (.cond (decide ((List.length d + List.length (List.set (List.replicate 1 0) 0 b)) * 8 <= 140737488355328))
 (.ret (.inl (a, IntKind.wrap .i64 (b + 1), c, d ++ List.set (List.replicate 1 0) 0 b, ())))
 (.no))
 (.ret (.inr (d, ()))))
 (.no))
 (.ret (.inr (d, ()))))
 (.ret (.inr (d, ()))))
def betwT_w0 := Zag fun x => (Zho x).run
def Zst : (Za5 × (Int × Unit)) -> Br ((List Int) × Unit) := fun (p0, p1, ()) =>
 (.opt (betwT_w0 (p1, if IntKind.wrap .i64 (p1 + 1) < 0 then 0 else IntKind.wrap .i64 (p1 + 1), p0, [], ())) fun a =>
 (.ret (a.1, ())))
def betwT := fun x => (Zst x).run
def betwT_L : List Lp := [
 .mk 3 (shO 37 [(2, .c (.ref 1026 0 0)), (5, .c (.mfull 1724))] [(1026, []), (1724, [])] [sI 1, sI 6, .tv 1026 true zA5, .ar 1724 false 3 (.int .i64)] [5]) ([exO (.exit 0) 37 [(5, .c (.mfull 1725))] [(1725, [])] [.ar 1725 false 3 (.int .i64)] [5]]) Zho]
theorem Zqz : OC Tryz.prog 99 [(false, .ty true zA5), (false, .ty false (.int .i64))] [.ty false (.sl (.int .i64))] betwT := OC.lp Zqd 1024 Tryz.func99 betwT_L (by kernel_rfl) ⟨fun _ => by kernel_rfl, trivial⟩ (fun _ => by kernel_rfl)
def cx_betwT : Ctx := ocx cx_nextT Zqz
theorem ZoO : EnvFull Tryz.prog cx_betwT := ocn Zqd Zqz
def Zfy : ((List (Int × Int)) × zT2) -> Br (((List (Int × Int)) × zT2) ⊕ (Unit ⊕ Unit)) := fun (a, b, c, ()) =>
 (.cond (decide (c < (a.length : Int)))
 (.cond (decide (0 <= c) && decide (c < (a.length : Int)))
 (.cond (decide (0 <= c) && decide (c < (b.length : Int)))
 (.cond (!(decide ((a.getD c.toNat (0, 0)).1 = (b.getD c.toNat (0, 0)).1) && decide ((a.getD c.toNat (0, 0)).2 = (b.getD c.toNat (0, 0)).2)))
 (.ret (.inr (.inl (()))))
 (.ret (.inl (a, b, IntKind.wrap .i64 (c + 1), ()))))
 (.no))
 (.no))
 (.ret (.inr (.inr (())))))
def samePs_w0 := Zag fun x => (Zfy x).run
def ZjB : ((List (Int × Int)) × zA31) -> Br (Bool × Unit) := fun (p0, p1, ()) =>
 (.cond ((p0.length : Int) != (p1.length : Int))
 (.ret (false, ()))
 (.opt (samePs_w0 (p0, p1, 0, ())) fun a =>
 (.sum a (fun b =>
 (.ret (false, ()))) (fun c =>
 (.ret (true, ()))))))
def samePs := fun x => (ZjB x).run
def samePs_L : List Lp := [
 .mk 4 (shO 26 [] [] [.slot 0 true (.sl Zad), .slot 1 true (.sl Zad), sI 5] []) ([exO .ret 26 [(4, D.c C.ff)] [] [] [], exO (.exit 0) 26 [] [] [] []]) Zfy]
theorem Zmo : OC Tryz.prog 16 [(false, .ty true (.sl Zad)), (false, .ty true (.sl Zad))] [.ty false .bool] samePs := OC.lp ZoO 1024 Tryz.func16 samePs_L (by kernel_rfl) ⟨fun _ => by kernel_rfl, trivial⟩ (fun _ => by kernel_rfl)
def cx_samePs : Ctx := ocx cx_betwT Zmo
theorem Zmm : EnvFull Tryz.prog cx_samePs := ocn ZoO Zmo
def ZfQ : (zA23 × (zA23 × (Int × Unit))) -> Br ((zA23 × (zA23 × (Int × Unit))) ⊕ (Unit ⊕ Unit)) := fun (a, b, c, ()) =>
 (.cond (decide (c < (a.length : Int)))
 (.cond (decide (0 <= c) && decide (c < (a.length : Int)))
 (.cond (decide (0 <= c) && decide (c < (b.length : Int)))
 (.opt (samePs (a.getD c.toNat [], b.getD c.toNat [], ())) fun d =>
 (.cond (!d.1)
 (.ret (.inr (.inl (()))))
 (.ret (.inl (a, b, IntKind.wrap .i64 (c + 1), ())))))
 (.no))
 (.no))
 (.ret (.inr (.inr (())))))
def sameMs_w0 := Zag fun x => (ZfQ x).run
def Zp3 : (zA23 × (zA23 × Unit)) -> Br (Bool × Unit) := fun (p0, p1, ()) =>
 (.cond ((p0.length : Int) != (p1.length : Int))
 (.ret (false, ()))
 (.opt (sameMs_w0 (p0, p1, 0, ())) fun a =>
 (.sum a (fun b =>
 (.ret (false, ()))) (fun c =>
 (.ret (true, ()))))))
def sameMs := fun x => (Zp3 x).run
def sameMs_L : List Lp := [
 .mk 4 (shO 27 [] [] [.slot 0 true (.sl (.sl Zad)), .slot 1 true (.sl (.sl Zad)), sI 5] []) ([exO .ret 27 [(4, D.c C.ff)] [] [] [], exO (.exit 0) 27 [] [] [] []]) ZfQ]
theorem Znk : OC Tryz.prog 13 [(false, .ty true (.sl (.sl Zad))), (false, .ty true (.sl (.sl Zad)))] [.ty false .bool] sameMs := OC.lp Zmm 1024 Tryz.func13 sameMs_L (by kernel_rfl) ⟨fun _ => by kernel_rfl, trivial⟩ (fun _ => by kernel_rfl)
def cx_sameMs : Ctx := ocx cx_samePs Znk
theorem Zt8 : EnvFull Tryz.prog cx_sameMs := ocn Zmm Znk
end
end Go.Proofs.YtkbdofnbagmlfaaGreat
