/- Contracts of functions. Printed by auto.py. -/
import Derived.Test.YtkbdofnbagmlfaaGreatGe
import Derived.Test.YtkbdofnbagmlfaaGreatHg
import Derived.Test.YtkbdofnbagmlfaaGreatHa
import Derived.Test.YtkbdofnbagmlfaaGreatF1a
namespace Go.Proofs.YtkbdofnbagmlfaaGreat
set_option maxRecDepth 100000
open Go.PI Go
noncomputable section
abbrev Zb0 : List (Bool × Pat) := [(false, (.two (.ty false zA5) (.two (.ty false (.sl zA9)) (.row 49 (.sl Zad))))), (false, .ty false (.int .i64)), (false, .ty false (.sl (.int .i64))), (false, .ty false (.sl Zad)), (false, .ty false Zce), (false, .ty false (.int .i64)), (false, .ty false (.int .i64))]
abbrev ZbZ : List (Bool × Pat) := [(false, (.two (.ty false zA5) (.two (.ty false (.sl zA9)) (.row 49 (.sl Zad))))), (false, .ty false (.int .i64)), (false, .ty false (.int .i64)), (false, .ty false (.sl Zad)), (false, .ty false Zce), (false, .ty false (.int .i64)), (false, .ty false (.int .i64))]
def Zfv (G_elemF : zB2 -> Option zB3) (G_crossF : zB1 -> Option zB3) : (Int × (Int × zB4)) -> Br ((Int × (Int × zB4)) ⊕ zB6) := fun (a, b, c, d, e, f, g, h, i, j, k, l, m, n, ()) =>
 (.cond (decide (f < (j.length : Int)))
 (.cond (decide (0 <= f) && decide (f < (j.length : Int)))
 (.cond (decide (IntKind.wrap .i64 ((j.getD f.toNat zV1).2.2.1 - e) > h))
 (.ret (.inl (a, b, c, d, e, IntKind.wrap .i64 (f + 1), g, h, i, j, k, l, m, n, ())))
 (.opt (fits20 (m, j.getD f.toNat zV1, d, ())) fun o =>
 (.cond (!o.1)
 (.ret (.inl (a, b, c, d, e, IntKind.wrap .i64 (f + 1), g, h, i, j, k, l, m, n, ())))
 (.cond (m.2.2.2.2.1 == 1)
 (.cond (decide ((@List.length (ByteArray × ByteArray × ByteArray × Int × Int × List (Int × Int × ByteArray × Bool)) (List.replicate 0 zV3) + List.length d) * 88 <= 140737488355328))
 (.cond (decide ((List.length (List.replicate 0 zV3 ++ d) + List.length (List.set (List.replicate 1 zV3) 0 (m.1, j.getD f.toNat zV1))) * 88 <= 140737488355328))
 (.cond (decide ((List.length (List.replicate 0 (0, 0)) + List.length c) * 16 <= 140737488355328))
 (.cond (decide ((List.length (List.replicate 0 (0, 0) ++ c) + List.length (List.set (List.replicate 1 (0, 0)) 0 (a, (j.getD f.toNat zV1).2.2.2.1))) * 16 <= 140737488355328))
 (.opt (G_elemF (((g, h, i), j, n), a, IntKind.wrap .i64 (b + 1), List.replicate 0 (0, 0) ++ c ++ List.set (List.replicate 1 (0, 0)) 0 (a, (j.getD f.toNat zV1).2.2.2.1), List.replicate 0 zV3 ++ d ++ List.set (List.replicate 1 zV3) 0 (m.1, j.getD f.toNat zV1), e, IntKind.wrap .i64 (f + 1), ())) fun p =>
 (.ret (.inl (a, b, c, d, e, IntKind.wrap .i64 (f + 1), p.1.1.1, p.1.1.2.1, p.1.1.2.2, p.1.2.1, k, l, m, p.1.2.2, ()))))
 (.no))
 (.no))
 (.no))
 (.no))
 (.cond (decide ((List.length (List.replicate 0 (0, 0)) + List.length c) * 16 <= 140737488355328))
 (.cond (decide ((List.length (List.replicate 0 (0, 0) ++ c) + List.length (List.set (List.replicate 1 (0, 0)) 0 (a, (j.getD f.toNat zV1).2.2.2.1))) * 16 <= 140737488355328))
 (.opt (G_elemF (((g, h, i), j, n), a, IntKind.wrap .i64 (b + 1), List.replicate 0 (0, 0) ++ c ++ List.set (List.replicate 1 (0, 0)) 0 (a, (j.getD f.toNat zV1).2.2.2.1), d, e, IntKind.wrap .i64 (f + 1), ())) fun q =>
 (.ret (.inl (a, b, c, d, e, IntKind.wrap .i64 (f + 1), q.1.1.1, q.1.1.2.1, q.1.1.2.2, q.1.2.1, k, l, m, q.1.2.2, ()))))
 (.no))
 (.no))))))
 (.no))
 (.ret (.inr (g, h, i, j, k, l, n, ()))))
def Zde (G_elemF : zB2 -> Option zB3) (G_crossF : zB1 -> Option zB3) : (Int × (Int × zB4)) -> Option zB6 := Zag fun x => ((Zfv G_elemF G_crossF) x).run
def Zib (G_elemF : zB2 -> Option zB3) (G_crossF : zB1 -> Option zB3) : zB2 -> Br zB3 := fun (p0, p1, p2, p3, p4, p5, p6, ()) =>
 (.cond (decide (0 <= p1) && decide (p1 < (p0.1.1.length : Int)))
 (.cond (decide (p2 >= (p0.1.1.getD p1.toNat zV2).2.2.2.1))
 (.opt (nextF (((p0.1.1, p0.1.2.1, p0.1.2.2), p0.2.1, p0.2.2), p1, ())) fun a =>
 (.cond (decide (a.1.1 < 0))
 (.cond (decide ((List.length (List.replicate 0 (0, 0)) + List.length p3) * 16 <= 140737488355328))
 (.cond (decide ((List.length p0.2.2 + List.length (List.set (List.replicate 1 []) 0 (List.replicate 0 (0, 0) ++ p3))) * 24 <= 140737488355328))
 (.cond (decide (p2 >= (p0.1.1.getD p1.toNat zV2).2.2.2.2.1))
 (.ret (((p0.1.1, p0.1.2.1, p0.1.2.2), p0.2.1, p0.2.2 ++ List.set (List.replicate 1 []) 0 (List.replicate 0 (0, 0) ++ p3)), ()))
 (.opt ((Zde G_elemF G_crossF) (p1, p2, p3, p4, p5, p6, p0.1.1, p0.1.2.1, p0.1.2.2, p0.2.1, 0, 0, p0.1.1.getD p1.toNat zV2, p0.2.2 ++ List.set (List.replicate 1 []) 0 (List.replicate 0 (0, 0) ++ p3), ())) fun b =>
 (.ret (((b.1, b.2.1, b.2.2.1), b.2.2.2.1, b.2.2.2.2.2.2.1), ()))))
 (.no))
 (.no))
 (.opt (G_crossF (((p0.1.1, p0.1.2.1, p0.1.2.2), p0.2.1, p0.2.2), a.1.1, a.1.2, p3, p4, p5, p6, ())) fun c =>
 (.cond (decide (p2 >= (p0.1.1.getD p1.toNat zV2).2.2.2.2.1))
 (.ret (((c.1.1.1, c.1.1.2.1, c.1.1.2.2), c.1.2.1, c.1.2.2), ()))
 (.opt ((Zde G_elemF G_crossF) (p1, p2, p3, p4, p5, p6, c.1.1.1, c.1.1.2.1, c.1.1.2.2, c.1.2.1, 0, 0, p0.1.1.getD p1.toNat zV2, c.1.2.2, ())) fun d =>
 (.ret (((d.1, d.2.1, d.2.2.1), d.2.2.2.1, d.2.2.2.2.2.2.1), ())))))))
 (.cond (decide (p2 >= (p0.1.1.getD p1.toNat zV2).2.2.2.2.1))
 (.ret (((p0.1.1, p0.1.2.1, p0.1.2.2), p0.2.1, p0.2.2), ()))
 (.opt ((Zde G_elemF G_crossF) (p1, p2, p3, p4, p5, p6, p0.1.1, p0.1.2.1, p0.1.2.2, p0.2.1, 0, 0, p0.1.1.getD p1.toNat zV2, p0.2.2, ())) fun e =>
 (.ret (((e.1, e.2.1, e.2.2.1), e.2.2.2.1, e.2.2.2.2.2.2.1), ())))))
 (.no))
def elemF (G_elemF : zB2 -> Option zB3) (G_crossF : zB1 -> Option zB3) : zB2 -> Option zB3 := fun x => ((Zib G_elemF G_crossF) x).run
abbrev ZfQ : List (Bool × Pat) := ZbZ
abbrev Zlx : List Pat := [(.two (.ty false zA5) (.two (.ty false (.sl zA9)) (.row 49 (.sl Zad))))]
abbrev ZrH : Func := Tryz.f29
abbrev ZlI : Program := Tryz.prog
abbrev ZjS : List Nat := ZdU ZfQ
abbrev ZcS : List Nat := kfOf ZfQ
def ZlE (G_elemF : zB2 -> Option zB3) (G_crossF : zB1 -> Option zB3) : Ctx := { (Zba (Zba cx_againR 29 (ZaW ZbZ [(.two (.ty false zA5) (.two (.ty false (.sl zA9)) (.row 49 (.sl Zad))))] G_elemF)) 54 (ZaW Zb0 [(.two (.ty false zA5) (.two (.ty false (.sl zA9)) (.row 49 (.sl Zad))))] G_crossF)) with base := 1024 }
theorem Zma (G_elemF : zB2 -> Option zB3) (G_crossF : zB1 -> Option zB3) (H_elemF : OC Tryz.prog 29 ZbZ [(.two (.ty false zA5) (.two (.ty false (.sl zA9)) (.row 49 (.sl Zad))))] G_elemF) (H_crossF : OC Tryz.prog 54 Zb0 [(.two (.ty false zA5) (.two (.ty false (.sl zA9)) (.row 49 (.sl Zad))))] G_crossF) : EnvFull ZlI (ZlE G_elemF G_crossF) := Zcv ((Zas (Zas ZfR (OC.callOk H_elemF)) (OC.callOk H_crossF))) 1024
abbrev Zg5 : List Hole := [.slot 1 false (.int .i64), .slot 2 false (.int .i64), .slot 3 false (.sl Zad), .slot 4 false Zce, .slot 5 false (.int .i64), .slot 18 false (.int .i64), .cell 1031 0 false (.sl ZaU), .cell 1031 1 false (.int .i64), .cell 1031 2 false (.int .i64), .cell 1031 3 false (.sl zA9), .cell 1038 1 false (.int .i64), .cell 1038 2 false (.int .i64), .tv 1039 false ZaU, .ar 1724 false 49 (.sl Zad)]
def Zhb : Skel := ⟨120, [(7, D.c (C.ref 1031 0 0)), (14, D.c (C.ref 1038 0 0)), (15, D.c (C.ref 1039 0 0))], [(1031, [.bad, .bad, .bad, .bad, (.mfull 1724)]), (1038, [C.nils, .bad, .bad, C.nils, C.nils]), (1039, []), (1724, [])]⟩
abbrev Zkz : List Hole := [.cell 1031 0 false (.sl ZaU), .cell 1031 1 false (.int .i64), .cell 1031 2 false (.int .i64), .cell 1031 3 false (.sl zA9), .cell 1038 1 false (.int .i64), .cell 1038 2 false (.int .i64), .ar 1725 false 49 (.sl Zad)]
def ZkH : Skel := ⟨120, [(7, D.c (C.ref 1031 0 0)), (14, D.c (C.ref 1038 0 0))], [(1031, [.bad, .bad, .bad, .bad, (.mfull 1725)]), (1038, [C.nils, .bad, .bad, C.nils, C.nils]), (1725, [])]⟩
def ZjB : Exit -> Shape
 | .normal => ⟨[(1, .as false (.int .i64)), (2, .as false (.int .i64)), (3, .as false (.sl Zad)), (4, .as false Zce), (5, .as false (.int .i64)), (7, .keep), (14, .keep), (15, .keep), (18, .as false (.int .i64))], [(7, 0, .as false (.sl ZaU)), (7, 1, .as false (.int .i64)), (7, 2, .as false (.int .i64)), (7, 3, .as false (.sl zA9)), (7, 4, .row 700 false 49 (.sl Zad)), (14, 1, .as false (.int .i64)), (14, 2, .as false (.int .i64))], [(7, false), (14, false), (15, false), (700, false)]⟩
 | .exit 0 => ⟨[(7, .keep), (14, .keep)], [(7, 0, .as false (.sl ZaU)), (7, 1, .as false (.int .i64)), (7, 2, .as false (.int .i64)), (7, 3, .as false (.sl zA9)), (7, 4, .row 701 false 49 (.sl Zad)), (14, 1, .as false (.int .i64)), (14, 2, .as false (.int .i64))], [(7, false), (14, false), (701, false)]⟩
 | _ => ⟨[], [], []⟩
def Zpm : zB6 -> Exit × St
 | u => (.exit 0, ZkH.fillK ZcS Zkz u)
def ZoB : zB6 -> Br (Exit × St) := fun u => .ret (.exit 0, ZkH.fillK ZcS Zkz u)
def elemF_C0 : Code := Zfp 0 (Za8 ZrH)
def ZqA (G_elemF : zB2 -> Option zB3) (G_crossF : zB1 -> Option zB3) : St -> Br (Exit × St) := Zg7 ZjS ZcS 1024 (ZjB .normal) (Zhb.parseK ZcS Zg5) fun x => .opt ((Zde G_elemF G_crossF) x) ZoB
def Zh4 (G_elemF : zB2 -> Option zB3) (G_crossF : zB1 -> Option zB3) : Par := { sh := fun _ => none, k := 0, lo := fun i => bif Nat.beq i 10 then some (ZqA G_elemF G_crossF) else none }
theorem elemF_r0 (G_elemF : zB2 -> Option zB3) (G_crossF : zB1 -> Option zB3) (a : Int) (b : Int) (c : (List (Int × Int))) (d : ZaK) (e : Int) (f : Int) (g : (List zA1)) (h : Int) (i : Int) (j : (List zA2)) (k : Int) (l : Int) (m : zA1) (n : zA23) : Zeo ZjS ZcS (ZlE G_elemF G_crossF) (Zh4 G_elemF G_crossF) ZjB elemF_C0 (Zhb.fillK ZcS Zg5 (a, b, c, d, e, f, g, h, i, j, k, l, m, n, ())) = ((Zfv G_elemF G_crossF) (a, b, c, d, e, f, g, h, i, j, k, l, m, n, ())).bind (ZcN (fun x => Zhb.fillK ZcS Zg5 x) Zpm) := by kernel_rfl
theorem Zub (G_elemF : zB2 -> Option zB3) (G_crossF : zB1 -> Option zB3) (H_elemF : OC Tryz.prog 29 ZbZ [(.two (.ty false zA5) (.two (.ty false (.sl zA9)) (.row 49 (.sl Zad))))] G_elemF) (H_crossF : OC Tryz.prog 54 Zb0 [(.two (.ty false zA5) (.two (.ty false (.sl zA9)) (.row 49 (.sl Zad))))] G_crossF) (g : Cfg) (hg : ∀ n, Go.PI.look n g.m0 ≠ Option.none -> n ∈ ZjS) : ZaL ZlI g (ZqA G_elemF G_crossF) elemF_C0 := ZaL.auto (Zma G_elemF G_crossF H_elemF H_crossF) hg (Zh4 G_elemF G_crossF) (ZaB.of (l := []) (by kernel_rfl) .nil) ZjB (fun x => Zhb.fillK ZcS Zg5 x) (fun s x h => Skel.parseK_ok s x h) (Zfv G_elemF G_crossF) Zpm (fun _ h => by cases h) ZoB (fun _ => rfl) (fun (a, b, c, d, e, f, i, j, k, m, o, p, q, r, ()) => (elemF_r0 G_elemF G_crossF) a b c d e f i j k m o p q r)
theorem elemF_eq (G_elemF : zB2 -> Option zB3) (G_crossF : zB1 -> Option zB3) (p0 : (Za5 × ((List zA2) × zA23))) (p1 : Int) (p2 : Int) (p3 : (List (Int × Int))) (p4 : ZaK) (p5 : Int) (p6 : Int) : Zia (ZlE G_elemF G_crossF) (Zh4 G_elemF G_crossF) ZrH ZfQ Zlx (p0, p1, p2, p3, p4, p5, p6, ()) = (Zib G_elemF G_crossF) (p0, p1, p2, p3, p4, p5, p6, ()) := by kernel_rfl
theorem elemF_oc (G_elemF : zB2 -> Option zB3) (G_crossF : zB1 -> Option zB3) (H_elemF : OC Tryz.prog 29 ZbZ [(.two (.ty false zA5) (.two (.ty false (.sl zA9)) (.row 49 (.sl Zad))))] G_elemF) (H_crossF : OC Tryz.prog 54 Zb0 [(.two (.ty false zA5) (.two (.ty false (.sl zA9)) (.row 49 (.sl Zad))))] G_crossF) : OC ZlI 29 ZfQ Zlx (elemF G_elemF G_crossF) := OC.of_tree (Zma G_elemF G_crossF H_elemF H_crossF) Tryz.func29 (by kernel_rfl) (by kernel_rfl) (p := (Zh4 G_elemF G_crossF)) (fun g hg => ZaB.of (l := [elemF_C0]) (by kernel_rfl) (.cons ((Zub G_elemF G_crossF H_elemF H_crossF) g hg) (by kernel_rfl) .nil)) (fun (p0, p1, p2, p3, p4, p5, p6, ()) => (elemF_eq G_elemF G_crossF) p0 p1 p2 p3 p4 p5 p6)
def Zem : (Int × ((List Int) × ((List (Int × Int)) × (ZaK × (Int × (Int × (Int × ((List zA1) × (Int × (Int × ((List zA2) × (Int × (Int × (zA1 × (zA2 × (zA23 × Unit)))))))))))))))) -> Br ((Int × ((List Int) × ((List (Int × Int)) × (ZaK × (Int × (Int × (Int × ((List zA1) × (Int × (Int × ((List zA2) × (Int × (Int × (zA1 × (zA2 × (zA23 × Unit)))))))))))))))) ⊕ (zB5 ⊕ (Int × ((List Int) × zB4)))) := fun (a, b, c, d, e, f, g, h, i, j, k, l, m, n, o, p, ()) =>
 (.cond (decide (g < (b.length : Int)))
 (.cond (decide (0 <= g) && decide (g < (b.length : Int)))
 (.cond (decide (0 <= b.getD g.toNat 0) && decide (b.getD g.toNat 0 < (h.length : Int)))
 (.opt (fits20 (List.getD h (Int.toNat (b.getD g.toNat 0)) zV2, o, d, ())) fun q =>
 (.cond q.1
 (.ret (.inr (.inl (h, i, j, k, p, ()))))
 (.ret (.inl (a, b, c, d, e, f, IntKind.wrap .i64 (g + 1), h, i, j, k, l, m, n, o, p, ())))))
 (.no))
 (.no))
 (.ret (.inr (.inr (a, b, c, d, e, f, h, i, j, k, l, m, n, p, ())))))
def crossF_w1 := Zag fun x => (Zem x).run
def Zev (G_elemF : zB2 -> Option zB3) (G_crossF : zB1 -> Option zB3) : (Int × ((List Int) × zB4)) -> Br ((Int × ((List Int) × zB4)) ⊕ (zB5 ⊕ zB6)) := fun (a, b, c, d, e, f, g, h, i, j, k, l, m, n, ()) =>
 (.cond (decide (f < (j.length : Int)))
 (.cond (decide (0 <= f) && decide (f < (j.length : Int)))
 (.cond (decide (IntKind.wrap .i64 ((j.getD f.toNat zV1).2.2.1 - e) <= h))
 (.opt (fits20 (m, j.getD f.toNat zV1, d, ())) fun o =>
 (.cond o.1
 (.cond (m.2.2.2.2.1 == 1)
 (.cond (decide ((@List.length (ByteArray × ByteArray × ByteArray × Int × Int × List (Int × Int × ByteArray × Bool)) (List.replicate 0 zV3) + List.length d) * 88 <= 140737488355328))
 (.cond (decide ((List.length (List.replicate 0 zV3 ++ d) + List.length (List.set (List.replicate 1 zV3) 0 (m.1, j.getD f.toNat zV1))) * 88 <= 140737488355328))
 (.cond (decide ((List.length (List.replicate 0 (0, 0)) + List.length c) * 16 <= 140737488355328))
 (.cond (decide ((List.length (List.replicate 0 (0, 0) ++ c) + List.length (List.set (List.replicate 1 (0, 0)) 0 (a, (j.getD f.toNat zV1).2.2.2.1))) * 16 <= 140737488355328))
 (.opt (G_elemF (((g, h, i), j, n), a, 1, List.replicate 0 (0, 0) ++ c ++ List.set (List.replicate 1 (0, 0)) 0 (a, (j.getD f.toNat zV1).2.2.2.1), List.replicate 0 zV3 ++ d ++ List.set (List.replicate 1 zV3) 0 (m.1, j.getD f.toNat zV1), e, IntKind.wrap .i64 (f + 1), ())) fun p =>
 (.opt (crossF_w1 (a, b, c, d, e, f, 0, p.1.1.1, p.1.1.2.1, p.1.1.2.2, p.1.2.1, k, l, m, j.getD f.toNat zV1, p.1.2.2, ())) fun q =>
 (.sum q (fun r =>
 (.ret (.inr (.inl (r.1, r.2.1, r.2.2.1, r.2.2.2.1, r.2.2.2.2.1, ()))))) (fun s =>
 (.ret (.inl (s.1, s.2.1, s.2.2.1, s.2.2.2.1, s.2.2.2.2.1, IntKind.wrap .i64 (s.2.2.2.2.2.1 + 1), s.2.2.2.2.2.2.1, s.2.2.2.2.2.2.2.1, s.2.2.2.2.2.2.2.2.1, s.2.2.2.2.2.2.2.2.2.1, s.2.2.2.2.2.2.2.2.2.2.1, s.2.2.2.2.2.2.2.2.2.2.2.1, s.2.2.2.2.2.2.2.2.2.2.2.2.1, s.2.2.2.2.2.2.2.2.2.2.2.2.2.1, ())))))))
 (.no))
 (.no))
 (.no))
 (.no))
 (.cond (decide ((List.length (List.replicate 0 (0, 0)) + List.length c) * 16 <= 140737488355328))
 (.cond (decide ((List.length (List.replicate 0 (0, 0) ++ c) + List.length (List.set (List.replicate 1 (0, 0)) 0 (a, (j.getD f.toNat zV1).2.2.2.1))) * 16 <= 140737488355328))
 (.opt (G_elemF (((g, h, i), j, n), a, 1, List.replicate 0 (0, 0) ++ c ++ List.set (List.replicate 1 (0, 0)) 0 (a, (j.getD f.toNat zV1).2.2.2.1), d, e, IntKind.wrap .i64 (f + 1), ())) fun t =>
 (.opt (crossF_w1 (a, b, c, d, e, f, 0, t.1.1.1, t.1.1.2.1, t.1.1.2.2, t.1.2.1, k, l, m, j.getD f.toNat zV1, t.1.2.2, ())) fun u =>
 (.sum u (fun v =>
 (.ret (.inr (.inl (v.1, v.2.1, v.2.2.1, v.2.2.2.1, v.2.2.2.2.1, ()))))) (fun w =>
 (.ret (.inl (w.1, w.2.1, w.2.2.1, w.2.2.2.1, w.2.2.2.2.1, IntKind.wrap .i64 (w.2.2.2.2.2.1 + 1), w.2.2.2.2.2.2.1, w.2.2.2.2.2.2.2.1, w.2.2.2.2.2.2.2.2.1, w.2.2.2.2.2.2.2.2.2.1, w.2.2.2.2.2.2.2.2.2.2.1, w.2.2.2.2.2.2.2.2.2.2.2.1, w.2.2.2.2.2.2.2.2.2.2.2.2.1, w.2.2.2.2.2.2.2.2.2.2.2.2.2.1, ())))))))
 (.no))
 (.no)))
 (.opt (crossF_w1 (a, b, c, d, e, f, 0, g, h, i, j, k, l, m, j.getD f.toNat zV1, n, ())) fun x =>
 (.sum x (fun y =>
 (.ret (.inr (.inl (y.1, y.2.1, y.2.2.1, y.2.2.2.1, y.2.2.2.2.1, ()))))) (fun z =>
 (.ret (.inl (z.1, z.2.1, z.2.2.1, z.2.2.2.1, z.2.2.2.2.1, IntKind.wrap .i64 (z.2.2.2.2.2.1 + 1), z.2.2.2.2.2.2.1, z.2.2.2.2.2.2.2.1, z.2.2.2.2.2.2.2.2.1, z.2.2.2.2.2.2.2.2.2.1, z.2.2.2.2.2.2.2.2.2.2.1, z.2.2.2.2.2.2.2.2.2.2.2.1, z.2.2.2.2.2.2.2.2.2.2.2.2.1, z.2.2.2.2.2.2.2.2.2.2.2.2.2.1, ()))))))))
 (.opt (crossF_w1 (a, b, c, d, e, f, 0, g, h, i, j, k, l, m, j.getD f.toNat zV1, n, ())) fun aa =>
 (.sum aa (fun ab =>
 (.ret (.inr (.inl (ab.1, ab.2.1, ab.2.2.1, ab.2.2.2.1, ab.2.2.2.2.1, ()))))) (fun ac =>
 (.ret (.inl (ac.1, ac.2.1, ac.2.2.1, ac.2.2.2.1, ac.2.2.2.2.1, IntKind.wrap .i64 (ac.2.2.2.2.2.1 + 1), ac.2.2.2.2.2.2.1, ac.2.2.2.2.2.2.2.1, ac.2.2.2.2.2.2.2.2.1, ac.2.2.2.2.2.2.2.2.2.1, ac.2.2.2.2.2.2.2.2.2.2.1, ac.2.2.2.2.2.2.2.2.2.2.2.1, ac.2.2.2.2.2.2.2.2.2.2.2.2.1, ac.2.2.2.2.2.2.2.2.2.2.2.2.2.1, ())))))))
 (.no))
 (.ret (.inr (.inr (g, h, i, j, k, l, n, ())))))
def ZhP (G_elemF : zB2 -> Option zB3) (G_crossF : zB1 -> Option zB3) : (Int × ((List Int) × zB4)) -> Option (zB5 ⊕ zB6) := Zag fun x => ((Zev G_elemF G_crossF) x).run
def ZgP (G_elemF : zB2 -> Option zB3) (G_crossF : zB1 -> Option zB3) : zB1 -> Br zB3 := fun (p0, p1, p2, p3, p4, p5, p6, ()) =>
 (.cond (decide (0 <= p1) && decide (p1 < (p0.1.1.length : Int)))
 (.opt ((ZhP G_elemF G_crossF) (p1, p2, p3, p4, p5, p6, p0.1.1, p0.1.2.1, p0.1.2.2, p0.2.1, 0, 0, p0.1.1.getD p1.toNat zV2, p0.2.2, ())) fun a =>
 (.sum a (fun b =>
 (.ret (((b.1, b.2.1, b.2.2.1), b.2.2.2.1, b.2.2.2.2.1), ()))) (fun c =>
 (.ret (((c.1, c.2.1, c.2.2.1), c.2.2.2.1, c.2.2.2.2.2.2.1), ())))))
 (.no))
def crossF (G_elemF : zB2 -> Option zB3) (G_crossF : zB1 -> Option zB3) : zB1 -> Option zB3 := fun x => ((ZgP G_elemF G_crossF) x).run
abbrev ZeV : List (Bool × Pat) := Zb0
abbrev ZiD : List Pat := [(.two (.ty false zA5) (.two (.ty false (.sl zA9)) (.row 49 (.sl Zad))))]
abbrev ZjL : Func := Tryz.f54
abbrev ZgF : Program := Tryz.prog
abbrev Zdm : List Nat := ZdU ZeV
abbrev ZaD : List Nat := kfOf ZeV
def ZgC (G_elemF : zB2 -> Option zB3) (G_crossF : zB1 -> Option zB3) : Ctx := { (Zba (Zba cx_againR 29 (ZaW ZbZ [(.two (.ty false zA5) (.two (.ty false (.sl zA9)) (.row 49 (.sl Zad))))] G_elemF)) 54 (ZaW Zb0 [(.two (.ty false zA5) (.two (.ty false (.sl zA9)) (.row 49 (.sl Zad))))] G_crossF)) with base := 1024 }
theorem ZgR (G_elemF : zB2 -> Option zB3) (G_crossF : zB1 -> Option zB3) (H_elemF : OC Tryz.prog 29 ZbZ [(.two (.ty false zA5) (.two (.ty false (.sl zA9)) (.row 49 (.sl Zad))))] G_elemF) (H_crossF : OC Tryz.prog 54 Zb0 [(.two (.ty false zA5) (.two (.ty false (.sl zA9)) (.row 49 (.sl Zad))))] G_crossF) : EnvFull ZgF (ZgC G_elemF G_crossF) := Zcv ((Zas (Zas ZfR (OC.callOk H_elemF)) (OC.callOk H_crossF))) 1024
abbrev Zf2 : List Hole := [.slot 1 false (.int .i64), .slot 2 false (.sl (.int .i64)), .slot 3 false (.sl Zad), .slot 4 false Zce, .slot 5 false (.int .i64), .slot 16 false (.int .i64), .slot 19 false (.int .i64), .cell 1031 0 false (.sl ZaU), .cell 1031 1 false (.int .i64), .cell 1031 2 false (.int .i64), .cell 1031 3 false (.sl zA9), .cell 1038 1 false (.int .i64), .cell 1038 2 false (.int .i64), .tv 1039 false ZaU, .tv 1041 false zA9, .ar 1724 false 49 (.sl Zad)]
def ZfN : Skel := ⟨102, [(7, D.c (C.ref 1031 0 0)), (14, D.c (C.ref 1038 0 0)), (15, D.c (C.ref 1039 0 0)), (17, D.c (C.ref 1041 0 0))], [(1031, [.bad, .bad, .bad, .bad, (.mfull 1724)]), (1038, [C.nils, .bad, .bad, C.nils, C.nils]), (1039, []), (1041, []), (1724, [])]⟩
abbrev ZiB : List Hole := [.cell 1038 0 false (.sl ZaU), .cell 1038 1 false (.int .i64), .cell 1038 2 false (.int .i64), .cell 1038 3 false (.sl zA9), .ar 1725 false 49 (.sl Zad)]
def ZiJ : Skel := ⟨102, [(14, D.c (C.ref 1038 0 0))], [(1038, [.bad, .bad, .bad, .bad, (.mfull 1725)]), (1725, [])]⟩
abbrev ZiZ : List Hole := [.slot 1 false (.int .i64), .slot 2 false (.sl (.int .i64)), .slot 3 false (.sl Zad), .slot 4 false Zce, .slot 5 false (.int .i64), .slot 16 false (.int .i64), .cell 1031 0 false (.sl ZaU), .cell 1031 1 false (.int .i64), .cell 1031 2 false (.int .i64), .cell 1031 3 false (.sl zA9), .cell 1038 1 false (.int .i64), .cell 1038 2 false (.int .i64), .tv 1039 false ZaU, .ar 1726 false 49 (.sl Zad)]
def ZiE : Skel := ⟨102, [(7, D.c (C.ref 1031 0 0)), (14, D.c (C.ref 1038 0 0)), (15, D.c (C.ref 1039 0 0))], [(1031, [.bad, .bad, .bad, .bad, (.mfull 1726)]), (1038, [C.nils, .bad, .bad, C.nils, C.nils]), (1039, []), (1726, [])]⟩
def Zhv : Exit -> Shape
 | .normal => ⟨[(1, .as false (.int .i64)), (2, .as false (.sl (.int .i64))), (3, .as false (.sl Zad)), (4, .as false Zce), (5, .as false (.int .i64)), (7, .keep), (14, .keep), (15, .keep), (16, .as false (.int .i64)), (17, .keep), (19, .as false (.int .i64))], [(7, 0, .as false (.sl ZaU)), (7, 1, .as false (.int .i64)), (7, 2, .as false (.int .i64)), (7, 3, .as false (.sl zA9)), (7, 4, .row 700 false 49 (.sl Zad)), (14, 1, .as false (.int .i64)), (14, 2, .as false (.int .i64))], [(7, false), (14, false), (15, false), (17, false), (700, false)]⟩
 | .ret => ⟨[(14, .keep)], [(14, 0, .as false (.sl ZaU)), (14, 1, .as false (.int .i64)), (14, 2, .as false (.int .i64)), (14, 3, .as false (.sl zA9)), (14, 4, .row 701 false 49 (.sl Zad))], [(14, false), (701, false)]⟩
 | .exit 2 => ⟨[(1, .as false (.int .i64)), (2, .as false (.sl (.int .i64))), (3, .as false (.sl Zad)), (4, .as false Zce), (5, .as false (.int .i64)), (7, .keep), (14, .keep), (15, .keep), (16, .as false (.int .i64))], [(7, 0, .as false (.sl ZaU)), (7, 1, .as false (.int .i64)), (7, 2, .as false (.int .i64)), (7, 3, .as false (.sl zA9)), (7, 4, .row 702 false 49 (.sl Zad)), (14, 1, .as false (.int .i64)), (14, 2, .as false (.int .i64))], [(7, false), (14, false), (15, false), (702, false)]⟩
 | _ => ⟨[], [], []⟩
def ZmK : (zB5 ⊕ (Int × ((List Int) × zB4))) -> Exit × St
 | (.inl u) => (.ret, ZiJ.fillK ZaD ZiB u)
 | (.inr u) => (.exit 2, ZiE.fillK ZaD ZiZ u)
def Znd : (zB5 ⊕ (Int × ((List Int) × zB4))) -> Br (Exit × St) := fun z => .sum z (fun u => .ret (.ret, ZiJ.fillK ZaD ZiB u)) (fun u => .ret (.exit 2, ZiE.fillK ZaD ZiZ u))
def crossF_C1 : Code := Zfp 1 (Za8 ZjL)
def Zmm : St -> Br (Exit × St) := Zg7 Zdm ZaD 1024 (Zhv .normal) (ZfN.parseK ZaD Zf2) fun x => .opt (crossF_w1 x) Znd
abbrev ZfP : List Hole := [.slot 1 false (.int .i64), .slot 2 false (.sl (.int .i64)), .slot 3 false (.sl Zad), .slot 4 false Zce, .slot 5 false (.int .i64), .slot 16 false (.int .i64), .cell 1031 0 false (.sl ZaU), .cell 1031 1 false (.int .i64), .cell 1031 2 false (.int .i64), .cell 1031 3 false (.sl zA9), .cell 1038 1 false (.int .i64), .cell 1038 2 false (.int .i64), .tv 1039 false ZaU, .ar 1727 false 49 (.sl Zad)]
def ZfZ : Skel := ⟨102, [(7, D.c (C.ref 1031 0 0)), (14, D.c (C.ref 1038 0 0)), (15, D.c (C.ref 1039 0 0))], [(1031, [.bad, .bad, .bad, .bad, (.mfull 1727)]), (1038, [C.nils, .bad, .bad, C.nils, C.nils]), (1039, []), (1727, [])]⟩
abbrev ZiO : List Hole := [.cell 1038 0 false (.sl ZaU), .cell 1038 1 false (.int .i64), .cell 1038 2 false (.int .i64), .cell 1038 3 false (.sl zA9), .ar 1728 false 49 (.sl Zad)]
def Zjh : Skel := ⟨102, [(14, D.c (C.ref 1038 0 0))], [(1038, [.bad, .bad, .bad, .bad, (.mfull 1728)]), (1728, [])]⟩
abbrev Zjj : List Hole := [.cell 1031 0 false (.sl ZaU), .cell 1031 1 false (.int .i64), .cell 1031 2 false (.int .i64), .cell 1031 3 false (.sl zA9), .cell 1038 1 false (.int .i64), .cell 1038 2 false (.int .i64), .ar 1729 false 49 (.sl Zad)]
def ZiU : Skel := ⟨102, [(7, D.c (C.ref 1031 0 0)), (14, D.c (C.ref 1038 0 0))], [(1031, [.bad, .bad, .bad, .bad, (.mfull 1729)]), (1038, [C.nils, .bad, .bad, C.nils, C.nils]), (1729, [])]⟩
def ZhZ : Exit -> Shape
 | .normal => ⟨[(1, .as false (.int .i64)), (2, .as false (.sl (.int .i64))), (3, .as false (.sl Zad)), (4, .as false Zce), (5, .as false (.int .i64)), (7, .keep), (14, .keep), (15, .keep), (16, .as false (.int .i64))], [(7, 0, .as false (.sl ZaU)), (7, 1, .as false (.int .i64)), (7, 2, .as false (.int .i64)), (7, 3, .as false (.sl zA9)), (7, 4, .row 703 false 49 (.sl Zad)), (14, 1, .as false (.int .i64)), (14, 2, .as false (.int .i64))], [(7, false), (14, false), (15, false), (703, false)]⟩
 | .ret => ⟨[(14, .keep)], [(14, 0, .as false (.sl ZaU)), (14, 1, .as false (.int .i64)), (14, 2, .as false (.int .i64)), (14, 3, .as false (.sl zA9)), (14, 4, .row 704 false 49 (.sl Zad))], [(14, false), (704, false)]⟩
 | .exit 0 => ⟨[(7, .keep), (14, .keep)], [(7, 0, .as false (.sl ZaU)), (7, 1, .as false (.int .i64)), (7, 2, .as false (.int .i64)), (7, 3, .as false (.sl zA9)), (7, 4, .row 705 false 49 (.sl Zad)), (14, 1, .as false (.int .i64)), (14, 2, .as false (.int .i64))], [(7, false), (14, false), (705, false)]⟩
 | _ => ⟨[], [], []⟩
def Zmp : (zB5 ⊕ zB6) -> Exit × St
 | (.inl u) => (.ret, Zjh.fillK ZaD ZiO u)
 | (.inr u) => (.exit 0, ZiU.fillK ZaD Zjj u)
def ZmH : (zB5 ⊕ zB6) -> Br (Exit × St) := fun z => .sum z (fun u => .ret (.ret, Zjh.fillK ZaD ZiO u)) (fun u => .ret (.exit 0, ZiU.fillK ZaD Zjj u))
def crossF_C0 : Code := Zfp 0 (Za8 ZjL)
def ZnN (G_elemF : zB2 -> Option zB3) (G_crossF : zB1 -> Option zB3) : St -> Br (Exit × St) := Zg7 Zdm ZaD 1024 (ZhZ .normal) (ZfZ.parseK ZaD ZfP) fun x => .opt ((ZhP G_elemF G_crossF) x) ZmH
def Zd8 (G_elemF : zB2 -> Option zB3) (G_crossF : zB1 -> Option zB3) : Par := { sh := fun _ => none, k := 0, lo := fun i => bif Nat.beq i 3 then some (ZnN G_elemF G_crossF) else bif Nat.beq i 12 then some Zmm else none }
theorem ZuO (G_elemF : zB2 -> Option zB3) (G_crossF : zB1 -> Option zB3) (a : Int) (b : (List Int)) (c : (List (Int × Int))) (d : ZaK) (e : Int) (f : Int) (g : Int) (h : (List zA1)) (i : Int) (j : Int) (k : (List zA2)) (l : Int) (m : Int) (n : zA1) (o : zA2) (p : zA23) : Zeo Zdm ZaD (ZgC G_elemF G_crossF) (Zd8 G_elemF G_crossF) Zhv crossF_C1 (ZfN.fillK ZaD Zf2 (a, b, c, d, e, f, g, h, i, j, k, l, m, n, o, p, ())) = (Zem (a, b, c, d, e, f, g, h, i, j, k, l, m, n, o, p, ())).bind (ZcN (fun x => ZfN.fillK ZaD Zf2 x) ZmK) := by kernel_rfl
theorem Zlm (G_elemF : zB2 -> Option zB3) (G_crossF : zB1 -> Option zB3) (H_elemF : OC Tryz.prog 29 ZbZ [(.two (.ty false zA5) (.two (.ty false (.sl zA9)) (.row 49 (.sl Zad))))] G_elemF) (H_crossF : OC Tryz.prog 54 Zb0 [(.two (.ty false zA5) (.two (.ty false (.sl zA9)) (.row 49 (.sl Zad))))] G_crossF) (g : Cfg) (hg : ∀ n, Go.PI.look n g.m0 ≠ Option.none -> n ∈ Zdm) : ZaL ZgF g Zmm crossF_C1 := ZaL.auto (ZgR G_elemF G_crossF H_elemF H_crossF) hg (Zd8 G_elemF G_crossF) (ZaB.of (l := []) (by kernel_rfl) .nil) Zhv (fun x => ZfN.fillK ZaD Zf2 x) (fun s x h => Skel.parseK_ok s x h) Zem ZmK (fun z h => by rcases z with z | z <;> cases h) Znd (fun z => by rcases z with z | z <;> rfl) (fun (a, b, c, d, e, f, i, j, k, m, o, p, q, r, t, u, ()) => (ZuO G_elemF G_crossF) a b c d e f i j k m o p q r t u)
theorem Zt7 (G_elemF : zB2 -> Option zB3) (G_crossF : zB1 -> Option zB3) (a : Int) (b : (List Int)) (c : (List (Int × Int))) (d : ZaK) (e : Int) (f : Int) (g : (List zA1)) (h : Int) (i : Int) (j : (List zA2)) (k : Int) (l : Int) (m : zA1) (n : zA23) : Zeo Zdm ZaD (ZgC G_elemF G_crossF) (Zd8 G_elemF G_crossF) ZhZ crossF_C0 (ZfZ.fillK ZaD ZfP (a, b, c, d, e, f, g, h, i, j, k, l, m, n, ())) = ((Zev G_elemF G_crossF) (a, b, c, d, e, f, g, h, i, j, k, l, m, n, ())).bind (ZcN (fun x => ZfZ.fillK ZaD ZfP x) Zmp) := by kernel_rfl
theorem Ztk (G_elemF : zB2 -> Option zB3) (G_crossF : zB1 -> Option zB3) (H_elemF : OC Tryz.prog 29 ZbZ [(.two (.ty false zA5) (.two (.ty false (.sl zA9)) (.row 49 (.sl Zad))))] G_elemF) (H_crossF : OC Tryz.prog 54 Zb0 [(.two (.ty false zA5) (.two (.ty false (.sl zA9)) (.row 49 (.sl Zad))))] G_crossF) (g : Cfg) (hg : ∀ n, Go.PI.look n g.m0 ≠ Option.none -> n ∈ Zdm) : ZaL ZgF g (ZnN G_elemF G_crossF) crossF_C0 := ZaL.auto (ZgR G_elemF G_crossF H_elemF H_crossF) hg (Zd8 G_elemF G_crossF) (ZaB.of (l := [crossF_C1]) (by kernel_rfl) (.cons ((Zlm G_elemF G_crossF H_elemF H_crossF) g hg) (by kernel_rfl) .nil)) ZhZ (fun x => ZfZ.fillK ZaD ZfP x) (fun s x h => Skel.parseK_ok s x h) (Zev G_elemF G_crossF) Zmp (fun z h => by rcases z with z | z <;> cases h) ZmH (fun z => by rcases z with z | z <;> rfl) (fun (a, b, c, d, e, f, i, j, k, m, o, p, q, r, ()) => (Zt7 G_elemF G_crossF) a b c d e f i j k m o p q r)
theorem Zux (G_elemF : zB2 -> Option zB3) (G_crossF : zB1 -> Option zB3) (p0 : (Za5 × ((List zA2) × zA23))) (p1 : Int) (p2 : (List Int)) (p3 : (List (Int × Int))) (p4 : ZaK) (p5 : Int) (p6 : Int) : Zia (ZgC G_elemF G_crossF) (Zd8 G_elemF G_crossF) ZjL ZeV ZiD (p0, p1, p2, p3, p4, p5, p6, ()) = (ZgP G_elemF G_crossF) (p0, p1, p2, p3, p4, p5, p6, ()) := by kernel_rfl
theorem Zt2 (G_elemF : zB2 -> Option zB3) (G_crossF : zB1 -> Option zB3) (H_elemF : OC Tryz.prog 29 ZbZ [(.two (.ty false zA5) (.two (.ty false (.sl zA9)) (.row 49 (.sl Zad))))] G_elemF) (H_crossF : OC Tryz.prog 54 Zb0 [(.two (.ty false zA5) (.two (.ty false (.sl zA9)) (.row 49 (.sl Zad))))] G_crossF) : OC ZgF 54 ZeV ZiD (crossF G_elemF G_crossF) := OC.of_tree (ZgR G_elemF G_crossF H_elemF H_crossF) Tryz.func54 (by kernel_rfl) (by kernel_rfl) (p := (Zd8 G_elemF G_crossF)) (fun g hg => ZaB.of (l := [crossF_C0, crossF_C1]) (by kernel_rfl) (.cons ((Ztk G_elemF G_crossF H_elemF H_crossF) g hg) (by kernel_rfl) (.cons ((Zlm G_elemF G_crossF H_elemF H_crossF) g hg) (by kernel_rfl) .nil))) (fun (p0, p1, p2, p3, p4, p5, p6, ()) => (Zux G_elemF G_crossF) p0 p1 p2 p3 p4 p5 p6)
def Zbd : Nat -> (zB2 -> Option zB3) × (zB1 -> Option zB3)
 | 0 => (fun _ => none, fun _ => none)
 | k + 1 => (elemF (Zbd k).1 (Zbd k).2, crossF (Zbd k).1 (Zbd k).2)
theorem Zbs : ∀ k, OC Tryz.prog 29 ZbZ [(.two (.ty false zA5) (.two (.ty false (.sl zA9)) (.row 49 (.sl Zad))))] (Zbd k).1 /\ OC Tryz.prog 54 Zb0 [(.two (.ty false zA5) (.two (.ty false (.sl zA9)) (.row 49 (.sl Zad))))] (Zbd k).2
 | 0 => ⟨OC.zero Tryz.func29 (by kernel_rfl), OC.zero Tryz.func54 (by kernel_rfl)⟩
 | k + 1 => ⟨elemF_oc _ _ (Zbs k).1 (Zbs k).2, Zt2 _ _ (Zbs k).1 (Zbs k).2⟩
def ZbK (k : Nat) : zB2 -> Option zB3 := (Zbd k).1
theorem Zu7 (k : Nat) : OC Tryz.prog 29 ZbZ [(.two (.ty false zA5) (.two (.ty false (.sl zA9)) (.row 49 (.sl Zad))))] (ZbK k) := (Zbs k).1
def ZbN (k : Nat) : zB1 -> Option zB3 := (Zbd k).2
theorem Ztp (k : Nat) : OC Tryz.prog 54 Zb0 [(.two (.ty false zA5) (.two (.ty false (.sl zA9)) (.row 49 (.sl Zad))))] (ZbN k) := (Zbs k).2
def elemFF : zB2 -> Option zB3 := fun x => ZbK ((fun x => 2 * x.1.2.1.length + 8) x) x
theorem Zup : OC Tryz.prog 29 ZbZ [(.two (.ty false zA5) (.two (.ty false (.sl zA9)) (.row 49 (.sl Zad))))] elemFF := OC.deep Zu7 (fun x => 2 * x.1.2.1.length + 8)
def crossFF : zB1 -> Option zB3 := fun x => ZbN ((fun x => 2 * x.1.2.1.length + 8) x) x
theorem Ztv : OC Tryz.prog 54 Zb0 [(.two (.ty false zA5) (.two (.ty false (.sl zA9)) (.row 49 (.sl Zad))))] crossFF := OC.deep Ztp (fun x => 2 * x.1.2.1.length + 8)
def cx_elemF : Ctx := Zba cx_againR 29 (ZaW ZbZ [(.two (.ty false zA5) (.two (.ty false (.sl zA9)) (.row 49 (.sl Zad))))] elemFF)
theorem en_elemF : EnvFull Tryz.prog cx_elemF := Zas (ZfR) Zup.callOk
def cx_crossF : Ctx := Zba cx_elemF 54 (ZaW Zb0 [(.two (.ty false zA5) (.two (.ty false (.sl zA9)) (.row 49 (.sl Zad))))] crossFF)
theorem Zt5 : EnvFull Tryz.prog cx_crossF := Zas (en_elemF) Ztv.callOk
def Zh6 : ((List zA2) × (Int × ((List zA1) × (Int × (Int × ((List zA2) × (Za5 × (zA23 × Unit)))))))) -> Br (((List zA2) × (Int × ((List zA1) × (Int × (Int × ((List zA2) × (Za5 × (zA23 × Unit)))))))) ⊕ zB5) := fun (a, b, c, d, e, f, g, h, ()) =>
 (.cond (decide (b < (a.length : Int)))
 (.cond (decide (0 <= b) && decide (b < (a.length : Int)))
 (.cond (decide (0 <= 0) && decide (0 < (g.1.length : Int)))
 (.opt (fits20 (List.getD g.1 (Int.toNat 0) zV2, a.getD b.toNat zV1, [], ())) fun i =>
 (.cond (!i.1)
 (.ret (.inl (a, IntKind.wrap .i64 (b + 1), c, d, e, f, g, h, ())))
 (.cond ((List.getD g.1 (Int.toNat 0) zV2).2.2.2.2.1 == 1)
 (.cond (decide ((@List.length (ByteArray × ByteArray × ByteArray × Int × Int × List (Int × Int × ByteArray × Bool)) [] + List.length (List.set (List.replicate 1 zV3) 0 ((List.getD g.1 (Int.toNat 0) zV2).1, a.getD b.toNat zV1))) * 88 <= 140737488355328))
 (.opt (elemFF (((c, d, e), f, h), 0, 1, [(0, (a.getD b.toNat zV1).2.2.2.1)], [((List.getD g.1 (Int.toNat 0) zV2).1, a.getD b.toNat zV1)], (a.getD b.toNat zV1).2.2.1, IntKind.wrap .i64 (b + 1), ())) fun j =>
 (.ret (.inl (a, IntKind.wrap .i64 (b + 1), j.1.1.1, j.1.1.2.1, j.1.1.2.2, j.1.2.1, g, j.1.2.2, ()))))
 (.no))
 (.opt (elemFF (((c, d, e), f, h), 0, 1, [(0, (a.getD b.toNat zV1).2.2.2.1)], [], (a.getD b.toNat zV1).2.2.1, IntKind.wrap .i64 (b + 1), ())) fun k =>
 (.ret (.inl (a, IntKind.wrap .i64 (b + 1), k.1.1.1, k.1.1.2.1, k.1.1.2.2, k.1.2.1, g, k.1.2.2, ())))))))
 (.no))
 (.no))
 (.ret (.inr (c, d, e, f, h, ()))))
def allM_w0 := Zag fun x => (Zh6 x).run
def allM_B : (Za5 × ((List zA2) × Unit)) -> Br (zA23 × Unit) := fun (p0, p1, ()) =>
 (.cond ((p0.1.length : Int) == 0)
 (.ret ([], ()))
 (.opt (allM_w0 (p1, 0, p0.1, p0.2.1, p0.2.2, p1, p0, [], ())) fun a =>
 (.opt (sortP (a.2.2.2.2.1, ())) fun b =>
 (.ret (b.1, ())))))
def allM := fun x => (allM_B x).run
abbrev ZoR : List (Bool × Pat) := [(false, .ty false zA5), (false, .ty false (.sl zA9))]
abbrev Zmv : List Pat := [.ty false (.sl (.sl Zad))]
def allM_L : List Lp := [
 .mk 5 (shX 60 [(2, .c (.ref 1026 0 0)), (5, .c (.ref 1029 0 0))] [(1026, []), (1029, [.bad, .bad, .bad, .bad, (.mfull 1724)]), (1724, [])] [.slot 1 false (.sl zA9), sI 6, .cell 1029 0 false (.sl ZaU), .cell 1029 1 false (.int .i64), .cell 1029 2 false (.int .i64), .cell 1029 3 false (.sl zA9), .tv 1026 false zA5, .ar 1724 false 49 (.sl Zad)] ⟨[(1, .as false (.sl zA9)), (2, .keep), (5, .keep), (6, .as false (.int .i64))], [(5, 0, .as false (.sl ZaU)), (5, 1, .as false (.int .i64)), (5, 2, .as false (.int .i64)), (5, 3, .as false (.sl zA9)), (5, 4, .row 700 false 49 (.sl Zad))], [(2, false), (5, false), (700, false)]⟩) ([exX (.exit 0) 60 [(5, .c (.ref 1029 0 0))] [(1029, [.bad, .bad, .bad, .bad, (.mfull 1725)]), (1725, [])] [.cell 1029 0 false (.sl ZaU), .cell 1029 1 false (.int .i64), .cell 1029 2 false (.int .i64), .cell 1029 3 false (.sl zA9), .ar 1725 false 49 (.sl Zad)] ⟨[(5, .keep)], [(5, 0, .as false (.sl ZaU)), (5, 1, .as false (.int .i64)), (5, 2, .as false (.int .i64)), (5, 3, .as false (.sl zA9)), (5, 4, .row 701 false 49 (.sl Zad))], [(5, false), (701, false)]⟩]) Zh6]
theorem allM_oc : OC Tryz.prog 10 ZoR Zmv allM := OC.lp Zt5 1024 Tryz.func10 allM_L (by kernel_rfl) ⟨fun _ => by kernel_rfl, trivial⟩ (fun _ => by kernel_rfl)
end
end Go.Proofs.YtkbdofnbagmlfaaGreat
