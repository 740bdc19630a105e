/- Contracts of functions. Printed by auto.py. -/
import Derived.Test.YtkbdofnbagmlfaaGreatGe
import Derived.Test.YtkbdofnbagmlfaaGreatHg
import Derived.Test.YtkbdofnbagmlfaaGreatHa
import Derived.Test.YtkbdofnbagmlfaaGreatF1a
namespace Go.Proofs.YtkbdofnbagmlfaaGreat
set_option maxRecDepth 100000
open Go.PI Go
noncomputable section
abbrev Zb0 : List (Bool × Pat) := [(false, (.two (.ty false zA5) (.two (.ty false (.sl zA9)) (.row 49 (.sl Zad))))), (false, .ty false (.int .i64)), (false, .ty false (.sl (.int .i64))), (false, .ty false (.sl Zad)), (false, .ty false Zb9), (false, .ty false (.int .i64)), (false, .ty false (.int .i64))]
abbrev Zb6 : List (Bool × Pat) := [(false, (.two (.ty false zA5) (.two (.ty false (.sl zA9)) (.row 49 (.sl Zad))))), (false, .ty false (.int .i64)), (false, .ty false (.int .i64)), (false, .ty false (.sl Zad)), (false, .ty false Zb9), (false, .ty false (.int .i64)), (false, .ty false (.int .i64))]
def Zfk (G_elemF : zB2 -> Option zB3) (G_crossF : zB1 -> Option zB3) : (Int × (Int × zB4)) -> Br ((Int × (Int × zB4)) ⊕ zB6) := fun (a, b, c, d, e, f, g, h, i, j, k, l, m, n, ()) =>
 (.cond (decide (f < (j.length : Int)))
 (.cond (decide (0 <= f) && decide (f < (j.length : Int)))
 (.cond (decide (IntKind.wrap .i64 ((j.getD f.toNat zV1).2.2.1 - e) > h))
 (.ret (.inl (a, b, c, d, e, IntKind.wrap .i64 (f + 1), g, h, i, j, k, l, m, n, ())))
 (.opt (fits20 (m, j.getD f.toNat zV1, d, ())) fun o =>
 (.cond (!o.1)
 (.ret (.inl (a, b, c, d, e, IntKind.wrap .i64 (f + 1), g, h, i, j, k, l, m, n, ())))
 (.cond (m.2.2.2.2.1 == 1)
 (.cond (decide ((@List.length (ByteArray × ByteArray × ByteArray × Int × Int × List (Int × Int × ByteArray × Bool)) (List.replicate 0 zV3) + List.length d) * 88 <= 140737488355328))
 (.cond (decide ((List.length (List.replicate 0 zV3 ++ d) + List.length (List.set (List.replicate 1 zV3) 0 (m.1, j.getD f.toNat zV1))) * 88 <= 140737488355328))
 (.cond (decide ((List.length (List.replicate 0 (0, 0)) + List.length c) * 16 <= 140737488355328))
 (.cond (decide ((List.length (List.replicate 0 (0, 0) ++ c) + List.length (List.set (List.replicate 1 (0, 0)) 0 (a, (j.getD f.toNat zV1).2.2.2.1))) * 16 <= 140737488355328))
 (.opt (G_elemF (((g, h, i), j, n), a, IntKind.wrap .i64 (b + 1), List.replicate 0 (0, 0) ++ c ++ List.set (List.replicate 1 (0, 0)) 0 (a, (j.getD f.toNat zV1).2.2.2.1), List.replicate 0 zV3 ++ d ++ List.set (List.replicate 1 zV3) 0 (m.1, j.getD f.toNat zV1), e, IntKind.wrap .i64 (f + 1), ())) fun p =>
 (.ret (.inl (a, b, c, d, e, IntKind.wrap .i64 (f + 1), p.1.1.1, p.1.1.2.1, p.1.1.2.2, p.1.2.1, k, l, m, p.1.2.2, ()))))
 (.no))
 (.no))
 (.no))
 (.no))
 (.cond (decide ((List.length (List.replicate 0 (0, 0)) + List.length c) * 16 <= 140737488355328))
 (.cond (decide ((List.length (List.replicate 0 (0, 0) ++ c) + List.length (List.set (List.replicate 1 (0, 0)) 0 (a, (j.getD f.toNat zV1).2.2.2.1))) * 16 <= 140737488355328))
 (.opt (G_elemF (((g, h, i), j, n), a, IntKind.wrap .i64 (b + 1), List.replicate 0 (0, 0) ++ c ++ List.set (List.replicate 1 (0, 0)) 0 (a, (j.getD f.toNat zV1).2.2.2.1), d, e, IntKind.wrap .i64 (f + 1), ())) fun q =>
 (.ret (.inl (a, b, c, d, e, IntKind.wrap .i64 (f + 1), q.1.1.1, q.1.1.2.1, q.1.1.2.2, q.1.2.1, k, l, m, q.1.2.2, ()))))
 (.no))
 (.no))))))
 (.no))
 (.ret (.inr (g, h, i, j, k, l, n, ()))))
def Zdh (G_elemF : zB2 -> Option zB3) (G_crossF : zB1 -> Option zB3) : (Int × (Int × zB4)) -> Option zB6 := Zag fun x => ((Zfk G_elemF G_crossF) x).run
def Zh6 (G_elemF : zB2 -> Option zB3) (G_crossF : zB1 -> Option zB3) : zB2 -> Br zB3 := fun (p0, p1, p2, p3, p4, p5, p6, ()) =>
 (.cond (decide (0 <= p1) && decide (p1 < (p0.1.1.length : Int)))
 (.cond (decide (p2 >= (p0.1.1.getD p1.toNat zV2).2.2.2.1))
 (.opt (nextF (((p0.1.1, p0.1.2.1, p0.1.2.2), p0.2.1, p0.2.2), p1, ())) fun a =>
 (.cond (decide (a.1.1 < 0))
 (.cond (decide ((List.length (List.replicate 0 (0, 0)) + List.length p3) * 16 <= 140737488355328))
 (.cond (decide ((List.length p0.2.2 + List.length (List.set (List.replicate 1 []) 0 (List.replicate 0 (0, 0) ++ p3))) * 24 <= 140737488355328))
 (.cond (decide (p2 >= (p0.1.1.getD p1.toNat zV2).2.2.2.2.1))
 (.ret (((p0.1.1, p0.1.2.1, p0.1.2.2), p0.2.1, p0.2.2 ++ List.set (List.replicate 1 []) 0 (List.replicate 0 (0, 0) ++ p3)), ()))
 (.opt ((Zdh G_elemF G_crossF) (p1, p2, p3, p4, p5, p6, p0.1.1, p0.1.2.1, p0.1.2.2, p0.2.1, 0, 0, p0.1.1.getD p1.toNat zV2, p0.2.2 ++ List.set (List.replicate 1 []) 0 (List.replicate 0 (0, 0) ++ p3), ())) fun b =>
 (.ret (((b.1, b.2.1, b.2.2.1), b.2.2.2.1, b.2.2.2.2.2.2.1), ()))))
 (.no))
 (.no))
 (.opt (G_crossF (((p0.1.1, p0.1.2.1, p0.1.2.2), p0.2.1, p0.2.2), a.1.1, a.1.2, p3, p4, p5, p6, ())) fun c =>
 (.cond (decide (p2 >= (p0.1.1.getD p1.toNat zV2).2.2.2.2.1))
 (.ret (((c.1.1.1, c.1.1.2.1, c.1.1.2.2), c.1.2.1, c.1.2.2), ()))
 (.opt ((Zdh G_elemF G_crossF) (p1, p2, p3, p4, p5, p6, c.1.1.1, c.1.1.2.1, c.1.1.2.2, c.1.2.1, 0, 0, p0.1.1.getD p1.toNat zV2, c.1.2.2, ())) fun d =>
 (.ret (((d.1, d.2.1, d.2.2.1), d.2.2.2.1, d.2.2.2.2.2.2.1), ())))))))
 (.cond (decide (p2 >= (p0.1.1.getD p1.toNat zV2).2.2.2.2.1))
 (.ret (((p0.1.1, p0.1.2.1, p0.1.2.2), p0.2.1, p0.2.2), ()))
 (.opt ((Zdh G_elemF G_crossF) (p1, p2, p3, p4, p5, p6, p0.1.1, p0.1.2.1, p0.1.2.2, p0.2.1, 0, 0, p0.1.1.getD p1.toNat zV2, p0.2.2, ())) fun e =>
 (.ret (((e.1, e.2.1, e.2.2.1), e.2.2.2.1, e.2.2.2.2.2.2.1), ())))))
 (.no))
def elemF (G_elemF : zB2 -> Option zB3) (G_crossF : zB1 -> Option zB3) : zB2 -> Option zB3 := fun x => ((Zh6 G_elemF G_crossF) x).run
abbrev ZfO : List (Bool × Pat) := Zb6
abbrev Zlb : List Pat := [(.two (.ty false zA5) (.two (.ty false (.sl zA9)) (.row 49 (.sl Zad))))]
abbrev Zrm : Func := Tryz.f29
abbrev Zly : Program := Tryz.prog
abbrev ZjE : List Nat := ZdN ZfO
abbrev ZcH : List Nat := kfOf ZfO
def ZlU (G_elemF : zB2 -> Option zB3) (G_crossF : zB1 -> Option zB3) : Ctx := { (Zba (Zba cx_againR 29 (ZaV Zb6 [(.two (.ty false zA5) (.two (.ty false (.sl zA9)) (.row 49 (.sl Zad))))] G_elemF)) 54 (ZaV Zb0 [(.two (.ty false zA5) (.two (.ty false (.sl zA9)) (.row 49 (.sl Zad))))] G_crossF)) with base := 1024 }
theorem Znf (G_elemF : zB2 -> Option zB3) (G_crossF : zB1 -> Option zB3) (H_elemF : OC Tryz.prog 29 Zb6 [(.two (.ty false zA5) (.two (.ty false (.sl zA9)) (.row 49 (.sl Zad))))] G_elemF) (H_crossF : OC Tryz.prog 54 Zb0 [(.two (.ty false zA5) (.two (.ty false (.sl zA9)) (.row 49 (.sl Zad))))] G_crossF) : EnvFull Zly (ZlU G_elemF G_crossF) := Zcy ((Zas (Zas ZfS (OC.callOk H_elemF)) (OC.callOk H_crossF))) 1024
abbrev ZgN : List Hole := [.slot 1 false (.int .i64), .slot 2 false (.int .i64), .slot 3 false (.sl Zad), .slot 4 false Zb9, .slot 5 false (.int .i64), .slot 18 false (.int .i64), .cell 1031 0 false (.sl ZaU), .cell 1031 1 false (.int .i64), .cell 1031 2 false (.int .i64), .cell 1031 3 false (.sl zA9), .cell 1038 1 false (.int .i64), .cell 1038 2 false (.int .i64), .tv 1039 false ZaU, .ar 1724 false 49 (.sl Zad)]
def ZgK : Skel := ⟨120, [(7, D.c (C.ref 1031 0 0)), (14, D.c (C.ref 1038 0 0)), (15, D.c (C.ref 1039 0 0))], [(1031, [.bad, .bad, .bad, .bad, (.mfull 1724)]), (1038, [C.nils, .bad, .bad, C.nils, C.nils]), (1039, []), (1724, [])]⟩
abbrev Zk7 : List Hole := [.cell 1031 0 false (.sl ZaU), .cell 1031 1 false (.int .i64), .cell 1031 2 false (.int .i64), .cell 1031 3 false (.sl zA9), .cell 1038 1 false (.int .i64), .cell 1038 2 false (.int .i64), .ar 1725 false 49 (.sl Zad)]
def Zlg : Skel := ⟨120, [(7, D.c (C.ref 1031 0 0)), (14, D.c (C.ref 1038 0 0))], [(1031, [.bad, .bad, .bad, .bad, (.mfull 1725)]), (1038, [C.nils, .bad, .bad, C.nils, C.nils]), (1725, [])]⟩
def ZjP : Exit -> Shape
 | .normal => ⟨[(1, .as false (.int .i64)), (2, .as false (.int .i64)), (3, .as false (.sl Zad)), (4, .as false Zb9), (5, .as false (.int .i64)), (7, .keep), (14, .keep), (15, .keep), (18, .as false (.int .i64))], [(7, 0, .as false (.sl ZaU)), (7, 1, .as false (.int .i64)), (7, 2, .as false (.int .i64)), (7, 3, .as false (.sl zA9)), (7, 4, .row 700 false 49 (.sl Zad)), (14, 1, .as false (.int .i64)), (14, 2, .as false (.int .i64))], [(7, false), (14, false), (15, false), (700, false)]⟩
 | .exit 0 => ⟨[(7, .keep), (14, .keep)], [(7, 0, .as false (.sl ZaU)), (7, 1, .as false (.int .i64)), (7, 2, .as false (.int .i64)), (7, 3, .as false (.sl zA9)), (7, 4, .row 701 false 49 (.sl Zad)), (14, 1, .as false (.int .i64)), (14, 2, .as false (.int .i64))], [(7, false), (14, false), (701, false)]⟩
 | _ => ⟨[], [], []⟩
def Zpi : zB6 -> Exit × St
 | u => (.exit 0, Zlg.fillK ZcH Zk7 u)
def Zof : zB6 -> Br (Exit × St) := fun u => .ret (.exit 0, Zlg.fillK ZcH Zk7 u)
def elemF_C0 : Code := Zfm 0 (Za9 Zrm)
def Zn5 (G_elemF : zB2 -> Option zB3) (G_crossF : zB1 -> Option zB3) : St -> Br (Exit × St) := ZgH ZjE ZcH 1024 (ZjP .normal) (ZgK.parseK ZcH ZgN) fun x => .opt ((Zdh G_elemF G_crossF) x) Zof
def Zh7 (G_elemF : zB2 -> Option zB3) (G_crossF : zB1 -> Option zB3) : Par := { sh := fun _ => none, k := 0, lo := fun i => bif Nat.beq i 10 then some (Zn5 G_elemF G_crossF) else none }
theorem elemF_r0 (G_elemF : zB2 -> Option zB3) (G_crossF : zB1 -> Option zB3) (a : Int) (b : Int) (c : (List (Int × Int))) (d : ZaK) (e : Int) (f : Int) (g : (List zA1)) (h : Int) (i : Int) (j : (List zA2)) (k : Int) (l : Int) (m : zA1) (n : zA23) : Zek ZjE ZcH (ZlU G_elemF G_crossF) (Zh7 G_elemF G_crossF) ZjP elemF_C0 (ZgK.fillK ZcH ZgN (a, b, c, d, e, f, g, h, i, j, k, l, m, n, ())) = ((Zfk G_elemF G_crossF) (a, b, c, d, e, f, g, h, i, j, k, l, m, n, ())).bind (ZcJ (fun x => ZgK.fillK ZcH ZgN x) Zpi) := by kernel_rfl
theorem ZuI (G_elemF : zB2 -> Option zB3) (G_crossF : zB1 -> Option zB3) (H_elemF : OC Tryz.prog 29 Zb6 [(.two (.ty false zA5) (.two (.ty false (.sl zA9)) (.row 49 (.sl Zad))))] G_elemF) (H_crossF : OC Tryz.prog 54 Zb0 [(.two (.ty false zA5) (.two (.ty false (.sl zA9)) (.row 49 (.sl Zad))))] G_crossF) (g : Cfg) (hg : ∀ n, Go.PI.look n g.m0 ≠ Option.none -> n ∈ ZjE) : ZaL Zly g (Zn5 G_elemF G_crossF) elemF_C0 := ZaL.auto (Znf G_elemF G_crossF H_elemF H_crossF) hg (Zh7 G_elemF G_crossF) (ZaB.of (l := []) (by kernel_rfl) .nil) ZjP (fun x => ZgK.fillK ZcH ZgN x) (fun s x h => Skel.parseK_ok s x h) (Zfk G_elemF G_crossF) Zpi (fun _ h => by cases h) Zof (fun _ => rfl) (fun (a, b, c, d, e, f, i, j, k, m, o, p, q, r, ()) => (elemF_r0 G_elemF G_crossF) a b c d e f i j k m o p q r)
theorem elemF_eq (G_elemF : zB2 -> Option zB3) (G_crossF : zB1 -> Option zB3) (p0 : (Za5 × ((List zA2) × zA23))) (p1 : Int) (p2 : Int) (p3 : (List (Int × Int))) (p4 : ZaK) (p5 : Int) (p6 : Int) : Zig (ZlU G_elemF G_crossF) (Zh7 G_elemF G_crossF) Zrm ZfO Zlb (p0, p1, p2, p3, p4, p5, p6, ()) = (Zh6 G_elemF G_crossF) (p0, p1, p2, p3, p4, p5, p6, ()) := by kernel_rfl
theorem elemF_oc (G_elemF : zB2 -> Option zB3) (G_crossF : zB1 -> Option zB3) (H_elemF : OC Tryz.prog 29 Zb6 [(.two (.ty false zA5) (.two (.ty false (.sl zA9)) (.row 49 (.sl Zad))))] G_elemF) (H_crossF : OC Tryz.prog 54 Zb0 [(.two (.ty false zA5) (.two (.ty false (.sl zA9)) (.row 49 (.sl Zad))))] G_crossF) : OC Zly 29 ZfO Zlb (elemF G_elemF G_crossF) := OC.of_tree (Znf G_elemF G_crossF H_elemF H_crossF) Tryz.func29 (by kernel_rfl) (by kernel_rfl) (p := (Zh7 G_elemF G_crossF)) (fun g hg => ZaB.of (l := [elemF_C0]) (by kernel_rfl) (.cons ((ZuI G_elemF G_crossF H_elemF H_crossF) g hg) (by kernel_rfl) .nil)) (fun (p0, p1, p2, p3, p4, p5, p6, ()) => (elemF_eq G_elemF G_crossF) p0 p1 p2 p3 p4 p5 p6)
def Zet : (Int × ((List Int) × ((List (Int × Int)) × (ZaK × (Int × (Int × (Int × ((List zA1) × (Int × (Int × ((List zA2) × (Int × (Int × (zA1 × (zA2 × (zA23 × Unit)))))))))))))))) -> Br ((Int × ((List Int) × ((List (Int × Int)) × (ZaK × (Int × (Int × (Int × ((List zA1) × (Int × (Int × ((List zA2) × (Int × (Int × (zA1 × (zA2 × (zA23 × Unit)))))))))))))))) ⊕ (zB5 ⊕ (Int × ((List Int) × zB4)))) := fun (a, b, c, d, e, f, g, h, i, j, k, l, m, n, o, p, ()) =>
 (.cond (decide (g < (b.length : Int)))
 (.cond (decide (0 <= g) && decide (g < (b.length : Int)))
 (.cond (decide (0 <= b.getD g.toNat 0) && decide (b.getD g.toNat 0 < (h.length : Int)))
 (.opt (fits20 (List.getD h (Int.toNat (b.getD g.toNat 0)) zV2, o, d, ())) fun q =>
 (.cond q.1
 (.ret (.inr (.inl (h, i, j, k, p, ()))))
 (.ret (.inl (a, b, c, d, e, f, IntKind.wrap .i64 (g + 1), h, i, j, k, l, m, n, o, p, ())))))
 (.no))
 (.no))
 (.ret (.inr (.inr (a, b, c, d, e, f, h, i, j, k, l, m, n, p, ())))))
def crossF_w1 := Zag fun x => (Zet x).run
def Zeo (G_elemF : zB2 -> Option zB3) (G_crossF : zB1 -> Option zB3) : (Int × ((List Int) × zB4)) -> Br ((Int × ((List Int) × zB4)) ⊕ (zB5 ⊕ zB6)) := fun (a, b, c, d, e, f, g, h, i, j, k, l, m, n, ()) =>
 (.cond (decide (f < (j.length : Int)))
 (.cond (decide (0 <= f) && decide (f < (j.length : Int)))
 (.cond (decide (IntKind.wrap .i64 ((j.getD f.toNat zV1).2.2.1 - e) <= h))
 (.opt (fits20 (m, j.getD f.toNat zV1, d, ())) fun o =>
 (.cond o.1
 (.cond (m.2.2.2.2.1 == 1)
 (.cond (decide ((@List.length (ByteArray × ByteArray × ByteArray × Int × Int × List (Int × Int × ByteArray × Bool)) (List.replicate 0 zV3) + List.length d) * 88 <= 140737488355328))
 (.cond (decide ((List.length (List.replicate 0 zV3 ++ d) + List.length (List.set (List.replicate 1 zV3) 0 (m.1, j.getD f.toNat zV1))) * 88 <= 140737488355328))
 (.cond (decide ((List.length (List.replicate 0 (0, 0)) + List.length c) * 16 <= 140737488355328))
 (.cond (decide ((List.length (List.replicate 0 (0, 0) ++ c) + List.length (List.set (List.replicate 1 (0, 0)) 0 (a, (j.getD f.toNat zV1).2.2.2.1))) * 16 <= 140737488355328))
 (.opt (G_elemF (((g, h, i), j, n), a, 1, List.replicate 0 (0, 0) ++ c ++ List.set (List.replicate 1 (0, 0)) 0 (a, (j.getD f.toNat zV1).2.2.2.1), List.replicate 0 zV3 ++ d ++ List.set (List.replicate 1 zV3) 0 (m.1, j.getD f.toNat zV1), e, IntKind.wrap .i64 (f + 1), ())) fun p =>
 (.opt (crossF_w1 (a, b, c, d, e, f, 0, p.1.1.1, p.1.1.2.1, p.1.1.2.2, p.1.2.1, k, l, m, j.getD f.toNat zV1, p.1.2.2, ())) fun q =>
 (.sum q (fun r =>
 (.ret (.inr (.inl (r.1, r.2.1, r.2.2.1, r.2.2.2.1, r.2.2.2.2.1, ()))))) (fun s =>
 (.ret (.inl (s.1, s.2.1, s.2.2.1, s.2.2.2.1, s.2.2.2.2.1, IntKind.wrap .i64 (s.2.2.2.2.2.1 + 1), s.2.2.2.2.2.2.1, s.2.2.2.2.2.2.2.1, s.2.2.2.2.2.2.2.2.1, s.2.2.2.2.2.2.2.2.2.1, s.2.2.2.2.2.2.2.2.2.2.1, s.2.2.2.2.2.2.2.2.2.2.2.1, s.2.2.2.2.2.2.2.2.2.2.2.2.1, s.2.2.2.2.2.2.2.2.2.2.2.2.2.1, ())))))))
 (.no))
 (.no))
 (.no))
 (.no))
 (.cond (decide ((List.length (List.replicate 0 (0, 0)) + List.length c) * 16 <= 140737488355328))
 (.cond (decide ((List.length (List.replicate 0 (0, 0) ++ c) + List.length (List.set (List.replicate 1 (0, 0)) 0 (a, (j.getD f.toNat zV1).2.2.2.1))) * 16 <= 140737488355328))
 (.opt (G_elemF (((g, h, i), j, n), a, 1, List.replicate 0 (0, 0) ++ c ++ List.set (List.replicate 1 (0, 0)) 0 (a, (j.getD f.toNat zV1).2.2.2.1), d, e, IntKind.wrap .i64 (f + 1), ())) fun t =>
 (.opt (crossF_w1 (a, b, c, d, e, f, 0, t.1.1.1, t.1.1.2.1, t.1.1.2.2, t.1.2.1, k, l, m, j.getD f.toNat zV1, t.1.2.2, ())) fun u =>
 (.sum u (fun v =>
 (.ret (.inr (.inl (v.1, v.2.1, v.2.2.1, v.2.2.2.1, v.2.2.2.2.1, ()))))) (fun w =>
 (.ret (.inl (w.1, w.2.1, w.2.2.1, w.2.2.2.1, w.2.2.2.2.1, IntKind.wrap .i64 (w.2.2.2.2.2.1 + 1), w.2.2.2.2.2.2.1, w.2.2.2.2.2.2.2.1, w.2.2.2.2.2.2.2.2.1, w.2.2.2.2.2.2.2.2.2.1, w.2.2.2.2.2.2.2.2.2.2.1, w.2.2.2.2.2.2.2.2.2.2.2.1, w.2.2.2.2.2.2.2.2.2.2.2.2.1, w.2.2.2.2.2.2.2.2.2.2.2.2.2.1, ())))))))
 (.no))
 (.no)))
 (.opt (crossF_w1 (a, b, c, d, e, f, 0, g, h, i, j, k, l, m, j.getD f.toNat zV1, n, ())) fun x =>
 (.sum x (fun y =>
 (.ret (.inr (.inl (y.1, y.2.1, y.2.2.1, y.2.2.2.1, y.2.2.2.2.1, ()))))) (fun z =>
 (.ret (.inl (z.1, z.2.1, z.2.2.1, z.2.2.2.1, z.2.2.2.2.1, IntKind.wrap .i64 (z.2.2.2.2.2.1 + 1), z.2.2.2.2.2.2.1, z.2.2.2.2.2.2.2.1, z.2.2.2.2.2.2.2.2.1, z.2.2.2.2.2.2.2.2.2.1, z.2.2.2.2.2.2.2.2.2.2.1, z.2.2.2.2.2.2.2.2.2.2.2.1, z.2.2.2.2.2.2.2.2.2.2.2.2.1, z.2.2.2.2.2.2.2.2.2.2.2.2.2.1, ()))))))))
 (.opt (crossF_w1 (a, b, c, d, e, f, 0, g, h, i, j, k, l, m, j.getD f.toNat zV1, n, ())) fun aa =>
 (.sum aa (fun ab =>
 (.ret (.inr (.inl (ab.1, ab.2.1, ab.2.2.1, ab.2.2.2.1, ab.2.2.2.2.1, ()))))) (fun ac =>
 (.ret (.inl (ac.1, ac.2.1, ac.2.2.1, ac.2.2.2.1, ac.2.2.2.2.1, IntKind.wrap .i64 (ac.2.2.2.2.2.1 + 1), ac.2.2.2.2.2.2.1, ac.2.2.2.2.2.2.2.1, ac.2.2.2.2.2.2.2.2.1, ac.2.2.2.2.2.2.2.2.2.1, ac.2.2.2.2.2.2.2.2.2.2.1, ac.2.2.2.2.2.2.2.2.2.2.2.1, ac.2.2.2.2.2.2.2.2.2.2.2.2.1, ac.2.2.2.2.2.2.2.2.2.2.2.2.2.1, ())))))))
 (.no))
 (.ret (.inr (.inr (g, h, i, j, k, l, n, ())))))
def Zhw (G_elemF : zB2 -> Option zB3) (G_crossF : zB1 -> Option zB3) : (Int × ((List Int) × zB4)) -> Option (zB5 ⊕ zB6) := Zag fun x => ((Zeo G_elemF G_crossF) x).run
def ZgV (G_elemF : zB2 -> Option zB3) (G_crossF : zB1 -> Option zB3) : zB1 -> Br zB3 := fun (p0, p1, p2, p3, p4, p5, p6, ()) =>
 (.cond (decide (0 <= p1) && decide (p1 < (p0.1.1.length : Int)))
 (.opt ((Zhw G_elemF G_crossF) (p1, p2, p3, p4, p5, p6, p0.1.1, p0.1.2.1, p0.1.2.2, p0.2.1, 0, 0, p0.1.1.getD p1.toNat zV2, p0.2.2, ())) fun a =>
 (.sum a (fun b =>
 (.ret (((b.1, b.2.1, b.2.2.1), b.2.2.2.1, b.2.2.2.2.1), ()))) (fun c =>
 (.ret (((c.1, c.2.1, c.2.2.1), c.2.2.2.1, c.2.2.2.2.2.2.1), ())))))
 (.no))
def crossF (G_elemF : zB2 -> Option zB3) (G_crossF : zB1 -> Option zB3) : zB1 -> Option zB3 := fun x => ((ZgV G_elemF G_crossF) x).run
abbrev Ze0 : List (Bool × Pat) := Zb0
abbrev ZiI : List Pat := [(.two (.ty false zA5) (.two (.ty false (.sl zA9)) (.row 49 (.sl Zad))))]
abbrev ZjC : Func := Tryz.f54
abbrev Zg5 : Program := Tryz.prog
abbrev Zdp : List Nat := ZdN Ze0
abbrev ZaD : List Nat := kfOf Ze0
def ZgU (G_elemF : zB2 -> Option zB3) (G_crossF : zB1 -> Option zB3) : Ctx := { (Zba (Zba cx_againR 29 (ZaV Zb6 [(.two (.ty false zA5) (.two (.ty false (.sl zA9)) (.row 49 (.sl Zad))))] G_elemF)) 54 (ZaV Zb0 [(.two (.ty false zA5) (.two (.ty false (.sl zA9)) (.row 49 (.sl Zad))))] G_crossF)) with base := 1024 }
theorem ZgB (G_elemF : zB2 -> Option zB3) (G_crossF : zB1 -> Option zB3) (H_elemF : OC Tryz.prog 29 Zb6 [(.two (.ty false zA5) (.two (.ty false (.sl zA9)) (.row 49 (.sl Zad))))] G_elemF) (H_crossF : OC Tryz.prog 54 Zb0 [(.two (.ty false zA5) (.two (.ty false (.sl zA9)) (.row 49 (.sl Zad))))] G_crossF) : EnvFull Zg5 (ZgU G_elemF G_crossF) := Zcy ((Zas (Zas ZfS (OC.callOk H_elemF)) (OC.callOk H_crossF))) 1024
abbrev ZfG : List Hole := [.slot 1 false (.int .i64), .slot 2 false (.sl (.int .i64)), .slot 3 false (.sl Zad), .slot 4 false Zb9, .slot 5 false (.int .i64), .slot 16 false (.int .i64), .slot 19 false (.int .i64), .cell 1031 0 false (.sl ZaU), .cell 1031 1 false (.int .i64), .cell 1031 2 false (.int .i64), .cell 1031 3 false (.sl zA9), .cell 1038 1 false (.int .i64), .cell 1038 2 false (.int .i64), .tv 1039 false ZaU, .tv 1041 false zA9, .ar 1724 false 49 (.sl Zad)]
def Zf6 : Skel := ⟨102, [(7, D.c (C.ref 1031 0 0)), (14, D.c (C.ref 1038 0 0)), (15, D.c (C.ref 1039 0 0)), (17, D.c (C.ref 1041 0 0))], [(1031, [.bad, .bad, .bad, .bad, (.mfull 1724)]), (1038, [C.nils, .bad, .bad, C.nils, C.nils]), (1039, []), (1041, []), (1724, [])]⟩
abbrev Zja : List Hole := [.cell 1038 0 false (.sl ZaU), .cell 1038 1 false (.int .i64), .cell 1038 2 false (.int .i64), .cell 1038 3 false (.sl zA9), .ar 1725 false 49 (.sl Zad)]
def Zi6 : Skel := ⟨102, [(14, D.c (C.ref 1038 0 0))], [(1038, [.bad, .bad, .bad, .bad, (.mfull 1725)]), (1725, [])]⟩
abbrev ZiZ : List Hole := [.slot 1 false (.int .i64), .slot 2 false (.sl (.int .i64)), .slot 3 false (.sl Zad), .slot 4 false Zb9, .slot 5 false (.int .i64), .slot 16 false (.int .i64), .cell 1031 0 false (.sl ZaU), .cell 1031 1 false (.int .i64), .cell 1031 2 false (.int .i64), .cell 1031 3 false (.sl zA9), .cell 1038 1 false (.int .i64), .cell 1038 2 false (.int .i64), .tv 1039 false ZaU, .ar 1726 false 49 (.sl Zad)]
def ZiD : Skel := ⟨102, [(7, D.c (C.ref 1031 0 0)), (14, D.c (C.ref 1038 0 0)), (15, D.c (C.ref 1039 0 0))], [(1031, [.bad, .bad, .bad, .bad, (.mfull 1726)]), (1038, [C.nils, .bad, .bad, C.nils, C.nils]), (1039, []), (1726, [])]⟩
def ZhX : Exit -> Shape
 | .normal => ⟨[(1, .as false (.int .i64)), (2, .as false (.sl (.int .i64))), (3, .as false (.sl Zad)), (4, .as false Zb9), (5, .as false (.int .i64)), (7, .keep), (14, .keep), (15, .keep), (16, .as false (.int .i64)), (17, .keep), (19, .as false (.int .i64))], [(7, 0, .as false (.sl ZaU)), (7, 1, .as false (.int .i64)), (7, 2, .as false (.int .i64)), (7, 3, .as false (.sl zA9)), (7, 4, .row 700 false 49 (.sl Zad)), (14, 1, .as false (.int .i64)), (14, 2, .as false (.int .i64))], [(7, false), (14, false), (15, false), (17, false), (700, false)]⟩
 | .ret => ⟨[(14, .keep)], [(14, 0, .as false (.sl ZaU)), (14, 1, .as false (.int .i64)), (14, 2, .as false (.int .i64)), (14, 3, .as false (.sl zA9)), (14, 4, .row 701 false 49 (.sl Zad))], [(14, false), (701, false)]⟩
 | .exit 2 => ⟨[(1, .as false (.int .i64)), (2, .as false (.sl (.int .i64))), (3, .as false (.sl Zad)), (4, .as false Zb9), (5, .as false (.int .i64)), (7, .keep), (14, .keep), (15, .keep), (16, .as false (.int .i64))], [(7, 0, .as false (.sl ZaU)), (7, 1, .as false (.int .i64)), (7, 2, .as false (.int .i64)), (7, 3, .as false (.sl zA9)), (7, 4, .row 702 false 49 (.sl Zad)), (14, 1, .as false (.int .i64)), (14, 2, .as false (.int .i64))], [(7, false), (14, false), (15, false), (702, false)]⟩
 | _ => ⟨[], [], []⟩
def ZnF : (zB5 ⊕ (Int × ((List Int) × zB4))) -> Exit × St
 | (.inl u) => (.ret, Zi6.fillK ZaD Zja u)
 | (.inr u) => (.exit 2, ZiD.fillK ZaD ZiZ u)
def Zmy : (zB5 ⊕ (Int × ((List Int) × zB4))) -> Br (Exit × St) := fun z => .sum z (fun u => .ret (.ret, Zi6.fillK ZaD Zja u)) (fun u => .ret (.exit 2, ZiD.fillK ZaD ZiZ u))
def crossF_C1 : Code := Zfm 1 (Za9 ZjC)
def Zl7 : St -> Br (Exit × St) := ZgH Zdp ZaD 1024 (ZhX .normal) (Zf6.parseK ZaD ZfG) fun x => .opt (crossF_w1 x) Zmy
abbrev ZfM : List Hole := [.slot 1 false (.int .i64), .slot 2 false (.sl (.int .i64)), .slot 3 false (.sl Zad), .slot 4 false Zb9, .slot 5 false (.int .i64), .slot 16 false (.int .i64), .cell 1031 0 false (.sl ZaU), .cell 1031 1 false (.int .i64), .cell 1031 2 false (.int .i64), .cell 1031 3 false (.sl zA9), .cell 1038 1 false (.int .i64), .cell 1038 2 false (.int .i64), .tv 1039 false ZaU, .ar 1727 false 49 (.sl Zad)]
def Zf3 : Skel := ⟨102, [(7, D.c (C.ref 1031 0 0)), (14, D.c (C.ref 1038 0 0)), (15, D.c (C.ref 1039 0 0))], [(1031, [.bad, .bad, .bad, .bad, (.mfull 1727)]), (1038, [C.nils, .bad, .bad, C.nils, C.nils]), (1039, []), (1727, [])]⟩
abbrev ZiW : List Hole := [.cell 1038 0 false (.sl ZaU), .cell 1038 1 false (.int .i64), .cell 1038 2 false (.int .i64), .cell 1038 3 false (.sl zA9), .ar 1728 false 49 (.sl Zad)]
def Zi1 : Skel := ⟨102, [(14, D.c (C.ref 1038 0 0))], [(1038, [.bad, .bad, .bad, .bad, (.mfull 1728)]), (1728, [])]⟩
abbrev ZiK : List Hole := [.cell 1031 0 false (.sl ZaU), .cell 1031 1 false (.int .i64), .cell 1031 2 false (.int .i64), .cell 1031 3 false (.sl zA9), .cell 1038 1 false (.int .i64), .cell 1038 2 false (.int .i64), .ar 1729 false 49 (.sl Zad)]
def Zi9 : Skel := ⟨102, [(7, D.c (C.ref 1031 0 0)), (14, D.c (C.ref 1038 0 0))], [(1031, [.bad, .bad, .bad, .bad, (.mfull 1729)]), (1038, [C.nils, .bad, .bad, C.nils, C.nils]), (1729, [])]⟩
def Zhv : Exit -> Shape
 | .normal => ⟨[(1, .as false (.int .i64)), (2, .as false (.sl (.int .i64))), (3, .as false (.sl Zad)), (4, .as false Zb9), (5, .as false (.int .i64)), (7, .keep), (14, .keep), (15, .keep), (16, .as false (.int .i64))], [(7, 0, .as false (.sl ZaU)), (7, 1, .as false (.int .i64)), (7, 2, .as false (.int .i64)), (7, 3, .as false (.sl zA9)), (7, 4, .row 703 false 49 (.sl Zad)), (14, 1, .as false (.int .i64)), (14, 2, .as false (.int .i64))], [(7, false), (14, false), (15, false), (703, false)]⟩
 | .ret => ⟨[(14, .keep)], [(14, 0, .as false (.sl ZaU)), (14, 1, .as false (.int .i64)), (14, 2, .as false (.int .i64)), (14, 3, .as false (.sl zA9)), (14, 4, .row 704 false 49 (.sl Zad))], [(14, false), (704, false)]⟩
 | .exit 0 => ⟨[(7, .keep), (14, .keep)], [(7, 0, .as false (.sl ZaU)), (7, 1, .as false (.int .i64)), (7, 2, .as false (.int .i64)), (7, 3, .as false (.sl zA9)), (7, 4, .row 705 false 49 (.sl Zad)), (14, 1, .as false (.int .i64)), (14, 2, .as false (.int .i64))], [(7, false), (14, false), (705, false)]⟩
 | _ => ⟨[], [], []⟩
def Zme : (zB5 ⊕ zB6) -> Exit × St
 | (.inl u) => (.ret, Zi1.fillK ZaD ZiW u)
 | (.inr u) => (.exit 0, Zi9.fillK ZaD ZiK u)
def Znl : (zB5 ⊕ zB6) -> Br (Exit × St) := fun z => .sum z (fun u => .ret (.ret, Zi1.fillK ZaD ZiW u)) (fun u => .ret (.exit 0, Zi9.fillK ZaD ZiK u))
def crossF_C0 : Code := Zfm 0 (Za9 ZjC)
def ZnG (G_elemF : zB2 -> Option zB3) (G_crossF : zB1 -> Option zB3) : St -> Br (Exit × St) := ZgH Zdp ZaD 1024 (Zhv .normal) (Zf3.parseK ZaD ZfM) fun x => .opt ((Zhw G_elemF G_crossF) x) Znl
def Zd7 (G_elemF : zB2 -> Option zB3) (G_crossF : zB1 -> Option zB3) : Par := { sh := fun _ => none, k := 0, lo := fun i => bif Nat.beq i 3 then some (ZnG G_elemF G_crossF) else bif Nat.beq i 12 then some Zl7 else none }
theorem ZuZ (G_elemF : zB2 -> Option zB3) (G_crossF : zB1 -> Option zB3) (a : Int) (b : (List Int)) (c : (List (Int × Int))) (d : ZaK) (e : Int) (f : Int) (g : Int) (h : (List zA1)) (i : Int) (j : Int) (k : (List zA2)) (l : Int) (m : Int) (n : zA1) (o : zA2) (p : zA23) : Zek Zdp ZaD (ZgU G_elemF G_crossF) (Zd7 G_elemF G_crossF) ZhX crossF_C1 (Zf6.fillK ZaD ZfG (a, b, c, d, e, f, g, h, i, j, k, l, m, n, o, p, ())) = (Zet (a, b, c, d, e, f, g, h, i, j, k, l, m, n, o, p, ())).bind (ZcJ (fun x => Zf6.fillK ZaD ZfG x) ZnF) := by kernel_rfl
theorem Zlj (G_elemF : zB2 -> Option zB3) (G_crossF : zB1 -> Option zB3) (H_elemF : OC Tryz.prog 29 Zb6 [(.two (.ty false zA5) (.two (.ty false (.sl zA9)) (.row 49 (.sl Zad))))] G_elemF) (H_crossF : OC Tryz.prog 54 Zb0 [(.two (.ty false zA5) (.two (.ty false (.sl zA9)) (.row 49 (.sl Zad))))] G_crossF) (g : Cfg) (hg : ∀ n, Go.PI.look n g.m0 ≠ Option.none -> n ∈ Zdp) : ZaL Zg5 g Zl7 crossF_C1 := ZaL.auto (ZgB G_elemF G_crossF H_elemF H_crossF) hg (Zd7 G_elemF G_crossF) (ZaB.of (l := []) (by kernel_rfl) .nil) ZhX (fun x => Zf6.fillK ZaD ZfG x) (fun s x h => Skel.parseK_ok s x h) Zet ZnF (fun z h => by rcases z with z | z <;> cases h) Zmy (fun z => by rcases z with z | z <;> rfl) (fun (a, b, c, d, e, f, i, j, k, m, o, p, q, r, t, u, ()) => (ZuZ G_elemF G_crossF) a b c d e f i j k m o p q r t u)
theorem Zuu (G_elemF : zB2 -> Option zB3) (G_crossF : zB1 -> Option zB3) (a : Int) (b : (List Int)) (c : (List (Int × Int))) (d : ZaK) (e : Int) (f : Int) (g : (List zA1)) (h : Int) (i : Int) (j : (List zA2)) (k : Int) (l : Int) (m : zA1) (n : zA23) : Zek Zdp ZaD (ZgU G_elemF G_crossF) (Zd7 G_elemF G_crossF) Zhv crossF_C0 (Zf3.fillK ZaD ZfM (a, b, c, d, e, f, g, h, i, j, k, l, m, n, ())) = ((Zeo G_elemF G_crossF) (a, b, c, d, e, f, g, h, i, j, k, l, m, n, ())).bind (ZcJ (fun x => Zf3.fillK ZaD ZfM x) Zme) := by kernel_rfl
theorem Ztx (G_elemF : zB2 -> Option zB3) (G_crossF : zB1 -> Option zB3) (H_elemF : OC Tryz.prog 29 Zb6 [(.two (.ty false zA5) (.two (.ty false (.sl zA9)) (.row 49 (.sl Zad))))] G_elemF) (H_crossF : OC Tryz.prog 54 Zb0 [(.two (.ty false zA5) (.two (.ty false (.sl zA9)) (.row 49 (.sl Zad))))] G_crossF) (g : Cfg) (hg : ∀ n, Go.PI.look n g.m0 ≠ Option.none -> n ∈ Zdp) : ZaL Zg5 g (ZnG G_elemF G_crossF) crossF_C0 := ZaL.auto (ZgB G_elemF G_crossF H_elemF H_crossF) hg (Zd7 G_elemF G_crossF) (ZaB.of (l := [crossF_C1]) (by kernel_rfl) (.cons ((Zlj G_elemF G_crossF H_elemF H_crossF) g hg) (by kernel_rfl) .nil)) Zhv (fun x => Zf3.fillK ZaD ZfM x) (fun s x h => Skel.parseK_ok s x h) (Zeo G_elemF G_crossF) Zme (fun z h => by rcases z with z | z <;> cases h) Znl (fun z => by rcases z with z | z <;> rfl) (fun (a, b, c, d, e, f, i, j, k, m, o, p, q, r, ()) => (Zuu G_elemF G_crossF) a b c d e f i j k m o p q r)
theorem Zu2 (G_elemF : zB2 -> Option zB3) (G_crossF : zB1 -> Option zB3) (p0 : (Za5 × ((List zA2) × zA23))) (p1 : Int) (p2 : (List Int)) (p3 : (List (Int × Int))) (p4 : ZaK) (p5 : Int) (p6 : Int) : Zig (ZgU G_elemF G_crossF) (Zd7 G_elemF G_crossF) ZjC Ze0 ZiI (p0, p1, p2, p3, p4, p5, p6, ()) = (ZgV G_elemF G_crossF) (p0, p1, p2, p3, p4, p5, p6, ()) := by kernel_rfl
theorem Zuy (G_elemF : zB2 -> Option zB3) (G_crossF : zB1 -> Option zB3) (H_elemF : OC Tryz.prog 29 Zb6 [(.two (.ty false zA5) (.two (.ty false (.sl zA9)) (.row 49 (.sl Zad))))] G_elemF) (H_crossF : OC Tryz.prog 54 Zb0 [(.two (.ty false zA5) (.two (.ty false (.sl zA9)) (.row 49 (.sl Zad))))] G_crossF) : OC Zg5 54 Ze0 ZiI (crossF G_elemF G_crossF) := OC.of_tree (ZgB G_elemF G_crossF H_elemF H_crossF) Tryz.func54 (by kernel_rfl) (by kernel_rfl) (p := (Zd7 G_elemF G_crossF)) (fun g hg => ZaB.of (l := [crossF_C0, crossF_C1]) (by kernel_rfl) (.cons ((Ztx G_elemF G_crossF H_elemF H_crossF) g hg) (by kernel_rfl) (.cons ((Zlj G_elemF G_crossF H_elemF H_crossF) g hg) (by kernel_rfl) .nil))) (fun (p0, p1, p2, p3, p4, p5, p6, ()) => (Zu2 G_elemF G_crossF) p0 p1 p2 p3 p4 p5 p6)
def Zbc : Nat -> (zB2 -> Option zB3) × (zB1 -> Option zB3)
 | 0 => (fun _ => none, fun _ => none)
 | k + 1 => (elemF (Zbc k).1 (Zbc k).2, crossF (Zbc k).1 (Zbc k).2)
theorem Zbq : ∀ k, OC Tryz.prog 29 Zb6 [(.two (.ty false zA5) (.two (.ty false (.sl zA9)) (.row 49 (.sl Zad))))] (Zbc k).1 /\ OC Tryz.prog 54 Zb0 [(.two (.ty false zA5) (.two (.ty false (.sl zA9)) (.row 49 (.sl Zad))))] (Zbc k).2
 | 0 => ⟨OC.zero Tryz.func29 (by kernel_rfl), OC.zero Tryz.func54 (by kernel_rfl)⟩
 | k + 1 => ⟨elemF_oc _ _ (Zbq k).1 (Zbq k).2, Zuy _ _ (Zbq k).1 (Zbq k).2⟩
def ZbK (k : Nat) : zB2 -> Option zB3 := (Zbc k).1
theorem ZuP (k : Nat) : OC Tryz.prog 29 Zb6 [(.two (.ty false zA5) (.two (.ty false (.sl zA9)) (.row 49 (.sl Zad))))] (ZbK k) := (Zbq k).1
def ZbS (k : Nat) : zB1 -> Option zB3 := (Zbc k).2
theorem Zto (k : Nat) : OC Tryz.prog 54 Zb0 [(.two (.ty false zA5) (.two (.ty false (.sl zA9)) (.row 49 (.sl Zad))))] (ZbS k) := (Zbq k).2
def elemFF : zB2 -> Option zB3 := fun x => ZbK ((fun x => 2 * x.1.2.1.length + 8) x) x
theorem Zvb : OC Tryz.prog 29 Zb6 [(.two (.ty false zA5) (.two (.ty false (.sl zA9)) (.row 49 (.sl Zad))))] elemFF := OC.deep ZuP (fun x => 2 * x.1.2.1.length + 8)
def crossFF : zB1 -> Option zB3 := fun x => ZbS ((fun x => 2 * x.1.2.1.length + 8) x) x
theorem Zs6 : OC Tryz.prog 54 Zb0 [(.two (.ty false zA5) (.two (.ty false (.sl zA9)) (.row 49 (.sl Zad))))] crossFF := OC.deep Zto (fun x => 2 * x.1.2.1.length + 8)
def cx_elemF : Ctx := Zba cx_againR 29 (ZaV Zb6 [(.two (.ty false zA5) (.two (.ty false (.sl zA9)) (.row 49 (.sl Zad))))] elemFF)
theorem en_elemF : EnvFull Tryz.prog cx_elemF := Zas (ZfS) Zvb.callOk
def cx_crossF : Ctx := Zba cx_elemF 54 (ZaV Zb0 [(.two (.ty false zA5) (.two (.ty false (.sl zA9)) (.row 49 (.sl Zad))))] crossFF)
theorem Zuz : EnvFull Tryz.prog cx_crossF := Zas (en_elemF) Zs6.callOk
def Zih : ((List zA2) × (Int × ((List zA1) × (Int × (Int × ((List zA2) × (Za5 × (zA23 × Unit)))))))) -> Br (((List zA2) × (Int × ((List zA1) × (Int × (Int × ((List zA2) × (Za5 × (zA23 × Unit)))))))) ⊕ zB5) := fun (a, b, c, d, e, f, g, h, ()) =>
 (.cond (decide (b < (a.length : Int)))
 (.cond (decide (0 <= b) && decide (b < (a.length : Int)))
 (.cond (decide (0 <= 0) && decide (0 < (g.1.length : Int)))
 (.opt (fits20 (List.getD g.1 (Int.toNat 0) zV2, a.getD b.toNat zV1, [], ())) fun i =>
 (.cond (!i.1)
 (.ret (.inl (a, IntKind.wrap .i64 (b + 1), c, d, e, f, g, h, ())))
 (.cond ((List.getD g.1 (Int.toNat 0) zV2).2.2.2.2.1 == 1)
 (.cond (decide ((@List.length (ByteArray × ByteArray × ByteArray × Int × Int × List (Int × Int × ByteArray × Bool)) [] + List.length (List.set (List.replicate 1 zV3) 0 ((List.getD g.1 (Int.toNat 0) zV2).1, a.getD b.toNat zV1))) * 88 <= 140737488355328))
 (.opt (elemFF (((c, d, e), f, h), 0, 1, [(0, (a.getD b.toNat zV1).2.2.2.1)], [((List.getD g.1 (Int.toNat 0) zV2).1, a.getD b.toNat zV1)], (a.getD b.toNat zV1).2.2.1, IntKind.wrap .i64 (b + 1), ())) fun j =>
 (.ret (.inl (a, IntKind.wrap .i64 (b + 1), j.1.1.1, j.1.1.2.1, j.1.1.2.2, j.1.2.1, g, j.1.2.2, ()))))
 (.no))
 (.opt (elemFF (((c, d, e), f, h), 0, 1, [(0, (a.getD b.toNat zV1).2.2.2.1)], [], (a.getD b.toNat zV1).2.2.1, IntKind.wrap .i64 (b + 1), ())) fun k =>
 (.ret (.inl (a, IntKind.wrap .i64 (b + 1), k.1.1.1, k.1.1.2.1, k.1.1.2.2, k.1.2.1, g, k.1.2.2, ())))))))
 (.no))
 (.no))
 (.ret (.inr (c, d, e, f, h, ()))))
def allM_w0 := Zag fun x => (Zih x).run
def allM_B : (Za5 × ((List zA2) × Unit)) -> Br (zA23 × Unit) := fun (p0, p1, ()) =>
 (.cond ((p0.1.length : Int) == 0)
 (.ret ([], ()))
 (.opt (allM_w0 (p1, 0, p0.1, p0.2.1, p0.2.2, p1, p0, [], ())) fun a =>
 (.opt (sortP (a.2.2.2.2.1, ())) fun b =>
 (.ret (b.1, ())))))
def allM := fun x => (allM_B x).run
abbrev Zqy : List (Bool × Pat) := [(false, .ty false zA5), (false, .ty false (.sl zA9))]
abbrev Zmw : List Pat := [.ty false (.sl (.sl Zad))]
def allM_L : List Lp := [
 .mk 5 (shX 60 [(2, .c (.ref 1026 0 0)), (5, .c (.ref 1029 0 0))] [(1026, []), (1029, [.bad, .bad, .bad, .bad, (.mfull 1724)]), (1724, [])] [.slot 1 false (.sl zA9), sI 6, .cell 1029 0 false (.sl ZaU), .cell 1029 1 false (.int .i64), .cell 1029 2 false (.int .i64), .cell 1029 3 false (.sl zA9), .tv 1026 false zA5, .ar 1724 false 49 (.sl Zad)] ⟨[(1, .as false (.sl zA9)), (2, .keep), (5, .keep), (6, .as false (.int .i64))], [(5, 0, .as false (.sl ZaU)), (5, 1, .as false (.int .i64)), (5, 2, .as false (.int .i64)), (5, 3, .as false (.sl zA9)), (5, 4, .row 700 false 49 (.sl Zad))], [(2, false), (5, false), (700, false)]⟩) ([exX (.exit 0) 60 [(5, .c (.ref 1029 0 0))] [(1029, [.bad, .bad, .bad, .bad, (.mfull 1725)]), (1725, [])] [.cell 1029 0 false (.sl ZaU), .cell 1029 1 false (.int .i64), .cell 1029 2 false (.int .i64), .cell 1029 3 false (.sl zA9), .ar 1725 false 49 (.sl Zad)] ⟨[(5, .keep)], [(5, 0, .as false (.sl ZaU)), (5, 1, .as false (.int .i64)), (5, 2, .as false (.int .i64)), (5, 3, .as false (.sl zA9)), (5, 4, .row 701 false 49 (.sl Zad))], [(5, false), (701, false)]⟩]) Zih]
theorem allM_oc : OC Tryz.prog 10 Zqy Zmw allM := OC.lp Zuz 1024 Tryz.func10 allM_L (by kernel_rfl) ⟨fun _ => by kernel_rfl, trivial⟩ (fun _ => by kernel_rfl)
end
end Go.Proofs.YtkbdofnbagmlfaaGreat
