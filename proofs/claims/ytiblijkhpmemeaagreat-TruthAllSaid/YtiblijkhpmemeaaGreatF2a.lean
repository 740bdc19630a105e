/- Contracts of functions. Printed by auto.py. -/
import Derived.Test.YtiblijkhpmemeaaGreatGe
import Derived.Test.YtiblijkhpmemeaaGreatHf
import Derived.Test.YtiblijkhpmemeaaGreatHa
namespace Go.Proofs.YtiblijkhpmemeaaGreat
set_option maxRecDepth 100000
open Go.PI Go
abbrev zIF2a1 : List (Bool × Pat) := [(false, (.two (.ty false zA5) (.two (.ty false (.sl zA9)) (.row 41 (.sl zA16))))), (false, .ty false (.int .i64)), (false, .ty false (.sl (.int .i64))), (false, .ty false (.sl zA16)), (false, .ty false zA35), (false, .ty false (.int .i64)), (false, .ty false (.int .i64))]
abbrev zIF2a2 : List (Bool × Pat) := [(false, (.two (.ty false zA5) (.two (.ty false (.sl zA9)) (.row 41 (.sl zA16))))), (false, .ty false (.int .i64)), (false, .ty false (.int .i64)), (false, .ty false (.sl zA16)), (false, .ty false zA35), (false, .ty false (.int .i64)), (false, .ty false (.int .i64))]
noncomputable def elemF_l0 (G_elemF : zB2 → Option zB3) (G_crossF : zB1 → Option zB3) : (Int × (Int × zB4)) → Br ((Int × (Int × zB4)) ⊕ zB6) := fun (a, b, c, d, e, f, g, h, i, j, k, l, m, n, ()) =>
 (.cond (decide (f < (↑(List.length j) : Int)))
 (.cond (decide (0 ≤ f) && decide (f < (↑(List.length j) : Int)))
 (.cond (decide (IntKind.wrap .i64 ((List.getD j (Int.toNat f) zV1).2.2.1 - e) > h))
 (.ret (.inl (a, b, c, d, e, IntKind.wrap .i64 (f + 1), g, h, i, j, k, l, m, n, ())))
 (.opt (fits20 (m, List.getD j (Int.toNat f) zV1, d, ())) fun o =>
 (.cond (!o.1)
 (.ret (.inl (a, b, c, d, e, IntKind.wrap .i64 (f + 1), g, h, i, j, k, l, m, n, ())))
 (.cond (m.2.2.2.2.1 == 1)
 (.cond (decide ((@List.length (ByteArray × ByteArray × ByteArray × Int × Int × List (Int × Int × ByteArray × Bool)) (List.replicate 0 zV3) + List.length d) * 88 ≤ 140737488355328))
 (.cond (decide ((List.length (List.replicate 0 zV3 ++ d) + List.length (List.set (List.replicate 1 zV3) 0 (m.1, List.getD j (Int.toNat f) zV1))) * 88 ≤ 140737488355328))
 (.cond (decide ((List.length (List.replicate 0 (0, 0)) + List.length c) * 16 ≤ 140737488355328))
 (.cond (decide ((List.length (List.replicate 0 (0, 0) ++ c) + List.length (List.set (List.replicate 1 (0, 0)) 0 (a, (List.getD j (Int.toNat f) zV1).2.2.2.1))) * 16 ≤ 140737488355328))
 (.opt (G_elemF (((g, h, i), j, n), a, IntKind.wrap .i64 (b + 1), List.replicate 0 (0, 0) ++ c ++ List.set (List.replicate 1 (0, 0)) 0 (a, (List.getD j (Int.toNat f) zV1).2.2.2.1), List.replicate 0 zV3 ++ d ++ List.set (List.replicate 1 zV3) 0 (m.1, List.getD j (Int.toNat f) zV1), e, IntKind.wrap .i64 (f + 1), ())) fun p =>
 (.ret (.inl (a, b, c, d, e, IntKind.wrap .i64 (f + 1), p.1.1.1, p.1.1.2.1, p.1.1.2.2, p.1.2.1, k, l, m, p.1.2.2, ()))))
 (.no))
 (.no))
 (.no))
 (.no))
 (.cond (decide ((List.length (List.replicate 0 (0, 0)) + List.length c) * 16 ≤ 140737488355328))
 (.cond (decide ((List.length (List.replicate 0 (0, 0) ++ c) + List.length (List.set (List.replicate 1 (0, 0)) 0 (a, (List.getD j (Int.toNat f) zV1).2.2.2.1))) * 16 ≤ 140737488355328))
 (.opt (G_elemF (((g, h, i), j, n), a, IntKind.wrap .i64 (b + 1), List.replicate 0 (0, 0) ++ c ++ List.set (List.replicate 1 (0, 0)) 0 (a, (List.getD j (Int.toNat f) zV1).2.2.2.1), d, e, IntKind.wrap .i64 (f + 1), ())) fun q =>
 (.ret (.inl (a, b, c, d, e, IntKind.wrap .i64 (f + 1), q.1.1.1, q.1.1.2.1, q.1.1.2.2, q.1.2.1, k, l, m, q.1.2.2, ()))))
 (.no))
 (.no))))))
 (.no))
 (.ret (.inr (g, h, i, j, k, l, n, ()))))
noncomputable def elemF_w0 (G_elemF : zB2 → Option zB3) (G_crossF : zB1 → Option zB3) : (Int × (Int × zB4)) → Option zB6 := iterO fun x => ((elemF_l0 G_elemF G_crossF) x).run
noncomputable def elemF_B (G_elemF : zB2 → Option zB3) (G_crossF : zB1 → Option zB3) : zB2 → Br zB3 := fun (p0, p1, p2, p3, p4, p5, p6, ()) =>
 (.cond (decide (0 ≤ p1) && decide (p1 < (↑(List.length p0.1.1) : Int)))
 (.cond (decide (p2 ≥ (List.getD p0.1.1 (Int.toNat p1) zV2).2.2.2.1))
 (.opt (nextF (((p0.1.1, p0.1.2.1, p0.1.2.2), p0.2.1, p0.2.2), p1, ())) fun a =>
 (.cond (decide (a.1.1 < 0))
 (.cond (decide ((List.length (List.replicate 0 (0, 0)) + List.length p3) * 16 ≤ 140737488355328))
 (.cond (decide ((List.length p0.2.2 + List.length (List.set (List.replicate 1 []) 0 (List.replicate 0 (0, 0) ++ p3))) * 24 ≤ 140737488355328))
 (.cond (decide (p2 ≥ (List.getD p0.1.1 (Int.toNat p1) zV2).2.2.2.2.1))
 (.ret (((p0.1.1, p0.1.2.1, p0.1.2.2), p0.2.1, p0.2.2 ++ List.set (List.replicate 1 []) 0 (List.replicate 0 (0, 0) ++ p3)), ()))
 (.opt ((elemF_w0 G_elemF G_crossF) (p1, p2, p3, p4, p5, p6, p0.1.1, p0.1.2.1, p0.1.2.2, p0.2.1, 0, 0, List.getD p0.1.1 (Int.toNat p1) zV2, p0.2.2 ++ List.set (List.replicate 1 []) 0 (List.replicate 0 (0, 0) ++ p3), ())) fun b =>
 (.ret (((b.1, b.2.1, b.2.2.1), b.2.2.2.1, b.2.2.2.2.2.2.1), ()))))
 (.no))
 (.no))
 (.opt (G_crossF (((p0.1.1, p0.1.2.1, p0.1.2.2), p0.2.1, p0.2.2), a.1.1, a.1.2, p3, p4, p5, p6, ())) fun c =>
 (.cond (decide (p2 ≥ (List.getD p0.1.1 (Int.toNat p1) zV2).2.2.2.2.1))
 (.ret (((c.1.1.1, c.1.1.2.1, c.1.1.2.2), c.1.2.1, c.1.2.2), ()))
 (.opt ((elemF_w0 G_elemF G_crossF) (p1, p2, p3, p4, p5, p6, c.1.1.1, c.1.1.2.1, c.1.1.2.2, c.1.2.1, 0, 0, List.getD p0.1.1 (Int.toNat p1) zV2, c.1.2.2, ())) fun d =>
 (.ret (((d.1, d.2.1, d.2.2.1), d.2.2.2.1, d.2.2.2.2.2.2.1), ())))))))
 (.cond (decide (p2 ≥ (List.getD p0.1.1 (Int.toNat p1) zV2).2.2.2.2.1))
 (.ret (((p0.1.1, p0.1.2.1, p0.1.2.2), p0.2.1, p0.2.2), ()))
 (.opt ((elemF_w0 G_elemF G_crossF) (p1, p2, p3, p4, p5, p6, p0.1.1, p0.1.2.1, p0.1.2.2, p0.2.1, 0, 0, List.getD p0.1.1 (Int.toNat p1) zV2, p0.2.2, ())) fun e =>
 (.ret (((e.1, e.2.1, e.2.2.1), e.2.2.2.1, e.2.2.2.2.2.2.1), ())))))
 (.no))
noncomputable def elemF (G_elemF : zB2 → Option zB3) (G_crossF : zB1 → Option zB3) : zB2 → Option zB3 := fun x => ((elemF_B G_elemF G_crossF) x).run
abbrev elemF_ins : List (Bool × Pat) := zIF2a2
abbrev elemF_outs : List Pat := [(.two (.ty false zA5) (.two (.ty false (.sl zA9)) (.row 41 (.sl zA16))))]
noncomputable abbrev elemF_f : Func := Tryz.f33
noncomputable abbrev elemF_P : Program := Tryz.prog
abbrev elemF_kp : List Nat := kpOf elemF_ins
abbrev elemF_kf : List Nat := kfOf elemF_ins
noncomputable def elemF_c (G_elemF : zB2 → Option zB3) (G_crossF : zB1 → Option zB3) : Ctx := { (addO (addO cx_againR 33 (ocOrc zIF2a2 [(.two (.ty false zA5) (.two (.ty false (.sl zA9)) (.row 41 (.sl zA16))))] G_elemF)) 64 (ocOrc zIF2a1 [(.two (.ty false zA5) (.two (.ty false (.sl zA9)) (.row 41 (.sl zA16))))] G_crossF)) with base := 1024 }
theorem elemF_env (G_elemF : zB2 → Option zB3) (G_crossF : zB1 → Option zB3) (H_elemF : OC Tryz.prog 33 zIF2a2 [(.two (.ty false zA5) (.two (.ty false (.sl zA9)) (.row 41 (.sl zA16))))] G_elemF) (H_crossF : OC Tryz.prog 64 zIF2a1 [(.two (.ty false zA5) (.two (.ty false (.sl zA9)) (.row 41 (.sl zA16))))] G_crossF) : EnvFull elemF_P (elemF_c G_elemF G_crossF) := env_base ((env_add (env_add en_againR (OC.callOk H_elemF)) (OC.callOk H_crossF))) 1024
abbrev elemF_H0 : List Hole := [.slot 1 false (.int .i64), .slot 2 false (.int .i64), .slot 3 false (.sl zA16), .slot 4 false zA35, .slot 5 false (.int .i64), .slot 18 false (.int .i64), .cell 1031 0 false (.sl zA19), .cell 1031 1 false (.int .i64), .cell 1031 2 false (.int .i64), .cell 1031 3 false (.sl zA9), .cell 1038 1 false (.int .i64), .cell 1038 2 false (.int .i64), .tv 1039 false zA19, .ar 1724 false 41 (.sl zA16)]
def elemF_S0 : Skel := ⟨120, [(7, D.c (C.ref 1031 0 0)), (14, D.c (C.ref 1038 0 0)), (15, D.c (C.ref 1039 0 0))], [(1031, [.bad, .bad, .bad, .bad, (.mfull 1724)]), (1038, [C.nils, .bad, .bad, C.nils, C.nils]), (1039, []), (1724, [])]⟩
abbrev elemF_H0e0 : List Hole := [.cell 1031 0 false (.sl zA19), .cell 1031 1 false (.int .i64), .cell 1031 2 false (.int .i64), .cell 1031 3 false (.sl zA9), .cell 1038 1 false (.int .i64), .cell 1038 2 false (.int .i64), .ar 1725 false 41 (.sl zA16)]
def elemF_S0e0 : Skel := ⟨120, [(7, D.c (C.ref 1031 0 0)), (14, D.c (C.ref 1038 0 0))], [(1031, [.bad, .bad, .bad, .bad, (.mfull 1725)]), (1038, [C.nils, .bad, .bad, C.nils, C.nils]), (1725, [])]⟩
def elemF_h0 : Exit → Shape
 | .normal => ⟨[(1, .as false (.int .i64)), (2, .as false (.int .i64)), (3, .as false (.sl zA16)), (4, .as false zA35), (5, .as false (.int .i64)), (7, .keep), (14, .keep), (15, .keep), (18, .as false (.int .i64))], [(7, 0, .as false (.sl zA19)), (7, 1, .as false (.int .i64)), (7, 2, .as false (.int .i64)), (7, 3, .as false (.sl zA9)), (7, 4, .row 700 false 41 (.sl zA16)), (14, 1, .as false (.int .i64)), (14, 2, .as false (.int .i64))], [(7, false), (14, false), (15, false), (700, false)]⟩
 | .exit 0 => ⟨[(7, .keep), (14, .keep)], [(7, 0, .as false (.sl zA19)), (7, 1, .as false (.int .i64)), (7, 2, .as false (.int .i64)), (7, 3, .as false (.sl zA9)), (7, 4, .row 701 false 41 (.sl zA16)), (14, 1, .as false (.int .i64)), (14, 2, .as false (.int .i64))], [(7, false), (14, false), (701, false)]⟩
 | _ => ⟨[], [], []⟩
def elemF_e0 : zB6 → Exit × St
 | u => (.exit 0, elemF_S0e0.fillK elemF_kf elemF_H0e0 u)
def elemF_t0 : zB6 → Br (Exit × St) := fun u => .ret (.exit 0, elemF_S0e0.fillK elemF_kf elemF_H0e0 u)
noncomputable def elemF_C0 : Code := loopAt 0 (bodyOf elemF_f)
noncomputable def elemF_o0 (G_elemF : zB2 → Option zB3) (G_crossF : zB1 → Option zB3) : St → Br (Exit × St) := loopF elemF_kp elemF_kf 1024 (elemF_h0 .normal) (elemF_S0.parseK elemF_kf elemF_H0) fun x => .opt ((elemF_w0 G_elemF G_crossF) x) elemF_t0
noncomputable def elemF_p (G_elemF : zB2 → Option zB3) (G_crossF : zB1 → Option zB3) : Par := { sh := fun _ => none, k := 0, lo := fun i => bif Nat.beq i 10 then some (elemF_o0 G_elemF G_crossF) else none }
theorem elemF_r0 (G_elemF : zB2 → Option zB3) (G_crossF : zB1 → Option zB3) (a : Int) (b : Int) (c : (List (Int × Int))) (d : zA21) (e : Int) (f : Int) (g : (List zA1)) (h : Int) (i : Int) (j : (List zA2)) (k : Int) (l : Int) (m : zA1) (n : zA23) : roundF elemF_kp elemF_kf (elemF_c G_elemF G_crossF) (elemF_p G_elemF G_crossF) elemF_h0 elemF_C0 (elemF_S0.fillK elemF_kf elemF_H0 (a, b, c, d, e, f, g, h, i, j, k, l, m, n, ())) = ((elemF_l0 G_elemF G_crossF) (a, b, c, d, e, f, g, h, i, j, k, l, m, n, ())).bind (loopLeaf (fun x => elemF_S0.fillK elemF_kf elemF_H0 x) elemF_e0) := by kernel_rfl
theorem elemF_ok0 (G_elemF : zB2 → Option zB3) (G_crossF : zB1 → Option zB3) (H_elemF : OC Tryz.prog 33 zIF2a2 [(.two (.ty false zA5) (.two (.ty false (.sl zA9)) (.row 41 (.sl zA16))))] G_elemF) (H_crossF : OC Tryz.prog 64 zIF2a1 [(.two (.ty false zA5) (.two (.ty false (.sl zA9)) (.row 41 (.sl zA16))))] G_crossF) (g : Cfg) (hg : ∀ n, Go.PI.look n g.m0 ≠ Option.none → n ∈ elemF_kp) : LoopOk elemF_P g (elemF_o0 G_elemF G_crossF) elemF_C0 := LoopOk.auto (elemF_env G_elemF G_crossF H_elemF H_crossF) hg (elemF_p G_elemF G_crossF) (LoOk.of (l := []) (by kernel_rfl) .nil) elemF_h0 (fun x => elemF_S0.fillK elemF_kf elemF_H0 x) (fun s x h => Skel.parseK_ok s x h) (elemF_l0 G_elemF G_crossF) elemF_e0 (fun _ h => by cases h) elemF_t0 (fun _ => rfl) (fun (a, b, c, d, e, f, i, j, k, m, o, p, q, r, ()) => (elemF_r0 G_elemF G_crossF) a b c d e f i j k m o p q r)
theorem elemF_eq (G_elemF : zB2 → Option zB3) (G_crossF : zB1 → Option zB3) (p0 : (zA10 × ((List zA2) × zA23))) (p1 : Int) (p2 : Int) (p3 : (List (Int × Int))) (p4 : zA21) (p5 : Int) (p6 : Int) : ocRun (elemF_c G_elemF G_crossF) (elemF_p G_elemF G_crossF) elemF_f elemF_ins elemF_outs (p0, p1, p2, p3, p4, p5, p6, ()) = (elemF_B G_elemF G_crossF) (p0, p1, p2, p3, p4, p5, p6, ()) := by kernel_rfl
theorem elemF_oc (G_elemF : zB2 → Option zB3) (G_crossF : zB1 → Option zB3) (H_elemF : OC Tryz.prog 33 zIF2a2 [(.two (.ty false zA5) (.two (.ty false (.sl zA9)) (.row 41 (.sl zA16))))] G_elemF) (H_crossF : OC Tryz.prog 64 zIF2a1 [(.two (.ty false zA5) (.two (.ty false (.sl zA9)) (.row 41 (.sl zA16))))] G_crossF) : OC elemF_P 33 elemF_ins elemF_outs (elemF G_elemF G_crossF) := OC.of_tree (elemF_env G_elemF G_crossF H_elemF H_crossF) Tryz.func33 (by kernel_rfl) (by kernel_rfl) (p := (elemF_p G_elemF G_crossF)) (fun g hg => LoOk.of (l := [elemF_C0]) (by kernel_rfl) (.cons ((elemF_ok0 G_elemF G_crossF H_elemF H_crossF) g hg) (by kernel_rfl) .nil)) (fun (p0, p1, p2, p3, p4, p5, p6, ()) => (elemF_eq G_elemF G_crossF) p0 p1 p2 p3 p4 p5 p6)
noncomputable def crossF_l1 : (Int × ((List Int) × ((List (Int × Int)) × (zA21 × (Int × (Int × (Int × ((List zA1) × (Int × (Int × ((List zA2) × (Int × (Int × (zA1 × (zA2 × (zA23 × Unit)))))))))))))))) → Br ((Int × ((List Int) × ((List (Int × Int)) × (zA21 × (Int × (Int × (Int × ((List zA1) × (Int × (Int × ((List zA2) × (Int × (Int × (zA1 × (zA2 × (zA23 × Unit)))))))))))))))) ⊕ (zB5 ⊕ (Int × ((List Int) × zB4)))) := fun (a, b, c, d, e, f, g, h, i, j, k, l, m, n, o, p, ()) =>
 (.cond (decide (g < (↑(List.length b) : Int)))
 (.cond (decide (0 ≤ g) && decide (g < (↑(List.length b) : Int)))
 (.cond (decide (0 ≤ List.getD b (Int.toNat g) 0) && decide (List.getD b (Int.toNat g) 0 < (↑(List.length h) : Int)))
 (.opt (fits20 (List.getD h (Int.toNat (List.getD b (Int.toNat g) 0)) zV2, o, d, ())) fun q =>
 (.cond q.1
 (.ret (.inr (.inl (h, i, j, k, p, ()))))
 (.ret (.inl (a, b, c, d, e, f, IntKind.wrap .i64 (g + 1), h, i, j, k, l, m, n, o, p, ())))))
 (.no))
 (.no))
 (.ret (.inr (.inr (a, b, c, d, e, f, h, i, j, k, l, m, n, p, ())))))
noncomputable def crossF_w1 := iterO fun x => (crossF_l1 x).run
noncomputable def crossF_l0 (G_elemF : zB2 → Option zB3) (G_crossF : zB1 → Option zB3) : (Int × ((List Int) × zB4)) → Br ((Int × ((List Int) × zB4)) ⊕ (zB5 ⊕ zB6)) := fun (a, b, c, d, e, f, g, h, i, j, k, l, m, n, ()) =>
 (.cond (decide (f < (↑(List.length j) : Int)))
 (.cond (decide (0 ≤ f) && decide (f < (↑(List.length j) : Int)))
 (.cond (decide (IntKind.wrap .i64 ((List.getD j (Int.toNat f) zV1).2.2.1 - e) ≤ h))
 (.opt (fits20 (m, List.getD j (Int.toNat f) zV1, d, ())) fun o =>
 (.cond o.1
 (.cond (m.2.2.2.2.1 == 1)
 (.cond (decide ((@List.length (ByteArray × ByteArray × ByteArray × Int × Int × List (Int × Int × ByteArray × Bool)) (List.replicate 0 zV3) + List.length d) * 88 ≤ 140737488355328))
 (.cond (decide ((List.length (List.replicate 0 zV3 ++ d) + List.length (List.set (List.replicate 1 zV3) 0 (m.1, List.getD j (Int.toNat f) zV1))) * 88 ≤ 140737488355328))
 (.cond (decide ((List.length (List.replicate 0 (0, 0)) + List.length c) * 16 ≤ 140737488355328))
 (.cond (decide ((List.length (List.replicate 0 (0, 0) ++ c) + List.length (List.set (List.replicate 1 (0, 0)) 0 (a, (List.getD j (Int.toNat f) zV1).2.2.2.1))) * 16 ≤ 140737488355328))
 (.opt (G_elemF (((g, h, i), j, n), a, 1, List.replicate 0 (0, 0) ++ c ++ List.set (List.replicate 1 (0, 0)) 0 (a, (List.getD j (Int.toNat f) zV1).2.2.2.1), List.replicate 0 zV3 ++ d ++ List.set (List.replicate 1 zV3) 0 (m.1, List.getD j (Int.toNat f) zV1), e, IntKind.wrap .i64 (f + 1), ())) fun p =>
 (.opt (crossF_w1 (a, b, c, d, e, f, 0, p.1.1.1, p.1.1.2.1, p.1.1.2.2, p.1.2.1, k, l, m, List.getD j (Int.toNat f) zV1, p.1.2.2, ())) fun q =>
 (.sum q (fun r =>
 (.ret (.inr (.inl (r.1, r.2.1, r.2.2.1, r.2.2.2.1, r.2.2.2.2.1, ()))))) (fun s =>
 (.ret (.inl (s.1, s.2.1, s.2.2.1, s.2.2.2.1, s.2.2.2.2.1, IntKind.wrap .i64 (s.2.2.2.2.2.1 + 1), s.2.2.2.2.2.2.1, s.2.2.2.2.2.2.2.1, s.2.2.2.2.2.2.2.2.1, s.2.2.2.2.2.2.2.2.2.1, s.2.2.2.2.2.2.2.2.2.2.1, s.2.2.2.2.2.2.2.2.2.2.2.1, s.2.2.2.2.2.2.2.2.2.2.2.2.1, s.2.2.2.2.2.2.2.2.2.2.2.2.2.1, ())))))))
 (.no))
 (.no))
 (.no))
 (.no))
 (.cond (decide ((List.length (List.replicate 0 (0, 0)) + List.length c) * 16 ≤ 140737488355328))
 (.cond (decide ((List.length (List.replicate 0 (0, 0) ++ c) + List.length (List.set (List.replicate 1 (0, 0)) 0 (a, (List.getD j (Int.toNat f) zV1).2.2.2.1))) * 16 ≤ 140737488355328))
 (.opt (G_elemF (((g, h, i), j, n), a, 1, List.replicate 0 (0, 0) ++ c ++ List.set (List.replicate 1 (0, 0)) 0 (a, (List.getD j (Int.toNat f) zV1).2.2.2.1), d, e, IntKind.wrap .i64 (f + 1), ())) fun t =>
 (.opt (crossF_w1 (a, b, c, d, e, f, 0, t.1.1.1, t.1.1.2.1, t.1.1.2.2, t.1.2.1, k, l, m, List.getD j (Int.toNat f) zV1, t.1.2.2, ())) fun u =>
 (.sum u (fun v =>
 (.ret (.inr (.inl (v.1, v.2.1, v.2.2.1, v.2.2.2.1, v.2.2.2.2.1, ()))))) (fun w =>
 (.ret (.inl (w.1, w.2.1, w.2.2.1, w.2.2.2.1, w.2.2.2.2.1, IntKind.wrap .i64 (w.2.2.2.2.2.1 + 1), w.2.2.2.2.2.2.1, w.2.2.2.2.2.2.2.1, w.2.2.2.2.2.2.2.2.1, w.2.2.2.2.2.2.2.2.2.1, w.2.2.2.2.2.2.2.2.2.2.1, w.2.2.2.2.2.2.2.2.2.2.2.1, w.2.2.2.2.2.2.2.2.2.2.2.2.1, w.2.2.2.2.2.2.2.2.2.2.2.2.2.1, ())))))))
 (.no))
 (.no)))
 (.opt (crossF_w1 (a, b, c, d, e, f, 0, g, h, i, j, k, l, m, List.getD j (Int.toNat f) zV1, n, ())) fun x =>
 (.sum x (fun y =>
 (.ret (.inr (.inl (y.1, y.2.1, y.2.2.1, y.2.2.2.1, y.2.2.2.2.1, ()))))) (fun z =>
 (.ret (.inl (z.1, z.2.1, z.2.2.1, z.2.2.2.1, z.2.2.2.2.1, IntKind.wrap .i64 (z.2.2.2.2.2.1 + 1), z.2.2.2.2.2.2.1, z.2.2.2.2.2.2.2.1, z.2.2.2.2.2.2.2.2.1, z.2.2.2.2.2.2.2.2.2.1, z.2.2.2.2.2.2.2.2.2.2.1, z.2.2.2.2.2.2.2.2.2.2.2.1, z.2.2.2.2.2.2.2.2.2.2.2.2.1, z.2.2.2.2.2.2.2.2.2.2.2.2.2.1, ()))))))))
 (.opt (crossF_w1 (a, b, c, d, e, f, 0, g, h, i, j, k, l, m, List.getD j (Int.toNat f) zV1, n, ())) fun aa =>
 (.sum aa (fun ab =>
 (.ret (.inr (.inl (ab.1, ab.2.1, ab.2.2.1, ab.2.2.2.1, ab.2.2.2.2.1, ()))))) (fun ac =>
 (.ret (.inl (ac.1, ac.2.1, ac.2.2.1, ac.2.2.2.1, ac.2.2.2.2.1, IntKind.wrap .i64 (ac.2.2.2.2.2.1 + 1), ac.2.2.2.2.2.2.1, ac.2.2.2.2.2.2.2.1, ac.2.2.2.2.2.2.2.2.1, ac.2.2.2.2.2.2.2.2.2.1, ac.2.2.2.2.2.2.2.2.2.2.1, ac.2.2.2.2.2.2.2.2.2.2.2.1, ac.2.2.2.2.2.2.2.2.2.2.2.2.1, ac.2.2.2.2.2.2.2.2.2.2.2.2.2.1, ())))))))
 (.no))
 (.ret (.inr (.inr (g, h, i, j, k, l, n, ())))))
noncomputable def crossF_w0 (G_elemF : zB2 → Option zB3) (G_crossF : zB1 → Option zB3) : (Int × ((List Int) × zB4)) → Option (zB5 ⊕ zB6) := iterO fun x => ((crossF_l0 G_elemF G_crossF) x).run
noncomputable def crossF_B (G_elemF : zB2 → Option zB3) (G_crossF : zB1 → Option zB3) : zB1 → Br zB3 := fun (p0, p1, p2, p3, p4, p5, p6, ()) =>
 (.cond (decide (0 ≤ p1) && decide (p1 < (↑(List.length p0.1.1) : Int)))
 (.opt ((crossF_w0 G_elemF G_crossF) (p1, p2, p3, p4, p5, p6, p0.1.1, p0.1.2.1, p0.1.2.2, p0.2.1, 0, 0, List.getD p0.1.1 (Int.toNat p1) zV2, p0.2.2, ())) fun a =>
 (.sum a (fun b =>
 (.ret (((b.1, b.2.1, b.2.2.1), b.2.2.2.1, b.2.2.2.2.1), ()))) (fun c =>
 (.ret (((c.1, c.2.1, c.2.2.1), c.2.2.2.1, c.2.2.2.2.2.2.1), ())))))
 (.no))
noncomputable def crossF (G_elemF : zB2 → Option zB3) (G_crossF : zB1 → Option zB3) : zB1 → Option zB3 := fun x => ((crossF_B G_elemF G_crossF) x).run
abbrev crossF_ins : List (Bool × Pat) := zIF2a1
abbrev crossF_outs : List Pat := [(.two (.ty false zA5) (.two (.ty false (.sl zA9)) (.row 41 (.sl zA16))))]
noncomputable abbrev crossF_f : Func := Tryz.f64
noncomputable abbrev crossF_P : Program := Tryz.prog
abbrev crossF_kp : List Nat := kpOf crossF_ins
abbrev crossF_kf : List Nat := kfOf crossF_ins
noncomputable def crossF_c (G_elemF : zB2 → Option zB3) (G_crossF : zB1 → Option zB3) : Ctx := { (addO (addO cx_againR 33 (ocOrc zIF2a2 [(.two (.ty false zA5) (.two (.ty false (.sl zA9)) (.row 41 (.sl zA16))))] G_elemF)) 64 (ocOrc zIF2a1 [(.two (.ty false zA5) (.two (.ty false (.sl zA9)) (.row 41 (.sl zA16))))] G_crossF)) with base := 1024 }
theorem crossF_env (G_elemF : zB2 → Option zB3) (G_crossF : zB1 → Option zB3) (H_elemF : OC Tryz.prog 33 zIF2a2 [(.two (.ty false zA5) (.two (.ty false (.sl zA9)) (.row 41 (.sl zA16))))] G_elemF) (H_crossF : OC Tryz.prog 64 zIF2a1 [(.two (.ty false zA5) (.two (.ty false (.sl zA9)) (.row 41 (.sl zA16))))] G_crossF) : EnvFull crossF_P (crossF_c G_elemF G_crossF) := env_base ((env_add (env_add en_againR (OC.callOk H_elemF)) (OC.callOk H_crossF))) 1024
abbrev crossF_H1 : List Hole := [.slot 1 false (.int .i64), .slot 2 false (.sl (.int .i64)), .slot 3 false (.sl zA16), .slot 4 false zA35, .slot 5 false (.int .i64), .slot 16 false (.int .i64), .slot 19 false (.int .i64), .cell 1031 0 false (.sl zA19), .cell 1031 1 false (.int .i64), .cell 1031 2 false (.int .i64), .cell 1031 3 false (.sl zA9), .cell 1038 1 false (.int .i64), .cell 1038 2 false (.int .i64), .tv 1039 false zA19, .tv 1041 false zA9, .ar 1724 false 41 (.sl zA16)]
def crossF_S1 : Skel := ⟨102, [(7, D.c (C.ref 1031 0 0)), (14, D.c (C.ref 1038 0 0)), (15, D.c (C.ref 1039 0 0)), (17, D.c (C.ref 1041 0 0))], [(1031, [.bad, .bad, .bad, .bad, (.mfull 1724)]), (1038, [C.nils, .bad, .bad, C.nils, C.nils]), (1039, []), (1041, []), (1724, [])]⟩
abbrev crossF_H1e0 : List Hole := [.cell 1038 0 false (.sl zA19), .cell 1038 1 false (.int .i64), .cell 1038 2 false (.int .i64), .cell 1038 3 false (.sl zA9), .ar 1725 false 41 (.sl zA16)]
def crossF_S1e0 : Skel := ⟨102, [(14, D.c (C.ref 1038 0 0))], [(1038, [.bad, .bad, .bad, .bad, (.mfull 1725)]), (1725, [])]⟩
abbrev crossF_H1e1 : List Hole := [.slot 1 false (.int .i64), .slot 2 false (.sl (.int .i64)), .slot 3 false (.sl zA16), .slot 4 false zA35, .slot 5 false (.int .i64), .slot 16 false (.int .i64), .cell 1031 0 false (.sl zA19), .cell 1031 1 false (.int .i64), .cell 1031 2 false (.int .i64), .cell 1031 3 false (.sl zA9), .cell 1038 1 false (.int .i64), .cell 1038 2 false (.int .i64), .tv 1039 false zA19, .ar 1726 false 41 (.sl zA16)]
def crossF_S1e1 : Skel := ⟨102, [(7, D.c (C.ref 1031 0 0)), (14, D.c (C.ref 1038 0 0)), (15, D.c (C.ref 1039 0 0))], [(1031, [.bad, .bad, .bad, .bad, (.mfull 1726)]), (1038, [C.nils, .bad, .bad, C.nils, C.nils]), (1039, []), (1726, [])]⟩
def crossF_h1 : Exit → Shape
 | .normal => ⟨[(1, .as false (.int .i64)), (2, .as false (.sl (.int .i64))), (3, .as false (.sl zA16)), (4, .as false zA35), (5, .as false (.int .i64)), (7, .keep), (14, .keep), (15, .keep), (16, .as false (.int .i64)), (17, .keep), (19, .as false (.int .i64))], [(7, 0, .as false (.sl zA19)), (7, 1, .as false (.int .i64)), (7, 2, .as false (.int .i64)), (7, 3, .as false (.sl zA9)), (7, 4, .row 700 false 41 (.sl zA16)), (14, 1, .as false (.int .i64)), (14, 2, .as false (.int .i64))], [(7, false), (14, false), (15, false), (17, false), (700, false)]⟩
 | .ret => ⟨[(14, .keep)], [(14, 0, .as false (.sl zA19)), (14, 1, .as false (.int .i64)), (14, 2, .as false (.int .i64)), (14, 3, .as false (.sl zA9)), (14, 4, .row 701 false 41 (.sl zA16))], [(14, false), (701, false)]⟩
 | .exit 2 => ⟨[(1, .as false (.int .i64)), (2, .as false (.sl (.int .i64))), (3, .as false (.sl zA16)), (4, .as false zA35), (5, .as false (.int .i64)), (7, .keep), (14, .keep), (15, .keep), (16, .as false (.int .i64))], [(7, 0, .as false (.sl zA19)), (7, 1, .as false (.int .i64)), (7, 2, .as false (.int .i64)), (7, 3, .as false (.sl zA9)), (7, 4, .row 702 false 41 (.sl zA16)), (14, 1, .as false (.int .i64)), (14, 2, .as false (.int .i64))], [(7, false), (14, false), (15, false), (702, false)]⟩
 | _ => ⟨[], [], []⟩
def crossF_e1 : (zB5 ⊕ (Int × ((List Int) × zB4))) → Exit × St
 | (.inl u) => (.ret, crossF_S1e0.fillK crossF_kf crossF_H1e0 u)
 | (.inr u) => (.exit 2, crossF_S1e1.fillK crossF_kf crossF_H1e1 u)
def crossF_t1 : (zB5 ⊕ (Int × ((List Int) × zB4))) → Br (Exit × St) := fun z => .sum z (fun u => .ret (.ret, crossF_S1e0.fillK crossF_kf crossF_H1e0 u)) (fun u => .ret (.exit 2, crossF_S1e1.fillK crossF_kf crossF_H1e1 u))
noncomputable def crossF_C1 : Code := loopAt 1 (bodyOf crossF_f)
noncomputable def crossF_o1 : St → Br (Exit × St) := loopF crossF_kp crossF_kf 1024 (crossF_h1 .normal) (crossF_S1.parseK crossF_kf crossF_H1) fun x => .opt (crossF_w1 x) crossF_t1
abbrev crossF_H0 : List Hole := [.slot 1 false (.int .i64), .slot 2 false (.sl (.int .i64)), .slot 3 false (.sl zA16), .slot 4 false zA35, .slot 5 false (.int .i64), .slot 16 false (.int .i64), .cell 1031 0 false (.sl zA19), .cell 1031 1 false (.int .i64), .cell 1031 2 false (.int .i64), .cell 1031 3 false (.sl zA9), .cell 1038 1 false (.int .i64), .cell 1038 2 false (.int .i64), .tv 1039 false zA19, .ar 1727 false 41 (.sl zA16)]
def crossF_S0 : Skel := ⟨102, [(7, D.c (C.ref 1031 0 0)), (14, D.c (C.ref 1038 0 0)), (15, D.c (C.ref 1039 0 0))], [(1031, [.bad, .bad, .bad, .bad, (.mfull 1727)]), (1038, [C.nils, .bad, .bad, C.nils, C.nils]), (1039, []), (1727, [])]⟩
abbrev crossF_H0e0 : List Hole := [.cell 1038 0 false (.sl zA19), .cell 1038 1 false (.int .i64), .cell 1038 2 false (.int .i64), .cell 1038 3 false (.sl zA9), .ar 1728 false 41 (.sl zA16)]
def crossF_S0e0 : Skel := ⟨102, [(14, D.c (C.ref 1038 0 0))], [(1038, [.bad, .bad, .bad, .bad, (.mfull 1728)]), (1728, [])]⟩
abbrev crossF_H0e1 : List Hole := [.cell 1031 0 false (.sl zA19), .cell 1031 1 false (.int .i64), .cell 1031 2 false (.int .i64), .cell 1031 3 false (.sl zA9), .cell 1038 1 false (.int .i64), .cell 1038 2 false (.int .i64), .ar 1729 false 41 (.sl zA16)]
def crossF_S0e1 : Skel := ⟨102, [(7, D.c (C.ref 1031 0 0)), (14, D.c (C.ref 1038 0 0))], [(1031, [.bad, .bad, .bad, .bad, (.mfull 1729)]), (1038, [C.nils, .bad, .bad, C.nils, C.nils]), (1729, [])]⟩
def crossF_h0 : Exit → Shape
 | .normal => ⟨[(1, .as false (.int .i64)), (2, .as false (.sl (.int .i64))), (3, .as false (.sl zA16)), (4, .as false zA35), (5, .as false (.int .i64)), (7, .keep), (14, .keep), (15, .keep), (16, .as false (.int .i64))], [(7, 0, .as false (.sl zA19)), (7, 1, .as false (.int .i64)), (7, 2, .as false (.int .i64)), (7, 3, .as false (.sl zA9)), (7, 4, .row 703 false 41 (.sl zA16)), (14, 1, .as false (.int .i64)), (14, 2, .as false (.int .i64))], [(7, false), (14, false), (15, false), (703, false)]⟩
 | .ret => ⟨[(14, .keep)], [(14, 0, .as false (.sl zA19)), (14, 1, .as false (.int .i64)), (14, 2, .as false (.int .i64)), (14, 3, .as false (.sl zA9)), (14, 4, .row 704 false 41 (.sl zA16))], [(14, false), (704, false)]⟩
 | .exit 0 => ⟨[(7, .keep), (14, .keep)], [(7, 0, .as false (.sl zA19)), (7, 1, .as false (.int .i64)), (7, 2, .as false (.int .i64)), (7, 3, .as false (.sl zA9)), (7, 4, .row 705 false 41 (.sl zA16)), (14, 1, .as false (.int .i64)), (14, 2, .as false (.int .i64))], [(7, false), (14, false), (705, false)]⟩
 | _ => ⟨[], [], []⟩
def crossF_e0 : (zB5 ⊕ zB6) → Exit × St
 | (.inl u) => (.ret, crossF_S0e0.fillK crossF_kf crossF_H0e0 u)
 | (.inr u) => (.exit 0, crossF_S0e1.fillK crossF_kf crossF_H0e1 u)
def crossF_t0 : (zB5 ⊕ zB6) → Br (Exit × St) := fun z => .sum z (fun u => .ret (.ret, crossF_S0e0.fillK crossF_kf crossF_H0e0 u)) (fun u => .ret (.exit 0, crossF_S0e1.fillK crossF_kf crossF_H0e1 u))
noncomputable def crossF_C0 : Code := loopAt 0 (bodyOf crossF_f)
noncomputable def crossF_o0 (G_elemF : zB2 → Option zB3) (G_crossF : zB1 → Option zB3) : St → Br (Exit × St) := loopF crossF_kp crossF_kf 1024 (crossF_h0 .normal) (crossF_S0.parseK crossF_kf crossF_H0) fun x => .opt ((crossF_w0 G_elemF G_crossF) x) crossF_t0
noncomputable def crossF_p (G_elemF : zB2 → Option zB3) (G_crossF : zB1 → Option zB3) : Par := { sh := fun _ => none, k := 0, lo := fun i => bif Nat.beq i 3 then some (crossF_o0 G_elemF G_crossF) else bif Nat.beq i 12 then some crossF_o1 else none }
theorem crossF_r1 (G_elemF : zB2 → Option zB3) (G_crossF : zB1 → Option zB3) (a : Int) (b : (List Int)) (c : (List (Int × Int))) (d : zA21) (e : Int) (f : Int) (g : Int) (h : (List zA1)) (i : Int) (j : Int) (k : (List zA2)) (l : Int) (m : Int) (n : zA1) (o : zA2) (p : zA23) : roundF crossF_kp crossF_kf (crossF_c G_elemF G_crossF) (crossF_p G_elemF G_crossF) crossF_h1 crossF_C1 (crossF_S1.fillK crossF_kf crossF_H1 (a, b, c, d, e, f, g, h, i, j, k, l, m, n, o, p, ())) = (crossF_l1 (a, b, c, d, e, f, g, h, i, j, k, l, m, n, o, p, ())).bind (loopLeaf (fun x => crossF_S1.fillK crossF_kf crossF_H1 x) crossF_e1) := by kernel_rfl
theorem crossF_ok1 (G_elemF : zB2 → Option zB3) (G_crossF : zB1 → Option zB3) (H_elemF : OC Tryz.prog 33 zIF2a2 [(.two (.ty false zA5) (.two (.ty false (.sl zA9)) (.row 41 (.sl zA16))))] G_elemF) (H_crossF : OC Tryz.prog 64 zIF2a1 [(.two (.ty false zA5) (.two (.ty false (.sl zA9)) (.row 41 (.sl zA16))))] G_crossF) (g : Cfg) (hg : ∀ n, Go.PI.look n g.m0 ≠ Option.none → n ∈ crossF_kp) : LoopOk crossF_P g crossF_o1 crossF_C1 := LoopOk.auto (crossF_env G_elemF G_crossF H_elemF H_crossF) hg (crossF_p G_elemF G_crossF) (LoOk.of (l := []) (by kernel_rfl) .nil) crossF_h1 (fun x => crossF_S1.fillK crossF_kf crossF_H1 x) (fun s x h => Skel.parseK_ok s x h) crossF_l1 crossF_e1 (fun z h => by rcases z with z | z <;> cases h) crossF_t1 (fun z => by rcases z with z | z <;> rfl) (fun (a, b, c, d, e, f, i, j, k, m, o, p, q, r, t, u, ()) => (crossF_r1 G_elemF G_crossF) a b c d e f i j k m o p q r t u)
theorem crossF_r0 (G_elemF : zB2 → Option zB3) (G_crossF : zB1 → Option zB3) (a : Int) (b : (List Int)) (c : (List (Int × Int))) (d : zA21) (e : Int) (f : Int) (g : (List zA1)) (h : Int) (i : Int) (j : (List zA2)) (k : Int) (l : Int) (m : zA1) (n : zA23) : roundF crossF_kp crossF_kf (crossF_c G_elemF G_crossF) (crossF_p G_elemF G_crossF) crossF_h0 crossF_C0 (crossF_S0.fillK crossF_kf crossF_H0 (a, b, c, d, e, f, g, h, i, j, k, l, m, n, ())) = ((crossF_l0 G_elemF G_crossF) (a, b, c, d, e, f, g, h, i, j, k, l, m, n, ())).bind (loopLeaf (fun x => crossF_S0.fillK crossF_kf crossF_H0 x) crossF_e0) := by kernel_rfl
theorem crossF_ok0 (G_elemF : zB2 → Option zB3) (G_crossF : zB1 → Option zB3) (H_elemF : OC Tryz.prog 33 zIF2a2 [(.two (.ty false zA5) (.two (.ty false (.sl zA9)) (.row 41 (.sl zA16))))] G_elemF) (H_crossF : OC Tryz.prog 64 zIF2a1 [(.two (.ty false zA5) (.two (.ty false (.sl zA9)) (.row 41 (.sl zA16))))] G_crossF) (g : Cfg) (hg : ∀ n, Go.PI.look n g.m0 ≠ Option.none → n ∈ crossF_kp) : LoopOk crossF_P g (crossF_o0 G_elemF G_crossF) crossF_C0 := LoopOk.auto (crossF_env G_elemF G_crossF H_elemF H_crossF) hg (crossF_p G_elemF G_crossF) (LoOk.of (l := [crossF_C1]) (by kernel_rfl) (.cons ((crossF_ok1 G_elemF G_crossF H_elemF H_crossF) g hg) (by kernel_rfl) .nil)) crossF_h0 (fun x => crossF_S0.fillK crossF_kf crossF_H0 x) (fun s x h => Skel.parseK_ok s x h) (crossF_l0 G_elemF G_crossF) crossF_e0 (fun z h => by rcases z with z | z <;> cases h) crossF_t0 (fun z => by rcases z with z | z <;> rfl) (fun (a, b, c, d, e, f, i, j, k, m, o, p, q, r, ()) => (crossF_r0 G_elemF G_crossF) a b c d e f i j k m o p q r)
theorem crossF_eq (G_elemF : zB2 → Option zB3) (G_crossF : zB1 → Option zB3) (p0 : (zA10 × ((List zA2) × zA23))) (p1 : Int) (p2 : (List Int)) (p3 : (List (Int × Int))) (p4 : zA21) (p5 : Int) (p6 : Int) : ocRun (crossF_c G_elemF G_crossF) (crossF_p G_elemF G_crossF) crossF_f crossF_ins crossF_outs (p0, p1, p2, p3, p4, p5, p6, ()) = (crossF_B G_elemF G_crossF) (p0, p1, p2, p3, p4, p5, p6, ()) := by kernel_rfl
theorem crossF_oc (G_elemF : zB2 → Option zB3) (G_crossF : zB1 → Option zB3) (H_elemF : OC Tryz.prog 33 zIF2a2 [(.two (.ty false zA5) (.two (.ty false (.sl zA9)) (.row 41 (.sl zA16))))] G_elemF) (H_crossF : OC Tryz.prog 64 zIF2a1 [(.two (.ty false zA5) (.two (.ty false (.sl zA9)) (.row 41 (.sl zA16))))] G_crossF) : OC crossF_P 64 crossF_ins crossF_outs (crossF G_elemF G_crossF) := OC.of_tree (crossF_env G_elemF G_crossF H_elemF H_crossF) Tryz.func64 (by kernel_rfl) (by kernel_rfl) (p := (crossF_p G_elemF G_crossF)) (fun g hg => LoOk.of (l := [crossF_C0, crossF_C1]) (by kernel_rfl) (.cons ((crossF_ok0 G_elemF G_crossF H_elemF H_crossF) g hg) (by kernel_rfl) (.cons ((crossF_ok1 G_elemF G_crossF H_elemF H_crossF) g hg) (by kernel_rfl) .nil))) (fun (p0, p1, p2, p3, p4, p5, p6, ()) => (crossF_eq G_elemF G_crossF) p0 p1 p2 p3 p4 p5 p6)
noncomputable def elemF_crossF_K : Nat → (zB2 → Option zB3) × (zB1 → Option zB3)
 | 0 => (fun _ => none, fun _ => none)
 | k + 1 => (elemF (elemF_crossF_K k).1 (elemF_crossF_K k).2, crossF (elemF_crossF_K k).1 (elemF_crossF_K k).2)
theorem elemF_crossF_Kok : ∀ k, OC Tryz.prog 33 zIF2a2 [(.two (.ty false zA5) (.two (.ty false (.sl zA9)) (.row 41 (.sl zA16))))] (elemF_crossF_K k).1 ∧ OC Tryz.prog 64 zIF2a1 [(.two (.ty false zA5) (.two (.ty false (.sl zA9)) (.row 41 (.sl zA16))))] (elemF_crossF_K k).2
 | 0 => ⟨OC.zero Tryz.func33 (by kernel_rfl), OC.zero Tryz.func64 (by kernel_rfl)⟩
 | k + 1 => ⟨elemF_oc _ _ (elemF_crossF_Kok k).1 (elemF_crossF_Kok k).2, crossF_oc _ _ (elemF_crossF_Kok k).1 (elemF_crossF_Kok k).2⟩
noncomputable def elemF_k (k : Nat) : zB2 → Option zB3 := (elemF_crossF_K k).1
theorem elemF_kok (k : Nat) : OC Tryz.prog 33 zIF2a2 [(.two (.ty false zA5) (.two (.ty false (.sl zA9)) (.row 41 (.sl zA16))))] (elemF_k k) := (elemF_crossF_Kok k).1
noncomputable def crossF_k (k : Nat) : zB1 → Option zB3 := (elemF_crossF_K k).2
theorem crossF_kok (k : Nat) : OC Tryz.prog 64 zIF2a1 [(.two (.ty false zA5) (.two (.ty false (.sl zA9)) (.row 41 (.sl zA16))))] (crossF_k k) := (elemF_crossF_Kok k).2
noncomputable def elemFF : zB2 → Option zB3 := fun x => elemF_k ((fun x => 2 * x.1.2.1.length + 8) x) x
theorem elemFF_oc : OC Tryz.prog 33 zIF2a2 [(.two (.ty false zA5) (.two (.ty false (.sl zA9)) (.row 41 (.sl zA16))))] elemFF := OC.deep elemF_kok (fun x => 2 * x.1.2.1.length + 8)
noncomputable def crossFF : zB1 → Option zB3 := fun x => crossF_k ((fun x => 2 * x.1.2.1.length + 8) x) x
theorem crossFF_oc : OC Tryz.prog 64 zIF2a1 [(.two (.ty false zA5) (.two (.ty false (.sl zA9)) (.row 41 (.sl zA16))))] crossFF := OC.deep crossF_kok (fun x => 2 * x.1.2.1.length + 8)
noncomputable def cx_elemF : Ctx := addO cx_againR 33 (ocOrc zIF2a2 [(.two (.ty false zA5) (.two (.ty false (.sl zA9)) (.row 41 (.sl zA16))))] elemFF)
theorem en_elemF : EnvFull Tryz.prog cx_elemF := env_add (en_againR) elemFF_oc.callOk
noncomputable def cx_crossF : Ctx := addO cx_elemF 64 (ocOrc zIF2a1 [(.two (.ty false zA5) (.two (.ty false (.sl zA9)) (.row 41 (.sl zA16))))] crossFF)
theorem en_crossF : EnvFull Tryz.prog cx_crossF := env_add (en_elemF) crossFF_oc.callOk
noncomputable def allM_l0 : ((List zA2) × (Int × ((List zA1) × (Int × (Int × ((List zA2) × (zA10 × (zA23 × Unit)))))))) → Br (((List zA2) × (Int × ((List zA1) × (Int × (Int × ((List zA2) × (zA10 × (zA23 × Unit)))))))) ⊕ zB5) := fun (a, b, c, d, e, f, g, h, ()) =>
 (.cond (decide (b < (↑(List.length a) : Int)))
 (.cond (decide (0 ≤ b) && decide (b < (↑(List.length a) : Int)))
 (.cond (decide (0 ≤ 0) && decide (0 < (↑(List.length g.1) : Int)))
 (.opt (fits20 (List.getD g.1 (Int.toNat 0) zV2, List.getD a (Int.toNat b) zV1, [], ())) fun i =>
 (.cond (!i.1)
 (.ret (.inl (a, IntKind.wrap .i64 (b + 1), c, d, e, f, g, h, ())))
 (.cond ((List.getD g.1 (Int.toNat 0) zV2).2.2.2.2.1 == 1)
 (.cond (decide ((@List.length (ByteArray × ByteArray × ByteArray × Int × Int × List (Int × Int × ByteArray × Bool)) [] + List.length (List.set (List.replicate 1 zV3) 0 ((List.getD g.1 (Int.toNat 0) zV2).1, List.getD a (Int.toNat b) zV1))) * 88 ≤ 140737488355328))
 (.opt (elemFF (((c, d, e), f, h), 0, 1, [(0, (List.getD a (Int.toNat b) zV1).2.2.2.1)], [((List.getD g.1 (Int.toNat 0) zV2).1, List.getD a (Int.toNat b) zV1)], (List.getD a (Int.toNat b) zV1).2.2.1, IntKind.wrap .i64 (b + 1), ())) fun j =>
 (.ret (.inl (a, IntKind.wrap .i64 (b + 1), j.1.1.1, j.1.1.2.1, j.1.1.2.2, j.1.2.1, g, j.1.2.2, ()))))
 (.no))
 (.opt (elemFF (((c, d, e), f, h), 0, 1, [(0, (List.getD a (Int.toNat b) zV1).2.2.2.1)], [], (List.getD a (Int.toNat b) zV1).2.2.1, IntKind.wrap .i64 (b + 1), ())) fun k =>
 (.ret (.inl (a, IntKind.wrap .i64 (b + 1), k.1.1.1, k.1.1.2.1, k.1.1.2.2, k.1.2.1, g, k.1.2.2, ())))))))
 (.no))
 (.no))
 (.ret (.inr (c, d, e, f, h, ()))))
noncomputable def allM_w0 := iterO fun x => (allM_l0 x).run
noncomputable def allM_B : (zA10 × ((List zA2) × Unit)) → Br (zA23 × Unit) := fun (p0, p1, ()) =>
 (.cond ((↑(List.length p0.1) : Int) == 0)
 (.ret ([], ()))
 (.opt (allM_w0 (p1, 0, p0.1, p0.2.1, p0.2.2, p1, p0, [], ())) fun a =>
 (.opt (sortP (a.2.2.2.2.1, ())) fun b =>
 (.ret (b.1, ())))))
noncomputable def allM := fun x => (allM_B x).run
abbrev allM_ins : List (Bool × Pat) := [(false, .ty false zA5), (false, .ty false (.sl zA9))]
abbrev allM_outs : List Pat := [.ty false (.sl (.sl zA16))]
noncomputable def allM_L : List Lp := [
 .mk 5 (shX 60 [(2, .c (.ref 1026 0 0)), (5, .c (.ref 1029 0 0))] [(1026, []), (1029, [.bad, .bad, .bad, .bad, (.mfull 1724)]), (1724, [])] [.slot 1 false (.sl zA9), sI 6, .cell 1029 0 false (.sl zA19), .cell 1029 1 false (.int .i64), .cell 1029 2 false (.int .i64), .cell 1029 3 false (.sl zA9), .tv 1026 false zA5, .ar 1724 false 41 (.sl zA16)] ⟨[(1, .as false (.sl zA9)), (2, .keep), (5, .keep), (6, .as false (.int .i64))], [(5, 0, .as false (.sl zA19)), (5, 1, .as false (.int .i64)), (5, 2, .as false (.int .i64)), (5, 3, .as false (.sl zA9)), (5, 4, .row 700 false 41 (.sl zA16))], [(2, false), (5, false), (700, false)]⟩) ([exX (.exit 0) 60 [(5, .c (.ref 1029 0 0))] [(1029, [.bad, .bad, .bad, .bad, (.mfull 1725)]), (1725, [])] [.cell 1029 0 false (.sl zA19), .cell 1029 1 false (.int .i64), .cell 1029 2 false (.int .i64), .cell 1029 3 false (.sl zA9), .ar 1725 false 41 (.sl zA16)] ⟨[(5, .keep)], [(5, 0, .as false (.sl zA19)), (5, 1, .as false (.int .i64)), (5, 2, .as false (.int .i64)), (5, 3, .as false (.sl zA9)), (5, 4, .row 701 false 41 (.sl zA16))], [(5, false), (701, false)]⟩]) allM_l0]
theorem allM_oc : OC Tryz.prog 13 allM_ins allM_outs allM := OC.lp en_crossF 1024 Tryz.func13 allM_L (by kernel_rfl) ⟨fun _ => by kernel_rfl, trivial⟩ (fun _ => by kernel_rfl)
end Go.Proofs.YtiblijkhpmemeaaGreat
