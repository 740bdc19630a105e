/- Contracts of functions. Printed by auto.py. -/
import Derived.Test.YtnhiplibodkciaaHg
import Derived.Test.YtnhiplibodkciaaHa
import Derived.Test.YtnhiplibodkciaaF1a
namespace Go.Proofs.Ytnhiplibodkciaa
open Go.PI Go
noncomputable def elemF_l0 (G_elemF : zB2 → Option zB3) (G_crossF : zB1 → Option zB3) : (Int × (Int × zB4)) → Br ((Int × (Int × zB4)) ⊕ zB6) := fun (s1_163, s2_164, s3_165, s4_166, s5_167, s18_168, c1031_0_169, c1031_1_170, c1031_2_171, c1031_3_172, c1038_1_173, c1038_2_174, v1039_175, r1724_176, ()) =>
 (.cond (decide (s18_168 < (↑(List.length c1031_3_172) : Int)))
 (.cond (decide (0 ≤ s18_168) && decide (s18_168 < (↑(List.length c1031_3_172) : Int)))
 (.cond (decide (IntKind.wrap .i64 (Prod.fst (Prod.snd (Prod.snd (List.getD c1031_3_172 (Int.toNat s18_168) (ByteArray.empty, ByteArray.empty, 0, 0, [])))) - s5_167) > c1031_1_170))
 (.ret (.inl (s1_163, s2_164, s3_165, s4_166, s5_167, IntKind.wrap .i64 (s18_168 + 1), c1031_0_169, c1031_1_170, c1031_2_171, c1031_3_172, c1038_1_173, c1038_2_174, v1039_175, r1724_176, ())))
 (.opt (fits20 (v1039_175, List.getD c1031_3_172 (Int.toNat s18_168) (ByteArray.empty, ByteArray.empty, 0, 0, []), s4_166, ())) fun y177 =>
 (.cond (!y177.1)
 (.ret (.inl (s1_163, s2_164, s3_165, s4_166, s5_167, IntKind.wrap .i64 (s18_168 + 1), c1031_0_169, c1031_1_170, c1031_2_171, c1031_3_172, c1038_1_173, c1038_2_174, v1039_175, r1724_176, ())))
 (.cond (v1039_175.2.2.2.2.1 == 1)
 (.cond (decide ((@List.length (ByteArray × ByteArray × ByteArray × Int × Int × List (Int × Int × ByteArray × Bool)) (List.replicate 0 (ByteArray.empty, ByteArray.empty, ByteArray.empty, 0, 0, [])) + List.length s4_166) * 88 ≤ 140737488355328))
 (.cond (decide ((List.length (List.replicate 0 (ByteArray.empty, ByteArray.empty, ByteArray.empty, 0, 0, []) ++ s4_166) + List.length (List.set (List.replicate 1 (ByteArray.empty, ByteArray.empty, ByteArray.empty, 0, 0, [])) 0 (v1039_175.1, List.getD c1031_3_172 (Int.toNat s18_168) (ByteArray.empty, ByteArray.empty, 0, 0, [])))) * 88 ≤ 140737488355328))
 (.cond (decide ((List.length (List.replicate 0 (0, 0)) + List.length s3_165) * 16 ≤ 140737488355328))
 (.cond (decide ((List.length (List.replicate 0 (0, 0) ++ s3_165) + List.length (List.set (List.replicate 1 (0, 0)) 0 (s1_163, Prod.fst (Prod.snd (Prod.snd (Prod.snd (List.getD c1031_3_172 (Int.toNat s18_168) (ByteArray.empty, ByteArray.empty, 0, 0, [])))))))) * 16 ≤ 140737488355328))
 (.opt (G_elemF (((c1031_0_169, c1031_1_170, c1031_2_171), c1031_3_172, r1724_176), s1_163, IntKind.wrap .i64 (s2_164 + 1), List.replicate 0 (0, 0) ++ s3_165 ++ List.set (List.replicate 1 (0, 0)) 0 (s1_163, Prod.fst (Prod.snd (Prod.snd (Prod.snd (List.getD c1031_3_172 (Int.toNat s18_168) (ByteArray.empty, ByteArray.empty, 0, 0, [])))))), List.replicate 0 (ByteArray.empty, ByteArray.empty, ByteArray.empty, 0, 0, []) ++ s4_166 ++ List.set (List.replicate 1 (ByteArray.empty, ByteArray.empty, ByteArray.empty, 0, 0, [])) 0 (v1039_175.1, List.getD c1031_3_172 (Int.toNat s18_168) (ByteArray.empty, ByteArray.empty, 0, 0, [])), s5_167, IntKind.wrap .i64 (s18_168 + 1), ())) fun y178 =>
 (.ret (.inl (s1_163, s2_164, s3_165, s4_166, s5_167, IntKind.wrap .i64 (s18_168 + 1), y178.1.1.1, y178.1.1.2.1, y178.1.1.2.2, y178.1.2.1, c1038_1_173, c1038_2_174, v1039_175, y178.1.2.2, ()))))
 (.no))
 (.no))
 (.no))
 (.no))
 (.cond (decide ((List.length (List.replicate 0 (0, 0)) + List.length s3_165) * 16 ≤ 140737488355328))
 (.cond (decide ((List.length (List.replicate 0 (0, 0) ++ s3_165) + List.length (List.set (List.replicate 1 (0, 0)) 0 (s1_163, Prod.fst (Prod.snd (Prod.snd (Prod.snd (List.getD c1031_3_172 (Int.toNat s18_168) (ByteArray.empty, ByteArray.empty, 0, 0, [])))))))) * 16 ≤ 140737488355328))
 (.opt (G_elemF (((c1031_0_169, c1031_1_170, c1031_2_171), c1031_3_172, r1724_176), s1_163, IntKind.wrap .i64 (s2_164 + 1), List.replicate 0 (0, 0) ++ s3_165 ++ List.set (List.replicate 1 (0, 0)) 0 (s1_163, Prod.fst (Prod.snd (Prod.snd (Prod.snd (List.getD c1031_3_172 (Int.toNat s18_168) (ByteArray.empty, ByteArray.empty, 0, 0, [])))))), s4_166, s5_167, IntKind.wrap .i64 (s18_168 + 1), ())) fun y179 =>
 (.ret (.inl (s1_163, s2_164, s3_165, s4_166, s5_167, IntKind.wrap .i64 (s18_168 + 1), y179.1.1.1, y179.1.1.2.1, y179.1.1.2.2, y179.1.2.1, c1038_1_173, c1038_2_174, v1039_175, y179.1.2.2, ()))))
 (.no))
 (.no))))))
 (.no))
 (.ret (.inr (c1031_0_169, c1031_1_170, c1031_2_171, c1031_3_172, c1038_1_173, c1038_2_174, r1724_176, ()))))
noncomputable def elemF_w0 (G_elemF : zB2 → Option zB3) (G_crossF : zB1 → Option zB3) : (Int × (Int × zB4)) → Option zB6 := iterO fun x => ((elemF_l0 G_elemF G_crossF) x).run
noncomputable def elemF_B (G_elemF : zB2 → Option zB3) (G_crossF : zB1 → Option zB3) : zB2 → Br zB3 := fun (p0, p1, p2, p3, p4, p5, p6, ()) =>
 (.cond (decide (0 ≤ p1) && decide (p1 < (↑(List.length p0.1.1) : Int)))
 (.cond (decide (p2 ≥ Prod.fst (Prod.snd (Prod.snd (Prod.snd (List.getD p0.1.1 (Int.toNat p1) (ByteArray.empty, [], false, 0, 0, [])))))))
 (.opt (nextF (((p0.1.1, p0.1.2.1, p0.1.2.2), p0.2.1, p0.2.2), p1, ())) fun y161 =>
 (.cond (decide (y161.1.1 < 0))
 (.cond (decide ((List.length (List.replicate 0 (0, 0)) + List.length p3) * 16 ≤ 140737488355328))
 (.cond (decide ((List.length p0.2.2 + List.length (List.set (List.replicate 1 []) 0 (List.replicate 0 (0, 0) ++ p3))) * 24 ≤ 140737488355328))
 (.cond (decide (p2 ≥ Prod.fst (Prod.snd (Prod.snd (Prod.snd (Prod.snd (List.getD p0.1.1 (Int.toNat p1) (ByteArray.empty, [], false, 0, 0, []))))))))
 (.ret (((p0.1.1, p0.1.2.1, p0.1.2.2), p0.2.1, p0.2.2 ++ List.set (List.replicate 1 []) 0 (List.replicate 0 (0, 0) ++ p3)), ()))
 (.opt ((elemF_w0 G_elemF G_crossF) (p1, p2, p3, p4, p5, p6, p0.1.1, p0.1.2.1, p0.1.2.2, p0.2.1, 0, 0, List.getD p0.1.1 (Int.toNat p1) (ByteArray.empty, [], false, 0, 0, []), p0.2.2 ++ List.set (List.replicate 1 []) 0 (List.replicate 0 (0, 0) ++ p3), ())) fun z181 =>
 (.ret (((z181.1, z181.2.1, z181.2.2.1), z181.2.2.2.1, z181.2.2.2.2.2.2.1), ()))))
 (.no))
 (.no))
 (.opt (G_crossF (((p0.1.1, p0.1.2.1, p0.1.2.2), p0.2.1, p0.2.2), y161.1.1, y161.1.2, p3, p4, p5, p6, ())) fun y162 =>
 (.cond (decide (p2 ≥ Prod.fst (Prod.snd (Prod.snd (Prod.snd (Prod.snd (List.getD p0.1.1 (Int.toNat p1) (ByteArray.empty, [], false, 0, 0, []))))))))
 (.ret (((y162.1.1.1, y162.1.1.2.1, y162.1.1.2.2), y162.1.2.1, y162.1.2.2), ()))
 (.opt ((elemF_w0 G_elemF G_crossF) (p1, p2, p3, p4, p5, p6, y162.1.1.1, y162.1.1.2.1, y162.1.1.2.2, y162.1.2.1, 0, 0, List.getD p0.1.1 (Int.toNat p1) (ByteArray.empty, [], false, 0, 0, []), y162.1.2.2, ())) fun z199 =>
 (.ret (((z199.1, z199.2.1, z199.2.2.1), z199.2.2.2.1, z199.2.2.2.2.2.2.1), ())))))))
 (.cond (decide (p2 ≥ Prod.fst (Prod.snd (Prod.snd (Prod.snd (Prod.snd (List.getD p0.1.1 (Int.toNat p1) (ByteArray.empty, [], false, 0, 0, []))))))))
 (.ret (((p0.1.1, p0.1.2.1, p0.1.2.2), p0.2.1, p0.2.2), ()))
 (.opt ((elemF_w0 G_elemF G_crossF) (p1, p2, p3, p4, p5, p6, p0.1.1, p0.1.2.1, p0.1.2.2, p0.2.1, 0, 0, List.getD p0.1.1 (Int.toNat p1) (ByteArray.empty, [], false, 0, 0, []), p0.2.2, ())) fun z217 =>
 (.ret (((z217.1, z217.2.1, z217.2.2.1), z217.2.2.2.1, z217.2.2.2.2.2.2.1), ())))))
 (.no))
noncomputable def elemF (G_elemF : zB2 → Option zB3) (G_crossF : zB1 → Option zB3) : zB2 → Option zB3 := fun x => ((elemF_B G_elemF G_crossF) x).run
abbrev elemF_ins : List (Bool × Pat) := [(false, (.two (.ty false zA5) (.two (.ty false (.sl zA9)) (.row 104 (.sl zA16))))), (false, .ty false (.int .i64)), (false, .ty false (.int .i64)), (false, .ty false (.sl zA16)), (false, .ty false zA35), (false, .ty false (.int .i64)), (false, .ty false (.int .i64))]
abbrev elemF_outs : List Pat := [(.two (.ty false zA5) (.two (.ty false (.sl zA9)) (.row 104 (.sl zA16))))]
noncomputable abbrev elemF_f : Func := Try.f97
noncomputable abbrev elemF_P : Program := Try.prog
abbrev elemF_kp : List Nat := kpOf elemF_ins
abbrev elemF_kf : List Nat := kfOf elemF_ins
noncomputable def elemF_c (G_elemF : zB2 → Option zB3) (G_crossF : zB1 → Option zB3) : Ctx := { (addO (addO cx_againR 97 (ocOrc [(false, (.two (.ty false zA5) (.two (.ty false (.sl zA9)) (.row 104 (.sl zA16))))), (false, .ty false (.int .i64)), (false, .ty false (.int .i64)), (false, .ty false (.sl zA16)), (false, .ty false zA35), (false, .ty false (.int .i64)), (false, .ty false (.int .i64))] [(.two (.ty false zA5) (.two (.ty false (.sl zA9)) (.row 104 (.sl zA16))))] G_elemF)) 139 (ocOrc [(false, (.two (.ty false zA5) (.two (.ty false (.sl zA9)) (.row 104 (.sl zA16))))), (false, .ty false (.int .i64)), (false, .ty false (.sl (.int .i64))), (false, .ty false (.sl zA16)), (false, .ty false zA35), (false, .ty false (.int .i64)), (false, .ty false (.int .i64))] [(.two (.ty false zA5) (.two (.ty false (.sl zA9)) (.row 104 (.sl zA16))))] G_crossF)) with base := 1024 }
set_option maxRecDepth 100000 in
theorem elemF_env (G_elemF : zB2 → Option zB3) (G_crossF : zB1 → Option zB3) (H_elemF : OC Try.prog 97 [(false, (.two (.ty false zA5) (.two (.ty false (.sl zA9)) (.row 104 (.sl zA16))))), (false, .ty false (.int .i64)), (false, .ty false (.int .i64)), (false, .ty false (.sl zA16)), (false, .ty false zA35), (false, .ty false (.int .i64)), (false, .ty false (.int .i64))] [(.two (.ty false zA5) (.two (.ty false (.sl zA9)) (.row 104 (.sl zA16))))] G_elemF) (H_crossF : OC Try.prog 139 [(false, (.two (.ty false zA5) (.two (.ty false (.sl zA9)) (.row 104 (.sl zA16))))), (false, .ty false (.int .i64)), (false, .ty false (.sl (.int .i64))), (false, .ty false (.sl zA16)), (false, .ty false zA35), (false, .ty false (.int .i64)), (false, .ty false (.int .i64))] [(.two (.ty false zA5) (.two (.ty false (.sl zA9)) (.row 104 (.sl zA16))))] G_crossF) : EnvFull elemF_P (elemF_c G_elemF G_crossF) := env_base ((env_add (env_add en_againR (OC.callOk H_elemF)) (OC.callOk H_crossF))) 1024
abbrev elemF_H0 : List Hole := [.slot 1 false (.int .i64), .slot 2 false (.int .i64), .slot 3 false (.sl zA16), .slot 4 false zA35, .slot 5 false (.int .i64), .slot 18 false (.int .i64), .cell 1031 0 false (.sl zA19), .cell 1031 1 false (.int .i64), .cell 1031 2 false (.int .i64), .cell 1031 3 false (.sl zA9), .cell 1038 1 false (.int .i64), .cell 1038 2 false (.int .i64), .tv 1039 false zA19, .ar 1724 false 104 (.sl zA16)]
def elemF_S0 : Skel := ⟨120, [(7, D.c (C.ref 1031 0 0)), (14, D.c (C.ref 1038 0 0)), (15, D.c (C.ref 1039 0 0))], [(1031, [.bad, .bad, .bad, .bad, (.mfull 1724)]), (1038, [C.nils, .bad, .bad, C.nils, C.nils]), (1039, []), (1724, [])]⟩
abbrev elemF_H0e0 : List Hole := [.cell 1031 0 false (.sl zA19), .cell 1031 1 false (.int .i64), .cell 1031 2 false (.int .i64), .cell 1031 3 false (.sl zA9), .cell 1038 1 false (.int .i64), .cell 1038 2 false (.int .i64), .ar 1725 false 104 (.sl zA16)]
def elemF_S0e0 : Skel := ⟨120, [(7, D.c (C.ref 1031 0 0)), (14, D.c (C.ref 1038 0 0))], [(1031, [.bad, .bad, .bad, .bad, (.mfull 1725)]), (1038, [C.nils, .bad, .bad, C.nils, C.nils]), (1725, [])]⟩
def elemF_h0 : Exit → Shape
  | .normal => ⟨[(1, .as false (.int .i64)), (2, .as false (.int .i64)), (3, .as false (.sl zA16)), (4, .as false zA35), (5, .as false (.int .i64)), (7, .keep), (14, .keep), (15, .keep), (18, .as false (.int .i64))], [(7, 0, .as false (.sl zA19)), (7, 1, .as false (.int .i64)), (7, 2, .as false (.int .i64)), (7, 3, .as false (.sl zA9)), (7, 4, .row 700 false 104 (.sl zA16)), (14, 1, .as false (.int .i64)), (14, 2, .as false (.int .i64))], [(7, false), (14, false), (15, false), (700, false)]⟩
  | .exit 0 => ⟨[(7, .keep), (14, .keep)], [(7, 0, .as false (.sl zA19)), (7, 1, .as false (.int .i64)), (7, 2, .as false (.int .i64)), (7, 3, .as false (.sl zA9)), (7, 4, .row 701 false 104 (.sl zA16)), (14, 1, .as false (.int .i64)), (14, 2, .as false (.int .i64))], [(7, false), (14, false), (701, false)]⟩
  | _ => ⟨[], [], []⟩
def elemF_e0 : zB6 → Exit × St
  | u => (.exit 0, elemF_S0e0.fillK elemF_kf elemF_H0e0 u)
def elemF_t0 : zB6 → Br (Exit × St) := fun u => .ret (.exit 0, elemF_S0e0.fillK elemF_kf elemF_H0e0 u)
noncomputable def elemF_C0 : Code := loopAt 0 (bodyOf elemF_f)
noncomputable def elemF_o0 (G_elemF : zB2 → Option zB3) (G_crossF : zB1 → Option zB3) : St → Br (Exit × St) := loopF elemF_kp elemF_kf 1024 (elemF_h0 .normal) (elemF_S0.parseK elemF_kf elemF_H0) fun x => .opt ((elemF_w0 G_elemF G_crossF) x) elemF_t0
noncomputable def elemF_p (G_elemF : zB2 → Option zB3) (G_crossF : zB1 → Option zB3) : Par := { sh := fun _ => none, k := 0, lo := fun i => bif Nat.beq i 10 then some (elemF_o0 G_elemF G_crossF) else none }
set_option maxRecDepth 100000 in
theorem elemF_r0 (G_elemF : zB2 → Option zB3) (G_crossF : zB1 → Option zB3) (s1_163 : Int) (s2_164 : Int) (s3_165 : (List (Int × Int))) (s4_166 : zA21) (s5_167 : Int) (s18_168 : Int) (c1031_0_169 : (List zA1)) (c1031_1_170 : Int) (c1031_2_171 : Int) (c1031_3_172 : (List zA2)) (c1038_1_173 : Int) (c1038_2_174 : Int) (v1039_175 : zA1) (r1724_176 : zA23) : roundF elemF_kp elemF_kf (elemF_c G_elemF G_crossF) (elemF_p G_elemF G_crossF) elemF_h0 elemF_C0 (elemF_S0.fillK elemF_kf elemF_H0 (s1_163, s2_164, s3_165, s4_166, s5_167, s18_168, c1031_0_169, c1031_1_170, c1031_2_171, c1031_3_172, c1038_1_173, c1038_2_174, v1039_175, r1724_176, ())) = ((elemF_l0 G_elemF G_crossF) (s1_163, s2_164, s3_165, s4_166, s5_167, s18_168, c1031_0_169, c1031_1_170, c1031_2_171, c1031_3_172, c1038_1_173, c1038_2_174, v1039_175, r1724_176, ())).bind (loopLeaf (fun x => elemF_S0.fillK elemF_kf elemF_H0 x) elemF_e0) := by kernel_rfl
set_option maxRecDepth 100000 in
theorem elemF_ok0 (G_elemF : zB2 → Option zB3) (G_crossF : zB1 → Option zB3) (H_elemF : OC Try.prog 97 [(false, (.two (.ty false zA5) (.two (.ty false (.sl zA9)) (.row 104 (.sl zA16))))), (false, .ty false (.int .i64)), (false, .ty false (.int .i64)), (false, .ty false (.sl zA16)), (false, .ty false zA35), (false, .ty false (.int .i64)), (false, .ty false (.int .i64))] [(.two (.ty false zA5) (.two (.ty false (.sl zA9)) (.row 104 (.sl zA16))))] G_elemF) (H_crossF : OC Try.prog 139 [(false, (.two (.ty false zA5) (.two (.ty false (.sl zA9)) (.row 104 (.sl zA16))))), (false, .ty false (.int .i64)), (false, .ty false (.sl (.int .i64))), (false, .ty false (.sl zA16)), (false, .ty false zA35), (false, .ty false (.int .i64)), (false, .ty false (.int .i64))] [(.two (.ty false zA5) (.two (.ty false (.sl zA9)) (.row 104 (.sl zA16))))] G_crossF) (g : Cfg) (hg : ∀ n, Go.PI.look n g.m0 ≠ Option.none → n ∈ elemF_kp) : LoopOk elemF_P g (elemF_o0 G_elemF G_crossF) elemF_C0 := LoopOk.auto (elemF_env G_elemF G_crossF H_elemF H_crossF) hg (elemF_p G_elemF G_crossF) (LoOk.of (l := []) (by kernel_rfl) .nil) elemF_h0 (fun x => elemF_S0.fillK elemF_kf elemF_H0 x) (fun s x h => Skel.parseK_ok s x h) (elemF_l0 G_elemF G_crossF) elemF_e0 (fun _ h => by cases h) elemF_t0 (fun _ => rfl) (fun (s1_163, s2_164, s3_165, s4_166, s5_167, s18_168, c1031_0_169, c1031_1_170, c1031_2_171, c1031_3_172, c1038_1_173, c1038_2_174, v1039_175, r1724_176, ()) => (elemF_r0 G_elemF G_crossF) s1_163 s2_164 s3_165 s4_166 s5_167 s18_168 c1031_0_169 c1031_1_170 c1031_2_171 c1031_3_172 c1038_1_173 c1038_2_174 v1039_175 r1724_176)
set_option maxRecDepth 100000 in
theorem elemF_eq (G_elemF : zB2 → Option zB3) (G_crossF : zB1 → Option zB3) (p0 : (zA10 × ((List zA2) × zA23))) (p1 : Int) (p2 : Int) (p3 : (List (Int × Int))) (p4 : zA21) (p5 : Int) (p6 : Int) : ocRun (elemF_c G_elemF G_crossF) (elemF_p G_elemF G_crossF) elemF_f elemF_ins elemF_outs (p0, p1, p2, p3, p4, p5, p6, ()) = (elemF_B G_elemF G_crossF) (p0, p1, p2, p3, p4, p5, p6, ()) := by kernel_rfl
set_option maxRecDepth 100000 in
theorem elemF_oc (G_elemF : zB2 → Option zB3) (G_crossF : zB1 → Option zB3) (H_elemF : OC Try.prog 97 [(false, (.two (.ty false zA5) (.two (.ty false (.sl zA9)) (.row 104 (.sl zA16))))), (false, .ty false (.int .i64)), (false, .ty false (.int .i64)), (false, .ty false (.sl zA16)), (false, .ty false zA35), (false, .ty false (.int .i64)), (false, .ty false (.int .i64))] [(.two (.ty false zA5) (.two (.ty false (.sl zA9)) (.row 104 (.sl zA16))))] G_elemF) (H_crossF : OC Try.prog 139 [(false, (.two (.ty false zA5) (.two (.ty false (.sl zA9)) (.row 104 (.sl zA16))))), (false, .ty false (.int .i64)), (false, .ty false (.sl (.int .i64))), (false, .ty false (.sl zA16)), (false, .ty false zA35), (false, .ty false (.int .i64)), (false, .ty false (.int .i64))] [(.two (.ty false zA5) (.two (.ty false (.sl zA9)) (.row 104 (.sl zA16))))] G_crossF) : OC elemF_P 97 elemF_ins elemF_outs (elemF G_elemF G_crossF) := OC.of_tree (elemF_env G_elemF G_crossF H_elemF H_crossF) Try.func97 (by kernel_rfl) (by kernel_rfl) (p := (elemF_p G_elemF G_crossF)) (fun g hg => LoOk.of (l := [elemF_C0]) (by kernel_rfl) (.cons ((elemF_ok0 G_elemF G_crossF H_elemF H_crossF) g hg) (by kernel_rfl) .nil)) (fun (p0, p1, p2, p3, p4, p5, p6, ()) => (elemF_eq G_elemF G_crossF) p0 p1 p2 p3 p4 p5 p6)
noncomputable def crossF_l1 : (Int × ((List Int) × ((List (Int × Int)) × (zA21 × (Int × (Int × (Int × ((List zA1) × (Int × (Int × ((List zA2) × (Int × (Int × (zA1 × (zA2 × (zA23 × Unit)))))))))))))))) → Br ((Int × ((List Int) × ((List (Int × Int)) × (zA21 × (Int × (Int × (Int × ((List zA1) × (Int × (Int × ((List zA2) × (Int × (Int × (zA1 × (zA2 × (zA23 × Unit)))))))))))))))) ⊕ (zB5 ⊕ (Int × ((List Int) × zB4)))) := fun (s1_509, s2_510, s3_511, s4_512, s5_513, s16_514, s19_515, c1031_0_516, c1031_1_517, c1031_2_518, c1031_3_519, c1038_1_520, c1038_2_521, v1039_522, v1041_523, r1724_524, ()) =>
 (.cond (decide (s19_515 < (↑(List.length s2_510) : Int)))
 (.cond (decide (0 ≤ s19_515) && decide (s19_515 < (↑(List.length s2_510) : Int)))
 (.cond (decide (0 ≤ List.getD s2_510 (Int.toNat s19_515) 0) && decide (List.getD s2_510 (Int.toNat s19_515) 0 < (↑(List.length c1031_0_516) : Int)))
 (.opt (fits20 (List.getD c1031_0_516 (Int.toNat (List.getD s2_510 (Int.toNat s19_515) 0)) (ByteArray.empty, [], false, 0, 0, []), v1041_523, s4_512, ())) fun y525 =>
 (.cond y525.1
 (.ret (.inr (.inl (c1031_0_516, c1031_1_517, c1031_2_518, c1031_3_519, r1724_524, ()))))
 (.ret (.inl (s1_509, s2_510, s3_511, s4_512, s5_513, s16_514, IntKind.wrap .i64 (s19_515 + 1), c1031_0_516, c1031_1_517, c1031_2_518, c1031_3_519, c1038_1_520, c1038_2_521, v1039_522, v1041_523, r1724_524, ())))))
 (.no))
 (.no))
 (.ret (.inr (.inr (s1_509, s2_510, s3_511, s4_512, s5_513, s16_514, c1031_0_516, c1031_1_517, c1031_2_518, c1031_3_519, c1038_1_520, c1038_2_521, v1039_522, r1724_524, ())))))
noncomputable def crossF_w1 : (Int × ((List Int) × ((List (Int × Int)) × (zA21 × (Int × (Int × (Int × ((List zA1) × (Int × (Int × ((List zA2) × (Int × (Int × (zA1 × (zA2 × (zA23 × Unit)))))))))))))))) → Option (zB5 ⊕ (Int × ((List Int) × zB4))) := iterO fun x => (crossF_l1 x).run
noncomputable def crossF_l0 (G_elemF : zB2 → Option zB3) (G_crossF : zB1 → Option zB3) : (Int × ((List Int) × zB4)) → Br ((Int × ((List Int) × zB4)) ⊕ (zB5 ⊕ zB6)) := fun (s1_492, s2_493, s3_494, s4_495, s5_496, s16_497, c1031_0_498, c1031_1_499, c1031_2_500, c1031_3_501, c1038_1_502, c1038_2_503, v1039_504, r1727_505, ()) =>
 (.cond (decide (s16_497 < (↑(List.length c1031_3_501) : Int)))
 (.cond (decide (0 ≤ s16_497) && decide (s16_497 < (↑(List.length c1031_3_501) : Int)))
 (.cond (decide (IntKind.wrap .i64 (Prod.fst (Prod.snd (Prod.snd (List.getD c1031_3_501 (Int.toNat s16_497) (ByteArray.empty, ByteArray.empty, 0, 0, [])))) - s5_496) ≤ c1031_1_499))
 (.opt (fits20 (v1039_504, List.getD c1031_3_501 (Int.toNat s16_497) (ByteArray.empty, ByteArray.empty, 0, 0, []), s4_495, ())) fun y506 =>
 (.cond y506.1
 (.cond (v1039_504.2.2.2.2.1 == 1)
 (.cond (decide ((@List.length (ByteArray × ByteArray × ByteArray × Int × Int × List (Int × Int × ByteArray × Bool)) (List.replicate 0 (ByteArray.empty, ByteArray.empty, ByteArray.empty, 0, 0, [])) + List.length s4_495) * 88 ≤ 140737488355328))
 (.cond (decide ((List.length (List.replicate 0 (ByteArray.empty, ByteArray.empty, ByteArray.empty, 0, 0, []) ++ s4_495) + List.length (List.set (List.replicate 1 (ByteArray.empty, ByteArray.empty, ByteArray.empty, 0, 0, [])) 0 (v1039_504.1, List.getD c1031_3_501 (Int.toNat s16_497) (ByteArray.empty, ByteArray.empty, 0, 0, [])))) * 88 ≤ 140737488355328))
 (.cond (decide ((List.length (List.replicate 0 (0, 0)) + List.length s3_494) * 16 ≤ 140737488355328))
 (.cond (decide ((List.length (List.replicate 0 (0, 0) ++ s3_494) + List.length (List.set (List.replicate 1 (0, 0)) 0 (s1_492, Prod.fst (Prod.snd (Prod.snd (Prod.snd (List.getD c1031_3_501 (Int.toNat s16_497) (ByteArray.empty, ByteArray.empty, 0, 0, [])))))))) * 16 ≤ 140737488355328))
 (.opt (G_elemF (((c1031_0_498, c1031_1_499, c1031_2_500), c1031_3_501, r1727_505), s1_492, 1, List.replicate 0 (0, 0) ++ s3_494 ++ List.set (List.replicate 1 (0, 0)) 0 (s1_492, Prod.fst (Prod.snd (Prod.snd (Prod.snd (List.getD c1031_3_501 (Int.toNat s16_497) (ByteArray.empty, ByteArray.empty, 0, 0, [])))))), List.replicate 0 (ByteArray.empty, ByteArray.empty, ByteArray.empty, 0, 0, []) ++ s4_495 ++ List.set (List.replicate 1 (ByteArray.empty, ByteArray.empty, ByteArray.empty, 0, 0, [])) 0 (v1039_504.1, List.getD c1031_3_501 (Int.toNat s16_497) (ByteArray.empty, ByteArray.empty, 0, 0, [])), s5_496, IntKind.wrap .i64 (s16_497 + 1), ())) fun y507 =>
 (.opt (crossF_w1 (s1_492, s2_493, s3_494, s4_495, s5_496, s16_497, 0, y507.1.1.1, y507.1.1.2.1, y507.1.1.2.2, y507.1.2.1, c1038_1_502, c1038_2_503, v1039_504, List.getD c1031_3_501 (Int.toNat s16_497) (ByteArray.empty, ByteArray.empty, 0, 0, []), y507.1.2.2, ())) fun z527 =>
 (.sum z527 (fun u528 =>
 (.ret (.inr (.inl (u528.1, u528.2.1, u528.2.2.1, u528.2.2.2.1, u528.2.2.2.2.1, ()))))) (fun z529 =>
 (.ret (.inl (z529.1, z529.2.1, z529.2.2.1, z529.2.2.2.1, z529.2.2.2.2.1, IntKind.wrap .i64 (z529.2.2.2.2.2.1 + 1), z529.2.2.2.2.2.2.1, z529.2.2.2.2.2.2.2.1, z529.2.2.2.2.2.2.2.2.1, z529.2.2.2.2.2.2.2.2.2.1, z529.2.2.2.2.2.2.2.2.2.2.1, z529.2.2.2.2.2.2.2.2.2.2.2.1, z529.2.2.2.2.2.2.2.2.2.2.2.2.1, z529.2.2.2.2.2.2.2.2.2.2.2.2.2.1, ())))))))
 (.no))
 (.no))
 (.no))
 (.no))
 (.cond (decide ((List.length (List.replicate 0 (0, 0)) + List.length s3_494) * 16 ≤ 140737488355328))
 (.cond (decide ((List.length (List.replicate 0 (0, 0) ++ s3_494) + List.length (List.set (List.replicate 1 (0, 0)) 0 (s1_492, Prod.fst (Prod.snd (Prod.snd (Prod.snd (List.getD c1031_3_501 (Int.toNat s16_497) (ByteArray.empty, ByteArray.empty, 0, 0, [])))))))) * 16 ≤ 140737488355328))
 (.opt (G_elemF (((c1031_0_498, c1031_1_499, c1031_2_500), c1031_3_501, r1727_505), s1_492, 1, List.replicate 0 (0, 0) ++ s3_494 ++ List.set (List.replicate 1 (0, 0)) 0 (s1_492, Prod.fst (Prod.snd (Prod.snd (Prod.snd (List.getD c1031_3_501 (Int.toNat s16_497) (ByteArray.empty, ByteArray.empty, 0, 0, [])))))), s4_495, s5_496, IntKind.wrap .i64 (s16_497 + 1), ())) fun y508 =>
 (.opt (crossF_w1 (s1_492, s2_493, s3_494, s4_495, s5_496, s16_497, 0, y508.1.1.1, y508.1.1.2.1, y508.1.1.2.2, y508.1.2.1, c1038_1_502, c1038_2_503, v1039_504, List.getD c1031_3_501 (Int.toNat s16_497) (ByteArray.empty, ByteArray.empty, 0, 0, []), y508.1.2.2, ())) fun z547 =>
 (.sum z547 (fun u548 =>
 (.ret (.inr (.inl (u548.1, u548.2.1, u548.2.2.1, u548.2.2.2.1, u548.2.2.2.2.1, ()))))) (fun z549 =>
 (.ret (.inl (z549.1, z549.2.1, z549.2.2.1, z549.2.2.2.1, z549.2.2.2.2.1, IntKind.wrap .i64 (z549.2.2.2.2.2.1 + 1), z549.2.2.2.2.2.2.1, z549.2.2.2.2.2.2.2.1, z549.2.2.2.2.2.2.2.2.1, z549.2.2.2.2.2.2.2.2.2.1, z549.2.2.2.2.2.2.2.2.2.2.1, z549.2.2.2.2.2.2.2.2.2.2.2.1, z549.2.2.2.2.2.2.2.2.2.2.2.2.1, z549.2.2.2.2.2.2.2.2.2.2.2.2.2.1, ())))))))
 (.no))
 (.no)))
 (.opt (crossF_w1 (s1_492, s2_493, s3_494, s4_495, s5_496, s16_497, 0, c1031_0_498, c1031_1_499, c1031_2_500, c1031_3_501, c1038_1_502, c1038_2_503, v1039_504, List.getD c1031_3_501 (Int.toNat s16_497) (ByteArray.empty, ByteArray.empty, 0, 0, []), r1727_505, ())) fun z567 =>
 (.sum z567 (fun u568 =>
 (.ret (.inr (.inl (u568.1, u568.2.1, u568.2.2.1, u568.2.2.2.1, u568.2.2.2.2.1, ()))))) (fun z569 =>
 (.ret (.inl (z569.1, z569.2.1, z569.2.2.1, z569.2.2.2.1, z569.2.2.2.2.1, IntKind.wrap .i64 (z569.2.2.2.2.2.1 + 1), z569.2.2.2.2.2.2.1, z569.2.2.2.2.2.2.2.1, z569.2.2.2.2.2.2.2.2.1, z569.2.2.2.2.2.2.2.2.2.1, z569.2.2.2.2.2.2.2.2.2.2.1, z569.2.2.2.2.2.2.2.2.2.2.2.1, z569.2.2.2.2.2.2.2.2.2.2.2.2.1, z569.2.2.2.2.2.2.2.2.2.2.2.2.2.1, ()))))))))
 (.opt (crossF_w1 (s1_492, s2_493, s3_494, s4_495, s5_496, s16_497, 0, c1031_0_498, c1031_1_499, c1031_2_500, c1031_3_501, c1038_1_502, c1038_2_503, v1039_504, List.getD c1031_3_501 (Int.toNat s16_497) (ByteArray.empty, ByteArray.empty, 0, 0, []), r1727_505, ())) fun z587 =>
 (.sum z587 (fun u588 =>
 (.ret (.inr (.inl (u588.1, u588.2.1, u588.2.2.1, u588.2.2.2.1, u588.2.2.2.2.1, ()))))) (fun z589 =>
 (.ret (.inl (z589.1, z589.2.1, z589.2.2.1, z589.2.2.2.1, z589.2.2.2.2.1, IntKind.wrap .i64 (z589.2.2.2.2.2.1 + 1), z589.2.2.2.2.2.2.1, z589.2.2.2.2.2.2.2.1, z589.2.2.2.2.2.2.2.2.1, z589.2.2.2.2.2.2.2.2.2.1, z589.2.2.2.2.2.2.2.2.2.2.1, z589.2.2.2.2.2.2.2.2.2.2.2.1, z589.2.2.2.2.2.2.2.2.2.2.2.2.1, z589.2.2.2.2.2.2.2.2.2.2.2.2.2.1, ())))))))
 (.no))
 (.ret (.inr (.inr (c1031_0_498, c1031_1_499, c1031_2_500, c1031_3_501, c1038_1_502, c1038_2_503, r1727_505, ())))))
noncomputable def crossF_w0 (G_elemF : zB2 → Option zB3) (G_crossF : zB1 → Option zB3) : (Int × ((List Int) × zB4)) → Option (zB5 ⊕ zB6) := iterO fun x => ((crossF_l0 G_elemF G_crossF) x).run
noncomputable def crossF_B (G_elemF : zB2 → Option zB3) (G_crossF : zB1 → Option zB3) : zB1 → Br zB3 := fun (p0, p1, p2, p3, p4, p5, p6, ()) =>
 (.cond (decide (0 ≤ p1) && decide (p1 < (↑(List.length p0.1.1) : Int)))
 (.opt ((crossF_w0 G_elemF G_crossF) (p1, p2, p3, p4, p5, p6, p0.1.1, p0.1.2.1, p0.1.2.2, p0.2.1, 0, 0, List.getD p0.1.1 (Int.toNat p1) (ByteArray.empty, [], false, 0, 0, []), p0.2.2, ())) fun z591 =>
 (.sum z591 (fun u592 =>
 (.ret (((u592.1, u592.2.1, u592.2.2.1), u592.2.2.2.1, u592.2.2.2.2.1), ()))) (fun z593 =>
 (.ret (((z593.1, z593.2.1, z593.2.2.1), z593.2.2.2.1, z593.2.2.2.2.2.2.1), ())))))
 (.no))
noncomputable def crossF (G_elemF : zB2 → Option zB3) (G_crossF : zB1 → Option zB3) : zB1 → Option zB3 := fun x => ((crossF_B G_elemF G_crossF) x).run
abbrev crossF_ins : List (Bool × Pat) := [(false, (.two (.ty false zA5) (.two (.ty false (.sl zA9)) (.row 104 (.sl zA16))))), (false, .ty false (.int .i64)), (false, .ty false (.sl (.int .i64))), (false, .ty false (.sl zA16)), (false, .ty false zA35), (false, .ty false (.int .i64)), (false, .ty false (.int .i64))]
abbrev crossF_outs : List Pat := [(.two (.ty false zA5) (.two (.ty false (.sl zA9)) (.row 104 (.sl zA16))))]
noncomputable abbrev crossF_f : Func := Try.f139
noncomputable abbrev crossF_P : Program := Try.prog
abbrev crossF_kp : List Nat := kpOf crossF_ins
abbrev crossF_kf : List Nat := kfOf crossF_ins
noncomputable def crossF_c (G_elemF : zB2 → Option zB3) (G_crossF : zB1 → Option zB3) : Ctx := { (addO (addO cx_againR 97 (ocOrc [(false, (.two (.ty false zA5) (.two (.ty false (.sl zA9)) (.row 104 (.sl zA16))))), (false, .ty false (.int .i64)), (false, .ty false (.int .i64)), (false, .ty false (.sl zA16)), (false, .ty false zA35), (false, .ty false (.int .i64)), (false, .ty false (.int .i64))] [(.two (.ty false zA5) (.two (.ty false (.sl zA9)) (.row 104 (.sl zA16))))] G_elemF)) 139 (ocOrc [(false, (.two (.ty false zA5) (.two (.ty false (.sl zA9)) (.row 104 (.sl zA16))))), (false, .ty false (.int .i64)), (false, .ty false (.sl (.int .i64))), (false, .ty false (.sl zA16)), (false, .ty false zA35), (false, .ty false (.int .i64)), (false, .ty false (.int .i64))] [(.two (.ty false zA5) (.two (.ty false (.sl zA9)) (.row 104 (.sl zA16))))] G_crossF)) with base := 1024 }
set_option maxRecDepth 100000 in
theorem crossF_env (G_elemF : zB2 → Option zB3) (G_crossF : zB1 → Option zB3) (H_elemF : OC Try.prog 97 [(false, (.two (.ty false zA5) (.two (.ty false (.sl zA9)) (.row 104 (.sl zA16))))), (false, .ty false (.int .i64)), (false, .ty false (.int .i64)), (false, .ty false (.sl zA16)), (false, .ty false zA35), (false, .ty false (.int .i64)), (false, .ty false (.int .i64))] [(.two (.ty false zA5) (.two (.ty false (.sl zA9)) (.row 104 (.sl zA16))))] G_elemF) (H_crossF : OC Try.prog 139 [(false, (.two (.ty false zA5) (.two (.ty false (.sl zA9)) (.row 104 (.sl zA16))))), (false, .ty false (.int .i64)), (false, .ty false (.sl (.int .i64))), (false, .ty false (.sl zA16)), (false, .ty false zA35), (false, .ty false (.int .i64)), (false, .ty false (.int .i64))] [(.two (.ty false zA5) (.two (.ty false (.sl zA9)) (.row 104 (.sl zA16))))] G_crossF) : EnvFull crossF_P (crossF_c G_elemF G_crossF) := env_base ((env_add (env_add en_againR (OC.callOk H_elemF)) (OC.callOk H_crossF))) 1024
abbrev crossF_H1 : List Hole := [.slot 1 false (.int .i64), .slot 2 false (.sl (.int .i64)), .slot 3 false (.sl zA16), .slot 4 false zA35, .slot 5 false (.int .i64), .slot 16 false (.int .i64), .slot 19 false (.int .i64), .cell 1031 0 false (.sl zA19), .cell 1031 1 false (.int .i64), .cell 1031 2 false (.int .i64), .cell 1031 3 false (.sl zA9), .cell 1038 1 false (.int .i64), .cell 1038 2 false (.int .i64), .tv 1039 false zA19, .tv 1041 false zA9, .ar 1724 false 104 (.sl zA16)]
def crossF_S1 : Skel := ⟨102, [(7, D.c (C.ref 1031 0 0)), (14, D.c (C.ref 1038 0 0)), (15, D.c (C.ref 1039 0 0)), (17, D.c (C.ref 1041 0 0))], [(1031, [.bad, .bad, .bad, .bad, (.mfull 1724)]), (1038, [C.nils, .bad, .bad, C.nils, C.nils]), (1039, []), (1041, []), (1724, [])]⟩
abbrev crossF_H1e0 : List Hole := [.cell 1038 0 false (.sl zA19), .cell 1038 1 false (.int .i64), .cell 1038 2 false (.int .i64), .cell 1038 3 false (.sl zA9), .ar 1725 false 104 (.sl zA16)]
def crossF_S1e0 : Skel := ⟨102, [(14, D.c (C.ref 1038 0 0))], [(1038, [.bad, .bad, .bad, .bad, (.mfull 1725)]), (1725, [])]⟩
abbrev crossF_H1e1 : List Hole := [.slot 1 false (.int .i64), .slot 2 false (.sl (.int .i64)), .slot 3 false (.sl zA16), .slot 4 false zA35, .slot 5 false (.int .i64), .slot 16 false (.int .i64), .cell 1031 0 false (.sl zA19), .cell 1031 1 false (.int .i64), .cell 1031 2 false (.int .i64), .cell 1031 3 false (.sl zA9), .cell 1038 1 false (.int .i64), .cell 1038 2 false (.int .i64), .tv 1039 false zA19, .ar 1726 false 104 (.sl zA16)]
def crossF_S1e1 : Skel := ⟨102, [(7, D.c (C.ref 1031 0 0)), (14, D.c (C.ref 1038 0 0)), (15, D.c (C.ref 1039 0 0))], [(1031, [.bad, .bad, .bad, .bad, (.mfull 1726)]), (1038, [C.nils, .bad, .bad, C.nils, C.nils]), (1039, []), (1726, [])]⟩
def crossF_h1 : Exit → Shape
  | .normal => ⟨[(1, .as false (.int .i64)), (2, .as false (.sl (.int .i64))), (3, .as false (.sl zA16)), (4, .as false zA35), (5, .as false (.int .i64)), (7, .keep), (14, .keep), (15, .keep), (16, .as false (.int .i64)), (17, .keep), (19, .as false (.int .i64))], [(7, 0, .as false (.sl zA19)), (7, 1, .as false (.int .i64)), (7, 2, .as false (.int .i64)), (7, 3, .as false (.sl zA9)), (7, 4, .row 700 false 104 (.sl zA16)), (14, 1, .as false (.int .i64)), (14, 2, .as false (.int .i64))], [(7, false), (14, false), (15, false), (17, false), (700, false)]⟩
  | .ret => ⟨[(14, .keep)], [(14, 0, .as false (.sl zA19)), (14, 1, .as false (.int .i64)), (14, 2, .as false (.int .i64)), (14, 3, .as false (.sl zA9)), (14, 4, .row 701 false 104 (.sl zA16))], [(14, false), (701, false)]⟩
  | .exit 2 => ⟨[(1, .as false (.int .i64)), (2, .as false (.sl (.int .i64))), (3, .as false (.sl zA16)), (4, .as false zA35), (5, .as false (.int .i64)), (7, .keep), (14, .keep), (15, .keep), (16, .as false (.int .i64))], [(7, 0, .as false (.sl zA19)), (7, 1, .as false (.int .i64)), (7, 2, .as false (.int .i64)), (7, 3, .as false (.sl zA9)), (7, 4, .row 702 false 104 (.sl zA16)), (14, 1, .as false (.int .i64)), (14, 2, .as false (.int .i64))], [(7, false), (14, false), (15, false), (702, false)]⟩
  | _ => ⟨[], [], []⟩
def crossF_e1 : (zB5 ⊕ (Int × ((List Int) × zB4))) → Exit × St
  | (.inl u) => (.ret, crossF_S1e0.fillK crossF_kf crossF_H1e0 u)
  | (.inr u) => (.exit 2, crossF_S1e1.fillK crossF_kf crossF_H1e1 u)
def crossF_t1 : (zB5 ⊕ (Int × ((List Int) × zB4))) → Br (Exit × St) := fun z => .sum z (fun u => .ret (.ret, crossF_S1e0.fillK crossF_kf crossF_H1e0 u)) (fun u => .ret (.exit 2, crossF_S1e1.fillK crossF_kf crossF_H1e1 u))
noncomputable def crossF_C1 : Code := loopAt 1 (bodyOf crossF_f)
noncomputable def crossF_o1 : St → Br (Exit × St) := loopF crossF_kp crossF_kf 1024 (crossF_h1 .normal) (crossF_S1.parseK crossF_kf crossF_H1) fun x => .opt (crossF_w1 x) crossF_t1
abbrev crossF_H0 : List Hole := [.slot 1 false (.int .i64), .slot 2 false (.sl (.int .i64)), .slot 3 false (.sl zA16), .slot 4 false zA35, .slot 5 false (.int .i64), .slot 16 false (.int .i64), .cell 1031 0 false (.sl zA19), .cell 1031 1 false (.int .i64), .cell 1031 2 false (.int .i64), .cell 1031 3 false (.sl zA9), .cell 1038 1 false (.int .i64), .cell 1038 2 false (.int .i64), .tv 1039 false zA19, .ar 1727 false 104 (.sl zA16)]
def crossF_S0 : Skel := ⟨102, [(7, D.c (C.ref 1031 0 0)), (14, D.c (C.ref 1038 0 0)), (15, D.c (C.ref 1039 0 0))], [(1031, [.bad, .bad, .bad, .bad, (.mfull 1727)]), (1038, [C.nils, .bad, .bad, C.nils, C.nils]), (1039, []), (1727, [])]⟩
abbrev crossF_H0e0 : List Hole := [.cell 1038 0 false (.sl zA19), .cell 1038 1 false (.int .i64), .cell 1038 2 false (.int .i64), .cell 1038 3 false (.sl zA9), .ar 1728 false 104 (.sl zA16)]
def crossF_S0e0 : Skel := ⟨102, [(14, D.c (C.ref 1038 0 0))], [(1038, [.bad, .bad, .bad, .bad, (.mfull 1728)]), (1728, [])]⟩
abbrev crossF_H0e1 : List Hole := [.cell 1031 0 false (.sl zA19), .cell 1031 1 false (.int .i64), .cell 1031 2 false (.int .i64), .cell 1031 3 false (.sl zA9), .cell 1038 1 false (.int .i64), .cell 1038 2 false (.int .i64), .ar 1729 false 104 (.sl zA16)]
def crossF_S0e1 : Skel := ⟨102, [(7, D.c (C.ref 1031 0 0)), (14, D.c (C.ref 1038 0 0))], [(1031, [.bad, .bad, .bad, .bad, (.mfull 1729)]), (1038, [C.nils, .bad, .bad, C.nils, C.nils]), (1729, [])]⟩
def crossF_h0 : Exit → Shape
  | .normal => ⟨[(1, .as false (.int .i64)), (2, .as false (.sl (.int .i64))), (3, .as false (.sl zA16)), (4, .as false zA35), (5, .as false (.int .i64)), (7, .keep), (14, .keep), (15, .keep), (16, .as false (.int .i64))], [(7, 0, .as false (.sl zA19)), (7, 1, .as false (.int .i64)), (7, 2, .as false (.int .i64)), (7, 3, .as false (.sl zA9)), (7, 4, .row 703 false 104 (.sl zA16)), (14, 1, .as false (.int .i64)), (14, 2, .as false (.int .i64))], [(7, false), (14, false), (15, false), (703, false)]⟩
  | .ret => ⟨[(14, .keep)], [(14, 0, .as false (.sl zA19)), (14, 1, .as false (.int .i64)), (14, 2, .as false (.int .i64)), (14, 3, .as false (.sl zA9)), (14, 4, .row 704 false 104 (.sl zA16))], [(14, false), (704, false)]⟩
  | .exit 0 => ⟨[(7, .keep), (14, .keep)], [(7, 0, .as false (.sl zA19)), (7, 1, .as false (.int .i64)), (7, 2, .as false (.int .i64)), (7, 3, .as false (.sl zA9)), (7, 4, .row 705 false 104 (.sl zA16)), (14, 1, .as false (.int .i64)), (14, 2, .as false (.int .i64))], [(7, false), (14, false), (705, false)]⟩
  | _ => ⟨[], [], []⟩
def crossF_e0 : (zB5 ⊕ zB6) → Exit × St
  | (.inl u) => (.ret, crossF_S0e0.fillK crossF_kf crossF_H0e0 u)
  | (.inr u) => (.exit 0, crossF_S0e1.fillK crossF_kf crossF_H0e1 u)
def crossF_t0 : (zB5 ⊕ zB6) → Br (Exit × St) := fun z => .sum z (fun u => .ret (.ret, crossF_S0e0.fillK crossF_kf crossF_H0e0 u)) (fun u => .ret (.exit 0, crossF_S0e1.fillK crossF_kf crossF_H0e1 u))
noncomputable def crossF_C0 : Code := loopAt 0 (bodyOf crossF_f)
noncomputable def crossF_o0 (G_elemF : zB2 → Option zB3) (G_crossF : zB1 → Option zB3) : St → Br (Exit × St) := loopF crossF_kp crossF_kf 1024 (crossF_h0 .normal) (crossF_S0.parseK crossF_kf crossF_H0) fun x => .opt ((crossF_w0 G_elemF G_crossF) x) crossF_t0
noncomputable def crossF_p (G_elemF : zB2 → Option zB3) (G_crossF : zB1 → Option zB3) : Par := { sh := fun _ => none, k := 0, lo := fun i => bif Nat.beq i 3 then some (crossF_o0 G_elemF G_crossF) else bif Nat.beq i 12 then some crossF_o1 else none }
set_option maxRecDepth 100000 in
theorem crossF_r1 (G_elemF : zB2 → Option zB3) (G_crossF : zB1 → Option zB3) (s1_509 : Int) (s2_510 : (List Int)) (s3_511 : (List (Int × Int))) (s4_512 : zA21) (s5_513 : Int) (s16_514 : Int) (s19_515 : Int) (c1031_0_516 : (List zA1)) (c1031_1_517 : Int) (c1031_2_518 : Int) (c1031_3_519 : (List zA2)) (c1038_1_520 : Int) (c1038_2_521 : Int) (v1039_522 : zA1) (v1041_523 : zA2) (r1724_524 : zA23) : roundF crossF_kp crossF_kf (crossF_c G_elemF G_crossF) (crossF_p G_elemF G_crossF) crossF_h1 crossF_C1 (crossF_S1.fillK crossF_kf crossF_H1 (s1_509, s2_510, s3_511, s4_512, s5_513, s16_514, s19_515, c1031_0_516, c1031_1_517, c1031_2_518, c1031_3_519, c1038_1_520, c1038_2_521, v1039_522, v1041_523, r1724_524, ())) = (crossF_l1 (s1_509, s2_510, s3_511, s4_512, s5_513, s16_514, s19_515, c1031_0_516, c1031_1_517, c1031_2_518, c1031_3_519, c1038_1_520, c1038_2_521, v1039_522, v1041_523, r1724_524, ())).bind (loopLeaf (fun x => crossF_S1.fillK crossF_kf crossF_H1 x) crossF_e1) := by kernel_rfl
set_option maxRecDepth 100000 in
theorem crossF_ok1 (G_elemF : zB2 → Option zB3) (G_crossF : zB1 → Option zB3) (H_elemF : OC Try.prog 97 [(false, (.two (.ty false zA5) (.two (.ty false (.sl zA9)) (.row 104 (.sl zA16))))), (false, .ty false (.int .i64)), (false, .ty false (.int .i64)), (false, .ty false (.sl zA16)), (false, .ty false zA35), (false, .ty false (.int .i64)), (false, .ty false (.int .i64))] [(.two (.ty false zA5) (.two (.ty false (.sl zA9)) (.row 104 (.sl zA16))))] G_elemF) (H_crossF : OC Try.prog 139 [(false, (.two (.ty false zA5) (.two (.ty false (.sl zA9)) (.row 104 (.sl zA16))))), (false, .ty false (.int .i64)), (false, .ty false (.sl (.int .i64))), (false, .ty false (.sl zA16)), (false, .ty false zA35), (false, .ty false (.int .i64)), (false, .ty false (.int .i64))] [(.two (.ty false zA5) (.two (.ty false (.sl zA9)) (.row 104 (.sl zA16))))] G_crossF) (g : Cfg) (hg : ∀ n, Go.PI.look n g.m0 ≠ Option.none → n ∈ crossF_kp) : LoopOk crossF_P g crossF_o1 crossF_C1 := LoopOk.auto (crossF_env G_elemF G_crossF H_elemF H_crossF) hg (crossF_p G_elemF G_crossF) (LoOk.of (l := []) (by kernel_rfl) .nil) crossF_h1 (fun x => crossF_S1.fillK crossF_kf crossF_H1 x) (fun s x h => Skel.parseK_ok s x h) crossF_l1 crossF_e1 (fun z h => by rcases z with z | z <;> cases h) crossF_t1 (fun z => by rcases z with z | z <;> rfl) (fun (s1_509, s2_510, s3_511, s4_512, s5_513, s16_514, s19_515, c1031_0_516, c1031_1_517, c1031_2_518, c1031_3_519, c1038_1_520, c1038_2_521, v1039_522, v1041_523, r1724_524, ()) => (crossF_r1 G_elemF G_crossF) s1_509 s2_510 s3_511 s4_512 s5_513 s16_514 s19_515 c1031_0_516 c1031_1_517 c1031_2_518 c1031_3_519 c1038_1_520 c1038_2_521 v1039_522 v1041_523 r1724_524)
set_option maxRecDepth 100000 in
theorem crossF_r0 (G_elemF : zB2 → Option zB3) (G_crossF : zB1 → Option zB3) (s1_492 : Int) (s2_493 : (List Int)) (s3_494 : (List (Int × Int))) (s4_495 : zA21) (s5_496 : Int) (s16_497 : Int) (c1031_0_498 : (List zA1)) (c1031_1_499 : Int) (c1031_2_500 : Int) (c1031_3_501 : (List zA2)) (c1038_1_502 : Int) (c1038_2_503 : Int) (v1039_504 : zA1) (r1727_505 : zA23) : roundF crossF_kp crossF_kf (crossF_c G_elemF G_crossF) (crossF_p G_elemF G_crossF) crossF_h0 crossF_C0 (crossF_S0.fillK crossF_kf crossF_H0 (s1_492, s2_493, s3_494, s4_495, s5_496, s16_497, c1031_0_498, c1031_1_499, c1031_2_500, c1031_3_501, c1038_1_502, c1038_2_503, v1039_504, r1727_505, ())) = ((crossF_l0 G_elemF G_crossF) (s1_492, s2_493, s3_494, s4_495, s5_496, s16_497, c1031_0_498, c1031_1_499, c1031_2_500, c1031_3_501, c1038_1_502, c1038_2_503, v1039_504, r1727_505, ())).bind (loopLeaf (fun x => crossF_S0.fillK crossF_kf crossF_H0 x) crossF_e0) := by kernel_rfl
set_option maxRecDepth 100000 in
theorem crossF_ok0 (G_elemF : zB2 → Option zB3) (G_crossF : zB1 → Option zB3) (H_elemF : OC Try.prog 97 [(false, (.two (.ty false zA5) (.two (.ty false (.sl zA9)) (.row 104 (.sl zA16))))), (false, .ty false (.int .i64)), (false, .ty false (.int .i64)), (false, .ty false (.sl zA16)), (false, .ty false zA35), (false, .ty false (.int .i64)), (false, .ty false (.int .i64))] [(.two (.ty false zA5) (.two (.ty false (.sl zA9)) (.row 104 (.sl zA16))))] G_elemF) (H_crossF : OC Try.prog 139 [(false, (.two (.ty false zA5) (.two (.ty false (.sl zA9)) (.row 104 (.sl zA16))))), (false, .ty false (.int .i64)), (false, .ty false (.sl (.int .i64))), (false, .ty false (.sl zA16)), (false, .ty false zA35), (false, .ty false (.int .i64)), (false, .ty false (.int .i64))] [(.two (.ty false zA5) (.two (.ty false (.sl zA9)) (.row 104 (.sl zA16))))] G_crossF) (g : Cfg) (hg : ∀ n, Go.PI.look n g.m0 ≠ Option.none → n ∈ crossF_kp) : LoopOk crossF_P g (crossF_o0 G_elemF G_crossF) crossF_C0 := LoopOk.auto (crossF_env G_elemF G_crossF H_elemF H_crossF) hg (crossF_p G_elemF G_crossF) (LoOk.of (l := [crossF_C1]) (by kernel_rfl) (.cons ((crossF_ok1 G_elemF G_crossF H_elemF H_crossF) g hg) (by kernel_rfl) .nil)) crossF_h0 (fun x => crossF_S0.fillK crossF_kf crossF_H0 x) (fun s x h => Skel.parseK_ok s x h) (crossF_l0 G_elemF G_crossF) crossF_e0 (fun z h => by rcases z with z | z <;> cases h) crossF_t0 (fun z => by rcases z with z | z <;> rfl) (fun (s1_492, s2_493, s3_494, s4_495, s5_496, s16_497, c1031_0_498, c1031_1_499, c1031_2_500, c1031_3_501, c1038_1_502, c1038_2_503, v1039_504, r1727_505, ()) => (crossF_r0 G_elemF G_crossF) s1_492 s2_493 s3_494 s4_495 s5_496 s16_497 c1031_0_498 c1031_1_499 c1031_2_500 c1031_3_501 c1038_1_502 c1038_2_503 v1039_504 r1727_505)
set_option maxRecDepth 100000 in
theorem crossF_eq (G_elemF : zB2 → Option zB3) (G_crossF : zB1 → Option zB3) (p0 : (zA10 × ((List zA2) × zA23))) (p1 : Int) (p2 : (List Int)) (p3 : (List (Int × Int))) (p4 : zA21) (p5 : Int) (p6 : Int) : ocRun (crossF_c G_elemF G_crossF) (crossF_p G_elemF G_crossF) crossF_f crossF_ins crossF_outs (p0, p1, p2, p3, p4, p5, p6, ()) = (crossF_B G_elemF G_crossF) (p0, p1, p2, p3, p4, p5, p6, ()) := by kernel_rfl
set_option maxRecDepth 100000 in
theorem crossF_oc (G_elemF : zB2 → Option zB3) (G_crossF : zB1 → Option zB3) (H_elemF : OC Try.prog 97 [(false, (.two (.ty false zA5) (.two (.ty false (.sl zA9)) (.row 104 (.sl zA16))))), (false, .ty false (.int .i64)), (false, .ty false (.int .i64)), (false, .ty false (.sl zA16)), (false, .ty false zA35), (false, .ty false (.int .i64)), (false, .ty false (.int .i64))] [(.two (.ty false zA5) (.two (.ty false (.sl zA9)) (.row 104 (.sl zA16))))] G_elemF) (H_crossF : OC Try.prog 139 [(false, (.two (.ty false zA5) (.two (.ty false (.sl zA9)) (.row 104 (.sl zA16))))), (false, .ty false (.int .i64)), (false, .ty false (.sl (.int .i64))), (false, .ty false (.sl zA16)), (false, .ty false zA35), (false, .ty false (.int .i64)), (false, .ty false (.int .i64))] [(.two (.ty false zA5) (.two (.ty false (.sl zA9)) (.row 104 (.sl zA16))))] G_crossF) : OC crossF_P 139 crossF_ins crossF_outs (crossF G_elemF G_crossF) := OC.of_tree (crossF_env G_elemF G_crossF H_elemF H_crossF) Try.func139 (by kernel_rfl) (by kernel_rfl) (p := (crossF_p G_elemF G_crossF)) (fun g hg => LoOk.of (l := [crossF_C0, crossF_C1]) (by kernel_rfl) (.cons ((crossF_ok0 G_elemF G_crossF H_elemF H_crossF) g hg) (by kernel_rfl) (.cons ((crossF_ok1 G_elemF G_crossF H_elemF H_crossF) g hg) (by kernel_rfl) .nil))) (fun (p0, p1, p2, p3, p4, p5, p6, ()) => (crossF_eq G_elemF G_crossF) p0 p1 p2 p3 p4 p5 p6)
noncomputable def elemF_crossF_K : Nat → (zB2 → Option zB3) × (zB1 → Option zB3)
  | 0 => (fun _ => none, fun _ => none)
  | k + 1 => (elemF (elemF_crossF_K k).1 (elemF_crossF_K k).2, crossF (elemF_crossF_K k).1 (elemF_crossF_K k).2)
theorem elemF_crossF_Kok : ∀ k, OC Try.prog 97 [(false, (.two (.ty false zA5) (.two (.ty false (.sl zA9)) (.row 104 (.sl zA16))))), (false, .ty false (.int .i64)), (false, .ty false (.int .i64)), (false, .ty false (.sl zA16)), (false, .ty false zA35), (false, .ty false (.int .i64)), (false, .ty false (.int .i64))] [(.two (.ty false zA5) (.two (.ty false (.sl zA9)) (.row 104 (.sl zA16))))] (elemF_crossF_K k).1 ∧ OC Try.prog 139 [(false, (.two (.ty false zA5) (.two (.ty false (.sl zA9)) (.row 104 (.sl zA16))))), (false, .ty false (.int .i64)), (false, .ty false (.sl (.int .i64))), (false, .ty false (.sl zA16)), (false, .ty false zA35), (false, .ty false (.int .i64)), (false, .ty false (.int .i64))] [(.two (.ty false zA5) (.two (.ty false (.sl zA9)) (.row 104 (.sl zA16))))] (elemF_crossF_K k).2
  | 0 => ⟨OC.zero Try.func97 (by kernel_rfl), OC.zero Try.func139 (by kernel_rfl)⟩
  | k + 1 => ⟨elemF_oc _ _ (elemF_crossF_Kok k).1 (elemF_crossF_Kok k).2, crossF_oc _ _ (elemF_crossF_Kok k).1 (elemF_crossF_Kok k).2⟩
noncomputable def elemF_k (k : Nat) : zB2 → Option zB3 := (elemF_crossF_K k).1
theorem elemF_kok (k : Nat) : OC Try.prog 97 [(false, (.two (.ty false zA5) (.two (.ty false (.sl zA9)) (.row 104 (.sl zA16))))), (false, .ty false (.int .i64)), (false, .ty false (.int .i64)), (false, .ty false (.sl zA16)), (false, .ty false zA35), (false, .ty false (.int .i64)), (false, .ty false (.int .i64))] [(.two (.ty false zA5) (.two (.ty false (.sl zA9)) (.row 104 (.sl zA16))))] (elemF_k k) := (elemF_crossF_Kok k).1
noncomputable def crossF_k (k : Nat) : zB1 → Option zB3 := (elemF_crossF_K k).2
theorem crossF_kok (k : Nat) : OC Try.prog 139 [(false, (.two (.ty false zA5) (.two (.ty false (.sl zA9)) (.row 104 (.sl zA16))))), (false, .ty false (.int .i64)), (false, .ty false (.sl (.int .i64))), (false, .ty false (.sl zA16)), (false, .ty false zA35), (false, .ty false (.int .i64)), (false, .ty false (.int .i64))] [(.two (.ty false zA5) (.two (.ty false (.sl zA9)) (.row 104 (.sl zA16))))] (crossF_k k) := (elemF_crossF_Kok k).2
noncomputable def elemFF : zB2 → Option zB3 := fun x => elemF_k ((fun x => 2 * x.1.2.1.length + 8) x) x
theorem elemFF_oc : OC Try.prog 97 [(false, (.two (.ty false zA5) (.two (.ty false (.sl zA9)) (.row 104 (.sl zA16))))), (false, .ty false (.int .i64)), (false, .ty false (.int .i64)), (false, .ty false (.sl zA16)), (false, .ty false zA35), (false, .ty false (.int .i64)), (false, .ty false (.int .i64))] [(.two (.ty false zA5) (.two (.ty false (.sl zA9)) (.row 104 (.sl zA16))))] elemFF := OC.deep elemF_kok (fun x => 2 * x.1.2.1.length + 8)
noncomputable def crossFF : zB1 → Option zB3 := fun x => crossF_k ((fun x => 2 * x.1.2.1.length + 8) x) x
theorem crossFF_oc : OC Try.prog 139 [(false, (.two (.ty false zA5) (.two (.ty false (.sl zA9)) (.row 104 (.sl zA16))))), (false, .ty false (.int .i64)), (false, .ty false (.sl (.int .i64))), (false, .ty false (.sl zA16)), (false, .ty false zA35), (false, .ty false (.int .i64)), (false, .ty false (.int .i64))] [(.two (.ty false zA5) (.two (.ty false (.sl zA9)) (.row 104 (.sl zA16))))] crossFF := OC.deep crossF_kok (fun x => 2 * x.1.2.1.length + 8)
noncomputable def cx_elemF : Ctx := addO cx_againR 97 (ocOrc [(false, (.two (.ty false zA5) (.two (.ty false (.sl zA9)) (.row 104 (.sl zA16))))), (false, .ty false (.int .i64)), (false, .ty false (.int .i64)), (false, .ty false (.sl zA16)), (false, .ty false zA35), (false, .ty false (.int .i64)), (false, .ty false (.int .i64))] [(.two (.ty false zA5) (.two (.ty false (.sl zA9)) (.row 104 (.sl zA16))))] elemFF)
theorem en_elemF : EnvFull Try.prog cx_elemF := env_add (en_againR) elemFF_oc.callOk
noncomputable def cx_crossF : Ctx := addO cx_elemF 139 (ocOrc [(false, (.two (.ty false zA5) (.two (.ty false (.sl zA9)) (.row 104 (.sl zA16))))), (false, .ty false (.int .i64)), (false, .ty false (.sl (.int .i64))), (false, .ty false (.sl zA16)), (false, .ty false zA35), (false, .ty false (.int .i64)), (false, .ty false (.int .i64))] [(.two (.ty false zA5) (.two (.ty false (.sl zA9)) (.row 104 (.sl zA16))))] crossFF)
theorem en_crossF : EnvFull Try.prog cx_crossF := env_add (en_elemF) crossFF_oc.callOk
noncomputable def allM_l0 : ((List zA2) × (Int × ((List zA1) × (Int × (Int × ((List zA2) × (zA10 × (zA23 × Unit)))))))) → Br (((List zA2) × (Int × ((List zA1) × (Int × (Int × ((List zA2) × (zA10 × (zA23 × Unit)))))))) ⊕ zB5) := fun (s1_51, s6_52, c1029_0_53, c1029_1_54, c1029_2_55, c1029_3_56, v1026_57, r1724_58, ()) =>
 (.cond (decide (s6_52 < (↑(List.length s1_51) : Int)))
 (.cond (decide (0 ≤ s6_52) && decide (s6_52 < (↑(List.length s1_51) : Int)))
 (.cond (decide (0 ≤ 0) && decide (0 < (↑(List.length v1026_57.1) : Int)))
 (.opt (fits20 (List.getD v1026_57.1 (Int.toNat 0) (ByteArray.empty, [], false, 0, 0, []), List.getD s1_51 (Int.toNat s6_52) (ByteArray.empty, ByteArray.empty, 0, 0, []), [], ())) fun y59 =>
 (.cond (!y59.1)
 (.ret (.inl (s1_51, IntKind.wrap .i64 (s6_52 + 1), c1029_0_53, c1029_1_54, c1029_2_55, c1029_3_56, v1026_57, r1724_58, ())))
 (.cond (Prod.fst (Prod.snd (Prod.snd (Prod.snd (Prod.snd (List.getD v1026_57.1 (Int.toNat 0) (ByteArray.empty, [], false, 0, 0, [])))))) == 1)
 (.cond (decide ((@List.length (ByteArray × ByteArray × ByteArray × Int × Int × List (Int × Int × ByteArray × Bool)) [] + List.length (List.set (List.replicate 1 (ByteArray.empty, ByteArray.empty, ByteArray.empty, 0, 0, [])) 0 (Prod.fst (List.getD v1026_57.1 (Int.toNat 0) (ByteArray.empty, [], false, 0, 0, [])), List.getD s1_51 (Int.toNat s6_52) (ByteArray.empty, ByteArray.empty, 0, 0, [])))) * 88 ≤ 140737488355328))
 (.opt (elemFF (((c1029_0_53, c1029_1_54, c1029_2_55), c1029_3_56, r1724_58), 0, 1, [(0, Prod.fst (Prod.snd (Prod.snd (Prod.snd (List.getD s1_51 (Int.toNat s6_52) (ByteArray.empty, ByteArray.empty, 0, 0, []))))))], [(Prod.fst (List.getD v1026_57.1 (Int.toNat 0) (ByteArray.empty, [], false, 0, 0, [])), List.getD s1_51 (Int.toNat s6_52) (ByteArray.empty, ByteArray.empty, 0, 0, []))], Prod.fst (Prod.snd (Prod.snd (List.getD s1_51 (Int.toNat s6_52) (ByteArray.empty, ByteArray.empty, 0, 0, [])))), IntKind.wrap .i64 (s6_52 + 1), ())) fun y60 =>
 (.ret (.inl (s1_51, IntKind.wrap .i64 (s6_52 + 1), y60.1.1.1, y60.1.1.2.1, y60.1.1.2.2, y60.1.2.1, v1026_57, y60.1.2.2, ()))))
 (.no))
 (.opt (elemFF (((c1029_0_53, c1029_1_54, c1029_2_55), c1029_3_56, r1724_58), 0, 1, [(0, Prod.fst (Prod.snd (Prod.snd (Prod.snd (List.getD s1_51 (Int.toNat s6_52) (ByteArray.empty, ByteArray.empty, 0, 0, []))))))], [], Prod.fst (Prod.snd (Prod.snd (List.getD s1_51 (Int.toNat s6_52) (ByteArray.empty, ByteArray.empty, 0, 0, [])))), IntKind.wrap .i64 (s6_52 + 1), ())) fun y61 =>
 (.ret (.inl (s1_51, IntKind.wrap .i64 (s6_52 + 1), y61.1.1.1, y61.1.1.2.1, y61.1.1.2.2, y61.1.2.1, v1026_57, y61.1.2.2, ())))))))
 (.no))
 (.no))
 (.ret (.inr (c1029_0_53, c1029_1_54, c1029_2_55, c1029_3_56, r1724_58, ()))))
noncomputable def allM_w0 : ((List zA2) × (Int × ((List zA1) × (Int × (Int × ((List zA2) × (zA10 × (zA23 × Unit)))))))) → Option zB5 := iterO fun x => (allM_l0 x).run
noncomputable def allM_B : (zA10 × ((List zA2) × Unit)) → Br (zA23 × Unit) := fun (p0, p1, ()) =>
 (.cond ((↑(List.length p0.1) : Int) == 0)
 (.ret ([], ()))
 (.opt (allM_w0 (p1, 0, p0.1, p0.2.1, p0.2.2, p1, p0, [], ())) fun z63 =>
 (.opt (sortP (z63.2.2.2.2.1, ())) fun y64 =>
 (.ret (y64.1, ())))))
noncomputable def allM : (zA10 × ((List zA2) × Unit)) → Option (zA23 × Unit) := fun x => (allM_B x).run
abbrev allM_ins : List (Bool × Pat) := [(false, .ty false zA5), (false, .ty false (.sl zA9))]
abbrev allM_outs : List Pat := [.ty false (.sl (.sl zA16))]
noncomputable abbrev allM_f : Func := Try.f51
noncomputable abbrev allM_P : Program := Try.prog
abbrev allM_kp : List Nat := kpOf allM_ins
abbrev allM_kf : List Nat := kfOf allM_ins
noncomputable def allM_c : Ctx := { cx_crossF with base := 1024 }
set_option maxRecDepth 100000 in
theorem allM_env : EnvFull allM_P allM_c := env_base (en_crossF) 1024
abbrev allM_H0 : List Hole := [.slot 1 false (.sl zA9), .slot 6 false (.int .i64), .cell 1029 0 false (.sl zA19), .cell 1029 1 false (.int .i64), .cell 1029 2 false (.int .i64), .cell 1029 3 false (.sl zA9), .tv 1026 false zA5, .ar 1724 false 104 (.sl zA16)]
def allM_S0 : Skel := ⟨60, [(2, D.c (C.ref 1026 0 0)), (5, D.c (C.ref 1029 0 0))], [(1026, []), (1029, [.bad, .bad, .bad, .bad, (.mfull 1724)]), (1724, [])]⟩
abbrev allM_H0e0 : List Hole := [.cell 1029 0 false (.sl zA19), .cell 1029 1 false (.int .i64), .cell 1029 2 false (.int .i64), .cell 1029 3 false (.sl zA9), .ar 1725 false 104 (.sl zA16)]
def allM_S0e0 : Skel := ⟨60, [(5, D.c (C.ref 1029 0 0))], [(1029, [.bad, .bad, .bad, .bad, (.mfull 1725)]), (1725, [])]⟩
def allM_h0 : Exit → Shape
  | .normal => ⟨[(1, .as false (.sl zA9)), (2, .keep), (5, .keep), (6, .as false (.int .i64))], [(5, 0, .as false (.sl zA19)), (5, 1, .as false (.int .i64)), (5, 2, .as false (.int .i64)), (5, 3, .as false (.sl zA9)), (5, 4, .row 700 false 104 (.sl zA16))], [(2, false), (5, false), (700, false)]⟩
  | .exit 0 => ⟨[(5, .keep)], [(5, 0, .as false (.sl zA19)), (5, 1, .as false (.int .i64)), (5, 2, .as false (.int .i64)), (5, 3, .as false (.sl zA9)), (5, 4, .row 701 false 104 (.sl zA16))], [(5, false), (701, false)]⟩
  | _ => ⟨[], [], []⟩
def allM_e0 : zB5 → Exit × St
  | u => (.exit 0, allM_S0e0.fillK allM_kf allM_H0e0 u)
def allM_t0 : zB5 → Br (Exit × St) := fun u => .ret (.exit 0, allM_S0e0.fillK allM_kf allM_H0e0 u)
noncomputable def allM_C0 : Code := loopAt 0 (bodyOf allM_f)
noncomputable def allM_o0 : St → Br (Exit × St) := loopF allM_kp allM_kf 1024 (allM_h0 .normal) (allM_S0.parseK allM_kf allM_H0) fun x => .opt (allM_w0 x) allM_t0
noncomputable def allM_p : Par := { sh := fun _ => none, k := 0, lo := fun i => bif Nat.beq i 5 then some allM_o0 else none }
set_option maxRecDepth 100000 in
theorem allM_r0 (s1_51 : (List zA2)) (s6_52 : Int) (c1029_0_53 : (List zA1)) (c1029_1_54 : Int) (c1029_2_55 : Int) (c1029_3_56 : (List zA2)) (v1026_57 : zA10) (r1724_58 : zA23) : roundF allM_kp allM_kf allM_c allM_p allM_h0 allM_C0 (allM_S0.fillK allM_kf allM_H0 (s1_51, s6_52, c1029_0_53, c1029_1_54, c1029_2_55, c1029_3_56, v1026_57, r1724_58, ())) = (allM_l0 (s1_51, s6_52, c1029_0_53, c1029_1_54, c1029_2_55, c1029_3_56, v1026_57, r1724_58, ())).bind (loopLeaf (fun x => allM_S0.fillK allM_kf allM_H0 x) allM_e0) := by kernel_rfl
set_option maxRecDepth 100000 in
theorem allM_ok0 (g : Cfg) (hg : ∀ n, Go.PI.look n g.m0 ≠ Option.none → n ∈ allM_kp) : LoopOk allM_P g allM_o0 allM_C0 := LoopOk.auto allM_env hg allM_p (LoOk.of (l := []) (by kernel_rfl) .nil) allM_h0 (fun x => allM_S0.fillK allM_kf allM_H0 x) (fun s x h => Skel.parseK_ok s x h) allM_l0 allM_e0 (fun _ h => by cases h) allM_t0 (fun _ => rfl) (fun (s1_51, s6_52, c1029_0_53, c1029_1_54, c1029_2_55, c1029_3_56, v1026_57, r1724_58, ()) => allM_r0 s1_51 s6_52 c1029_0_53 c1029_1_54 c1029_2_55 c1029_3_56 v1026_57 r1724_58)
set_option maxRecDepth 100000 in
theorem allM_eq (p0 : zA10) (p1 : (List zA2)) : ocRun allM_c allM_p allM_f allM_ins allM_outs (p0, p1, ()) = allM_B (p0, p1, ()) := by kernel_rfl
set_option maxRecDepth 100000 in
theorem allM_oc : OC allM_P 51 allM_ins allM_outs allM := OC.of_tree allM_env Try.func51 (by kernel_rfl) (by kernel_rfl) (p := allM_p) (fun g hg => LoOk.of (l := [allM_C0]) (by kernel_rfl) (.cons (allM_ok0 g hg) (by kernel_rfl) .nil)) (fun (p0, p1, ()) => allM_eq p0 p1)
end Go.Proofs.Ytnhiplibodkciaa
