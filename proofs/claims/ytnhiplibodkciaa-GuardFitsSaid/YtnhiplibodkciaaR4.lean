/- Contracts of functions. Printed by auto.py. -/
import Derived.Test.YtnhiplibodkciaaHa
import Derived.Test.YtnhiplibodkciaaHb
namespace Go.Proofs.Ytnhiplibodkciaa
open Go.PI Go
noncomputable def typesR_B : Unit → Br (zA11 × Unit) := fun (()) =>
 (.ret ([({ data := #[65] }, [({ data := #[120] }, 1), ({ data := #[115] }, 2)]), ({ data := #[66] }, [({ data := #[120] }, 1), ({ data := #[115] }, 2)]), ({ data := #[67] }, [({ data := #[115] }, 2), ({ data := #[120] }, 1), ({ data := #[98] }, 3)])], ()))
noncomputable def typesR : Unit → Option (zA11 × Unit) := fun x => (typesR_B x).run
abbrev typesR_ins : List (Bool × Pat) := []
abbrev typesR_outs : List Pat := [.ty false (.sl (.st (.pair .str zA27)))]
noncomputable abbrev typesR_f : Func := Try.f29
noncomputable abbrev typesR_P : Program := Try.prog
noncomputable def typesR_c : Ctx := { cx_cmpStr with base := 1024 }
set_option maxRecDepth 100000 in
theorem typesR_env : EnvFull typesR_P typesR_c := env_base (en_cmpStr) 1024
noncomputable def typesR_p : Par := { sh := fun _ => none, k := 0, lo := fun _ => none }
set_option maxRecDepth 100000 in
theorem typesR_eq  : ocRun typesR_c typesR_p typesR_f typesR_ins typesR_outs (()) = typesR_B (()) := by kernel_rfl
set_option maxRecDepth 100000 in
theorem typesR_oc : OC typesR_P 29 typesR_ins typesR_outs typesR := OC.of_tree typesR_env Try.func29 (by kernel_rfl) (by kernel_rfl) (p := typesR_p) (fun g hg => LoOk.of (l := []) (by kernel_rfl) .nil) (fun (()) => typesR_eq )
noncomputable def cx_typesR : Ctx := addO cx_cmpStr 29 (ocOrc typesR_ins typesR_outs typesR)
theorem en_typesR : EnvFull Try.prog cx_typesR := env_add (en_cmpStr) typesR_oc.callOk
noncomputable def newS_l0 : (zA11 × (Int × (Int × (zA11 × Unit)))) → Br ((zA11 × (Int × (Int × (zA11 × Unit)))) ⊕ ((Int × Unit) ⊕ (zA11 × Unit))) := fun (s14_40, s15_41, s16_42, r1724_43, ()) =>
 (.cond (decide (s16_42 < s15_41))
 (.cond (decide (0 ≤ s16_42) && decide (s16_42 < (↑(List.length s14_40) : Int)))
 (.opt (nameF (Prod.fst (List.getD s14_40 (Int.toNat s16_42) (ByteArray.empty, [])), ())) fun y44 =>
 (.cond (!y44.1)
 (.ret (.inr (.inl (1, ()))))
 (.opt (fieldsF (Prod.snd (List.getD s14_40 (Int.toNat s16_42) (ByteArray.empty, [])), ())) fun y45 =>
 (.cond (!y45.1)
 (.ret (.inr (.inl (1, ()))))
 (.opt (findF (some r1724_43, Prod.fst (List.getD s14_40 (Int.toNat s16_42) (ByteArray.empty, [])), ())) fun y46 =>
 (.cond y46.1.2
 (.ret (.inr (.inl (4, ()))))
 (.opt (cloneField (Prod.snd (List.getD s14_40 (Int.toNat s16_42) (ByteArray.empty, [])), ())) fun y47 =>
 (.cond (decide ((List.length r1724_43 + List.length (List.set (List.replicate 1 (ByteArray.empty, [])) 0 (Prod.fst (List.getD s14_40 (Int.toNat s16_42) (ByteArray.empty, [])), y47.1))) * 40 ≤ 140737488355328))
 (.ret (.inl (s14_40, s15_41, IntKind.wrap .i64 (s16_42 + 1), r1724_43 ++ List.set (List.replicate 1 (ByteArray.empty, [])) 0 (Prod.fst (List.getD s14_40 (Int.toNat s16_42) (ByteArray.empty, [])), y47.1), ())))
 (.no)))))))))
 (.no))
 (.ret (.inr (.inr (r1724_43, ())))))
noncomputable def newS_w0 : (zA11 × (Int × (Int × (zA11 × Unit)))) → Option ((Int × Unit) ⊕ (zA11 × Unit)) := iterO fun x => (newS_l0 x).run
noncomputable def newS_B : (zA11 × Unit) → Br (((Option zA11) × Int) × Unit) := fun (p0, ()) =>
 (.cond (decide ((↑(List.length p0) : Int) > 16))
 (.ret ((none, 5), ()))
 (.opt (newS_w0 (p0, (↑(List.length p0) : Int), 0, [], ())) fun z49 =>
 (.sum z49 (fun u50 =>
 (.ret ((none, u50.1), ()))) (fun z51 =>
 (.ret ((some z51.1, 0), ()))))))
noncomputable def newS : (zA11 × Unit) → Option (((Option zA11) × Int) × Unit) := fun x => (newS_B x).run
abbrev newS_ins : List (Bool × Pat) := [(false, .ty true (.sl (.st (.pair .str zA27))))]
abbrev newS_outs : List Pat := [.ty false zA17, .ty false (.int .i64)]
noncomputable abbrev newS_f : Func := Try.f28
noncomputable abbrev newS_P : Program := Try.prog
abbrev newS_kp : List Nat := kpOf newS_ins
abbrev newS_kf : List Nat := kfOf newS_ins
noncomputable def newS_c : Ctx := { cx_typesR with base := 1024 }
set_option maxRecDepth 100000 in
theorem newS_env : EnvFull newS_P newS_c := env_base (en_typesR) 1024
abbrev newS_H0 : List Hole := [.slot 14 true (.sl (.st (.pair .str zA27))), .slot 15 false (.int .i64), .slot 16 false (.int .i64), .ar 1724 false 132 (.st (.pair .str zA27))]
def newS_S0 : Skel := ⟨55, [(4, D.c (C.ref 1037 0 0))], [(1037, [(.mfull 1724)]), (1724, [])]⟩
abbrev newS_H0e0 : List Hole := [.slot 3 false (.int .i64)]
def newS_S0e0 : Skel := ⟨55, [(2, D.c C.nilp)], []⟩
abbrev newS_H0e1 : List Hole := [.ar 1725 false 132 (.st (.pair .str zA27))]
def newS_S0e1 : Skel := ⟨55, [(4, D.c (C.ref 1037 0 0))], [(1037, [(.mfull 1725)]), (1725, [])]⟩
def newS_h0 : Exit → Shape
  | .normal => ⟨[(4, .keep), (14, .as true (.sl (.st (.pair .str zA27)))), (15, .as false (.int .i64)), (16, .as false (.int .i64))], [(13, 0, .row 700 false 132 (.st (.pair .str zA27)))], [(13, false), (700, false)]⟩
  | .ret => ⟨[(2, .keep), (3, .as false (.int .i64))], [], []⟩
  | .exit 0 => ⟨[(4, .keep)], [(13, 0, .row 701 false 132 (.st (.pair .str zA27)))], [(13, false), (701, false)]⟩
  | _ => ⟨[], [], []⟩
def newS_e0 : ((Int × Unit) ⊕ (zA11 × Unit)) → Exit × St
  | (.inl u) => (.ret, newS_S0e0.fillK newS_kf newS_H0e0 u)
  | (.inr u) => (.exit 0, newS_S0e1.fillK newS_kf newS_H0e1 u)
def newS_t0 : ((Int × Unit) ⊕ (zA11 × Unit)) → Br (Exit × St) := fun z => .sum z (fun u => .ret (.ret, newS_S0e0.fillK newS_kf newS_H0e0 u)) (fun u => .ret (.exit 0, newS_S0e1.fillK newS_kf newS_H0e1 u))
noncomputable def newS_C0 : Code := loopAt 0 (bodyOf newS_f)
noncomputable def newS_o0 : St → Br (Exit × St) := loopF newS_kp newS_kf 1024 (newS_h0 .normal) (newS_S0.parseK newS_kf newS_H0) fun x => .opt (newS_w0 x) newS_t0
noncomputable def newS_p : Par := { sh := fun _ => none, k := 0, lo := fun i => bif Nat.beq i 5 then some newS_o0 else none }
set_option maxRecDepth 100000 in
theorem newS_r0 (s14_40 : zA11) (s15_41 : Int) (s16_42 : Int) (r1724_43 : zA11) : roundF newS_kp newS_kf newS_c newS_p newS_h0 newS_C0 (newS_S0.fillK newS_kf newS_H0 (s14_40, s15_41, s16_42, r1724_43, ())) = (newS_l0 (s14_40, s15_41, s16_42, r1724_43, ())).bind (loopLeaf (fun x => newS_S0.fillK newS_kf newS_H0 x) newS_e0) := by kernel_rfl
set_option maxRecDepth 100000 in
theorem newS_ok0 (g : Cfg) (hg : ∀ n, Go.PI.look n g.m0 ≠ Option.none → n ∈ newS_kp) : LoopOk newS_P g newS_o0 newS_C0 := LoopOk.auto newS_env hg newS_p (LoOk.of (l := []) (by kernel_rfl) .nil) newS_h0 (fun x => newS_S0.fillK newS_kf newS_H0 x) (fun s x h => Skel.parseK_ok s x h) newS_l0 newS_e0 (fun z h => by rcases z with z | z <;> cases h) newS_t0 (fun z => by rcases z with z | z <;> rfl) (fun (s14_40, s15_41, s16_42, r1724_43, ()) => newS_r0 s14_40 s15_41 s16_42 r1724_43)
set_option maxRecDepth 100000 in
theorem newS_eq (p0 : zA11) : ocRun newS_c newS_p newS_f newS_ins newS_outs (p0, ()) = newS_B (p0, ()) := by kernel_rfl
set_option maxRecDepth 100000 in
theorem newS_oc : OC newS_P 28 newS_ins newS_outs newS := OC.of_tree newS_env Try.func28 (by kernel_rfl) (by kernel_rfl) (p := newS_p) (fun g hg => LoOk.of (l := [newS_C0]) (by kernel_rfl) (.cons (newS_ok0 g hg) (by kernel_rfl) .nil)) (fun (p0, ()) => newS_eq p0)
end Go.Proofs.Ytnhiplibodkciaa
