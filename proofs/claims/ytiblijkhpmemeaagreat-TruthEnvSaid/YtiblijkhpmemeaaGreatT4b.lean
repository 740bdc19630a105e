/- Contracts of functions. Printed by auto.py. -/
import Derived.Test.YtiblijkhpmemeaaGreatHa
import Derived.Test.YtiblijkhpmemeaaGreatAw2
namespace Go.Proofs.YtiblijkhpmemeaaGreat
set_option maxRecDepth 100000
open Go.PI Go
noncomputable def truthEnv_l2 : ((Option zA11) × ((List zA2) × (zA23 × (Int × ((List (Int × Int)) × (Int × (Int × (Int × (Int × (Bool × (zA10 × (zA21 × Unit)))))))))))) → Br (((Option zA11) × ((List zA2) × (zA23 × (Int × ((List (Int × Int)) × (Int × (Int × (Int × (Int × (Bool × (zA10 × (zA21 × Unit)))))))))))) ⊕ (Unit ⊕ ((Option zA11) × ((List zA2) × (zA23 × (Int × ((List (Int × Int)) × (Int × (Int × (Int × (Bool × (zA10 × (zA21 × Unit))))))))))))) := fun (a, b, c, d, e, f, g, h, i, j, k, l, ()) =>
 (.cond (decide (h < f))
 (.cond (decide (0 ≤ h) && decide (h < (↑(List.length e) : Int)))
 (.cond (decide (0 ≤ (List.getD e (Int.toNat h) (0, 0)).1) && decide ((List.getD e (Int.toNat h) (0, 0)).1 < (↑(List.length k.1) : Int)))
 (.cond ((List.getD k.1 (Int.toNat (List.getD e (Int.toNat h) (0, 0)).1) zV2).2.2.2.2.1 == 1)
 (.cond (decide (0 ≤ h) && decide (h < (↑(List.length e) : Int)))
 (.cond (decide (0 ≤ f) && decide (f < (↑(List.length e) : Int)))
 (.cond (decide ((List.getD e (Int.toNat h) (0, 0)).1 < (List.getD e (Int.toNat f) (0, 0)).1))
 (.cond (decide (g ≥ (↑(List.length l) : Int)))
 (.ret (.inr (.inl (()))))
 (.cond (decide (0 ≤ g) && decide (g < (↑(List.length l) : Int)))
 (.cond (decide (0 ≤ h) && decide (h < (↑(List.length e) : Int)))
 (.cond (decide (0 ≤ (List.getD e (Int.toNat h) (0, 0)).1) && decide ((List.getD e (Int.toNat h) (0, 0)).1 < (↑(List.length k.1) : Int)))
 (.cond (!bl (List.getD l (Int.toNat g) zV3).1 == bl (List.getD k.1 (Int.toNat (List.getD e (Int.toNat h) (0, 0)).1) zV2).1)
 (.ret (.inr (.inl (()))))
 (.cond (decide (0 ≤ g) && decide (g < (↑(List.length l) : Int)))
 (.cond (decide (0 ≤ h) && decide (h < (↑(List.length e) : Int)))
 (.cond ((List.getD l (Int.toNat g) zV3).2.2.2.2.1 != (List.getD e (Int.toNat h) (0, 0)).2)
 (.ret (.inr (.inl (()))))
 (.ret (.inl (a, b, c, d, e, f, IntKind.wrap .i64 (g + 1), IntKind.wrap .i64 (h + 1), i, j, k, l, ()))))
 (.no))
 (.no)))
 (.no))
 (.no))
 (.no)))
 (.ret (.inl (a, b, c, d, e, f, g, IntKind.wrap .i64 (h + 1), i, j, k, l, ()))))
 (.no))
 (.no))
 (.ret (.inl (a, b, c, d, e, f, g, IntKind.wrap .i64 (h + 1), i, j, k, l, ()))))
 (.no))
 (.no))
 (.ret (.inr (.inr (a, b, c, d, e, f, g, i, j, k, l, ())))))
noncomputable def truthEnv_w2 : ((Option zA11) × ((List zA2) × (zA23 × (Int × ((List (Int × Int)) × (Int × (Int × (Int × (Int × (Bool × (zA10 × (zA21 × Unit)))))))))))) → Option (Unit ⊕ ((Option zA11) × ((List zA2) × (zA23 × (Int × ((List (Int × Int)) × (Int × (Int × (Int × (Bool × (zA10 × (zA21 × Unit)))))))))))) := iterO fun x => (truthEnv_l2 x).run
noncomputable def truthEnv_l3 : ((Option zA11) × ((List zA2) × (zA23 × (Int × ((List (Int × Int)) × (Int × (Int × (Int × (Int × (Bool × (zA10 × (zA2 × (zA21 × Unit))))))))))))) → Br (((Option zA11) × ((List zA2) × (zA23 × (Int × ((List (Int × Int)) × (Int × (Int × (Int × (Int × (Bool × (zA10 × (zA2 × (zA21 × Unit))))))))))))) ⊕ ((Option zA11) × ((List zA2) × (zA23 × (Int × ((List (Int × Int)) × (Int × (Int × (Int × (Bool × (zA10 × (zA2 × (zA21 × Unit))))))))))))) := fun (a, b, c, d, e, f, g, h, i, j, k, l, m, ()) =>
 (.cond (decide (h < (↑(List.length b) : Int)))
 (.cond (decide (0 ≤ h) && decide (h < (↑(List.length b) : Int)))
 (.cond (decide (0 ≤ f) && decide (f < (↑(List.length e) : Int)))
 (.cond ((List.getD b (Int.toNat h) zV1).2.2.2.1 == (List.getD e (Int.toNat f) (0, 0)).2)
 (.cond (decide (0 ≤ h) && decide (h < (↑(List.length b) : Int)))
 (.ret (.inl (a, b, c, d, e, f, g, IntKind.wrap .i64 (h + 1), i, j, k, List.getD b (Int.toNat h) zV1, m, ())))
 (.no))
 (.ret (.inl (a, b, c, d, e, f, g, IntKind.wrap .i64 (h + 1), i, j, k, l, m, ()))))
 (.no))
 (.no))
 (.ret (.inr (a, b, c, d, e, f, g, i, j, k, l, m, ()))))
noncomputable def truthEnv_w3 : ((Option zA11) × ((List zA2) × (zA23 × (Int × ((List (Int × Int)) × (Int × (Int × (Int × (Int × (Bool × (zA10 × (zA2 × (zA21 × Unit))))))))))))) → Option ((Option zA11) × ((List zA2) × (zA23 × (Int × ((List (Int × Int)) × (Int × (Int × (Int × (Bool × (zA10 × (zA2 × (zA21 × Unit)))))))))))) := iterO fun x => (truthEnv_l3 x).run
noncomputable def truthEnv_l1 : ((Option zA11) × ((List zA2) × (zA23 × (Int × ((List (Int × Int)) × (Int × (Int × (Bool × (zA10 × Unit))))))))) → Br (((Option zA11) × ((List zA2) × (zA23 × (Int × ((List (Int × Int)) × (Int × (Int × (Bool × (zA10 × Unit))))))))) ⊕ (Unit ⊕ ((Option zA11) × ((List zA2) × (zA23 × (Int × (Int × (Bool × (zA10 × Unit))))))))) := fun (a, b, c, d, e, f, g, h, i, ()) =>
 (.cond (decide (f < (↑(List.length e) : Int)))
 (.cond (decide (0 ≤ 0) && decide (0 ≤ f) && decide (f ≤ (↑(List.length e) : Int)))
 (.cond (decide (0 ≤ f) && decide (f < (↑(List.length e) : Int)))
 (.opt (envT (i, b, List.drop (Int.toNat 0) (List.take (Int.toNat f) e), (List.getD e (Int.toNat f) (0, 0)).1, ())) fun j =>
 (.opt (truthEnv_w2 (a, b, c, d, e, f, 0, 0, g, h, i, j.1, ())) fun k =>
 (.sum k (fun l =>
 (.ret (.inr (.inl (()))))) (fun m =>
 (.opt (truthEnv_w3 (m.1, m.2.1, m.2.2.1, m.2.2.2.1, m.2.2.2.2.1, m.2.2.2.2.2.1, m.2.2.2.2.2.2.1, 0, m.2.2.2.2.2.2.2.1, m.2.2.2.2.2.2.2.2.1, m.2.2.2.2.2.2.2.2.2.1, zV1, m.2.2.2.2.2.2.2.2.2.2.1, ())) fun n =>
 (.cond (n.2.2.2.2.2.2.1 != (↑(List.length n.2.2.2.2.2.2.2.2.2.2.2.1) : Int))
 (.ret (.inr (.inl (()))))
 (.cond (decide (0 ≤ 0) && decide (0 ≤ n.2.2.2.2.2.1) && decide (n.2.2.2.2.2.1 ≤ (↑(List.length n.2.2.2.2.1) : Int)))
 (.cond (decide (0 ≤ n.2.2.2.2.2.1) && decide (n.2.2.2.2.2.1 < (↑(List.length n.2.2.2.2.1) : Int)))
 (.opt (fitsT (n.1, n.2.2.2.2.2.2.2.2.2.1, n.2.1, List.drop (Int.toNat 0) (List.take (Int.toNat n.2.2.2.2.2.1) n.2.2.2.2.1), (List.getD n.2.2.2.2.1 (Int.toNat n.2.2.2.2.2.1) (0, 0)).1, n.2.2.2.2.2.2.2.2.2.2.1, ())) fun o =>
 (.cond (!o.1)
 (.ret (.inr (.inl (()))))
 (.ret (.inl (n.1, n.2.1, n.2.2.1, n.2.2.2.1, n.2.2.2.2.1, IntKind.wrap .i64 (n.2.2.2.2.2.1 + 1), n.2.2.2.2.2.2.2.1, n.2.2.2.2.2.2.2.2.1, n.2.2.2.2.2.2.2.2.2.1, ())))))
 (.no))
 (.no))))))))
 (.no))
 (.no))
 (.ret (.inr (.inr (a, b, c, d, g, h, i, ())))))
noncomputable def truthEnv_w1 : ((Option zA11) × ((List zA2) × (zA23 × (Int × ((List (Int × Int)) × (Int × (Int × (Bool × (zA10 × Unit))))))))) → Option (Unit ⊕ ((Option zA11) × ((List zA2) × (zA23 × (Int × (Int × (Bool × (zA10 × Unit)))))))) := iterO fun x => (truthEnv_l1 x).run
noncomputable def truthEnv_l0 : ((Option zA11) × ((List zA2) × (zA23 × (Int × (zA10 × Unit))))) → Br (((Option zA11) × ((List zA2) × (zA23 × (Int × (zA10 × Unit))))) ⊕ (Unit ⊕ Unit)) := fun (a, b, c, d, e, ()) =>
 (.cond (decide (d < (↑(List.length c) : Int)))
 (.cond (decide (d < 10))
 (.cond (decide (0 ≤ d) && decide (d < (↑(List.length c) : Int)))
 (.opt (truthEnv_w1 (a, b, c, d, List.getD c (Int.toNat d) [], 0, d, decide (d < 10), e, ())) fun f =>
 (.sum f (fun g =>
 (.ret (.inr (.inl (()))))) (fun h =>
 (.ret (.inl (h.1, h.2.1, h.2.2.1, IntKind.wrap .i64 (h.2.2.2.1 + 1), h.2.2.2.2.2.2.1, ()))))))
 (.no))
 (.ret (.inr (.inr (())))))
 (.ret (.inr (.inr (())))))
noncomputable def truthEnv_w0 : ((Option zA11) × ((List zA2) × (zA23 × (Int × (zA10 × Unit))))) → Option (Unit ⊕ Unit) := iterO fun x => (truthEnv_l0 x).run
noncomputable def truthEnv_B : ((List Int) × ((List zA2) × Unit)) → Br (Bool × Unit) := fun (p0, p1, ()) =>
 (.opt (typesR ()) fun a =>
 (.opt (newS (a.1, ())) fun b =>
 (.opt (queryQ (p0, ())) fun c =>
 (.opt (events20 (p1, 6, ())) fun d =>
 (.opt (allM (c.1, d.1, ())) fun e =>
 (.opt (truthEnv_w0 (b.1.1, d.1, e.1, 0, c.1, ())) fun f =>
 (.sum f (fun g =>
 (.ret (false, ()))) (fun h =>
 (.opt (awake20 ()) fun i =>
 (.ret (i.1, ())))))))))))
noncomputable def truthEnv : ((List Int) × ((List zA2) × Unit)) → Option (Bool × Unit) := fun x => (truthEnv_B x).run
abbrev truthEnv_ins : List (Bool × Pat) := [(false, .ty true (.sl (.int .i64))), (false, .ty true (.sl zA9))]
abbrev truthEnv_outs : List Pat := [.ty false .bool]
noncomputable abbrev truthEnv_f : Func := Tryz.f4
noncomputable abbrev truthEnv_P : Program := Tryz.prog
abbrev truthEnv_kp : List Nat := kpOf truthEnv_ins
abbrev truthEnv_kf : List Nat := kfOf truthEnv_ins
noncomputable def truthEnv_c : Ctx := { cx_awake20 with base := 1024 }
theorem truthEnv_env : EnvFull truthEnv_P truthEnv_c := env_base (en_awake20) 1024
abbrev truthEnv_H2 : List Hole := [.slot 5 false zA17, .slot 8 false (.sl zA9), .slot 9 false (.sl (.sl zA16)), .slot 10 false (.int .i64), .slot 11 false (.sl zA16), .slot 12 false (.int .i64), .slot 14 false (.int .i64), .slot 15 false (.int .i64), .slot 35 false (.int .i64), .slot 36 false .bool, .tv 1031 false zA5, .ar 1111940 false 54 (.st (.pair .str zA9))]
def truthEnv_S2 : Skel := ⟨171, [(7, D.c (C.ref 1031 0 0)), (13, D.c (C.mfull 1111940))], [(1031, []), (1111940, [])]⟩
abbrev truthEnv_H2e0 : List Hole := []
def truthEnv_S2e0 : Skel := ⟨171, [(4, D.c C.ff)], []⟩
abbrev truthEnv_H2e1 : List Hole := [.slot 5 false zA17, .slot 8 false (.sl zA9), .slot 9 false (.sl (.sl zA16)), .slot 10 false (.int .i64), .slot 11 false (.sl zA16), .slot 12 false (.int .i64), .slot 14 false (.int .i64), .slot 35 false (.int .i64), .slot 36 false .bool, .tv 1031 false zA5, .ar 1111940 false 54 (.st (.pair .str zA9))]
def truthEnv_S2e1 : Skel := ⟨171, [(7, D.c (C.ref 1031 0 0)), (13, D.c (C.mfull 1111940))], [(1031, []), (1111940, [])]⟩
def truthEnv_h2 : Exit → Shape
 | .normal => ⟨[(5, .as false zA17), (7, .keep), (8, .as false (.sl zA9)), (9, .as false (.sl (.sl zA16))), (10, .as false (.int .i64)), (11, .as false (.sl zA16)), (12, .as false (.int .i64)), (13, .keep), (14, .as false (.int .i64)), (15, .as false (.int .i64)), (35, .as false (.int .i64)), (36, .as false .bool)], [], [(7, false), (1110916, false)]⟩
 | .ret => ⟨[(4, .keep)], [], []⟩
 | .exit 4 => ⟨[(5, .as false zA17), (7, .keep), (8, .as false (.sl zA9)), (9, .as false (.sl (.sl zA16))), (10, .as false (.int .i64)), (11, .as false (.sl zA16)), (12, .as false (.int .i64)), (13, .keep), (14, .as false (.int .i64)), (35, .as false (.int .i64)), (36, .as false .bool)], [], [(7, false), (1110916, false)]⟩
 | _ => ⟨[], [], []⟩
def truthEnv_e2 : (Unit ⊕ ((Option zA11) × ((List zA2) × (zA23 × (Int × ((List (Int × Int)) × (Int × (Int × (Int × (Bool × (zA10 × (zA21 × Unit)))))))))))) → Exit × St
 | (.inl u) => (.ret, truthEnv_S2e0.fillK truthEnv_kf truthEnv_H2e0 u)
 | (.inr u) => (.exit 4, truthEnv_S2e1.fillK truthEnv_kf truthEnv_H2e1 u)
def truthEnv_t2 : (Unit ⊕ ((Option zA11) × ((List zA2) × (zA23 × (Int × ((List (Int × Int)) × (Int × (Int × (Int × (Bool × (zA10 × (zA21 × Unit)))))))))))) → Br (Exit × St) := fun z => .sum z (fun u => .ret (.ret, truthEnv_S2e0.fillK truthEnv_kf truthEnv_H2e0 u)) (fun u => .ret (.exit 4, truthEnv_S2e1.fillK truthEnv_kf truthEnv_H2e1 u))
noncomputable def truthEnv_C2 : Code := loopAt 2 (bodyOf truthEnv_f)
noncomputable def truthEnv_o2 : St → Br (Exit × St) := loopF truthEnv_kp truthEnv_kf 1024 (truthEnv_h2 .normal) (truthEnv_S2.parseK truthEnv_kf truthEnv_H2) fun x => .opt (truthEnv_w2 x) truthEnv_t2
abbrev truthEnv_H3 : List Hole := [.slot 5 false zA17, .slot 8 false (.sl zA9), .slot 9 false (.sl (.sl zA16)), .slot 10 false (.int .i64), .slot 11 false (.sl zA16), .slot 12 false (.int .i64), .slot 14 false (.int .i64), .slot 17 false (.int .i64), .slot 35 false (.int .i64), .slot 36 false .bool, .tv 1031 false zA5, .tv 1040 false zA9, .ar 1111940 false 54 (.st (.pair .str zA9))]
def truthEnv_S3 : Skel := ⟨171, [(7, D.c (C.ref 1031 0 0)), (13, D.c (C.mfull 1111940)), (16, D.c (C.ref 1040 0 0))], [(1031, []), (1040, []), (1111940, [])]⟩
abbrev truthEnv_H3e0 : List Hole := [.slot 5 false zA17, .slot 8 false (.sl zA9), .slot 9 false (.sl (.sl zA16)), .slot 10 false (.int .i64), .slot 11 false (.sl zA16), .slot 12 false (.int .i64), .slot 14 false (.int .i64), .slot 35 false (.int .i64), .slot 36 false .bool, .tv 1031 false zA5, .tv 1040 false zA9, .ar 1111940 false 54 (.st (.pair .str zA9))]
def truthEnv_S3e0 : Skel := ⟨171, [(7, D.c (C.ref 1031 0 0)), (13, D.c (C.mfull 1111940)), (16, D.c (C.ref 1040 0 0))], [(1031, []), (1040, []), (1111940, [])]⟩
def truthEnv_h3 : Exit → Shape
 | .normal => ⟨[(5, .as false zA17), (7, .keep), (8, .as false (.sl zA9)), (9, .as false (.sl (.sl zA16))), (10, .as false (.int .i64)), (11, .as false (.sl zA16)), (12, .as false (.int .i64)), (13, .keep), (14, .as false (.int .i64)), (16, .keep), (17, .as false (.int .i64)), (35, .as false (.int .i64)), (36, .as false .bool)], [(16, 0, .var zA9)], [(7, false), (16, false), (1110916, false)]⟩
 | .exit 6 => ⟨[(5, .as false zA17), (7, .keep), (8, .as false (.sl zA9)), (9, .as false (.sl (.sl zA16))), (10, .as false (.int .i64)), (11, .as false (.sl zA16)), (12, .as false (.int .i64)), (13, .keep), (14, .as false (.int .i64)), (16, .keep), (35, .as false (.int .i64)), (36, .as false .bool)], [(16, 0, .var zA9)], [(7, false), (16, false), (1110916, false)]⟩
 | _ => ⟨[], [], []⟩
def truthEnv_e3 : ((Option zA11) × ((List zA2) × (zA23 × (Int × ((List (Int × Int)) × (Int × (Int × (Int × (Bool × (zA10 × (zA2 × (zA21 × Unit)))))))))))) → Exit × St
 | u => (.exit 6, truthEnv_S3e0.fillK truthEnv_kf truthEnv_H3e0 u)
def truthEnv_t3 : ((Option zA11) × ((List zA2) × (zA23 × (Int × ((List (Int × Int)) × (Int × (Int × (Int × (Bool × (zA10 × (zA2 × (zA21 × Unit)))))))))))) → Br (Exit × St) := fun u => .ret (.exit 6, truthEnv_S3e0.fillK truthEnv_kf truthEnv_H3e0 u)
noncomputable def truthEnv_C3 : Code := loopAt 3 (bodyOf truthEnv_f)
noncomputable def truthEnv_o3 : St → Br (Exit × St) := loopF truthEnv_kp truthEnv_kf 1024 (truthEnv_h3 .normal) (truthEnv_S3.parseK truthEnv_kf truthEnv_H3) fun x => .opt (truthEnv_w3 x) truthEnv_t3
abbrev truthEnv_H1 : List Hole := [.slot 5 false zA17, .slot 8 false (.sl zA9), .slot 9 false (.sl (.sl zA16)), .slot 10 false (.int .i64), .slot 11 false (.sl zA16), .slot 12 false (.int .i64), .slot 35 false (.int .i64), .slot 36 false .bool, .tv 1031 false zA5]
def truthEnv_S1 : Skel := ⟨171, [(7, D.c (C.ref 1031 0 0))], [(1031, [])]⟩
abbrev truthEnv_H1e0 : List Hole := []
def truthEnv_S1e0 : Skel := ⟨171, [(4, D.c C.ff)], []⟩
abbrev truthEnv_H1e1 : List Hole := [.slot 5 false zA17, .slot 8 false (.sl zA9), .slot 9 false (.sl (.sl zA16)), .slot 10 false (.int .i64), .slot 35 false (.int .i64), .slot 36 false .bool, .tv 1031 false zA5]
def truthEnv_S1e1 : Skel := ⟨171, [(7, D.c (C.ref 1031 0 0))], [(1031, [])]⟩
def truthEnv_h1 : Exit → Shape
 | .normal => ⟨[(5, .as false zA17), (7, .keep), (8, .as false (.sl zA9)), (9, .as false (.sl (.sl zA16))), (10, .as false (.int .i64)), (11, .as false (.sl zA16)), (12, .as false (.int .i64)), (35, .as false (.int .i64)), (36, .as false .bool)], [], [(7, false)]⟩
 | .ret => ⟨[(4, .keep)], [], []⟩
 | .exit 2 => ⟨[(5, .as false zA17), (7, .keep), (8, .as false (.sl zA9)), (9, .as false (.sl (.sl zA16))), (10, .as false (.int .i64)), (35, .as false (.int .i64)), (36, .as false .bool)], [], [(7, false)]⟩
 | _ => ⟨[], [], []⟩
def truthEnv_e1 : (Unit ⊕ ((Option zA11) × ((List zA2) × (zA23 × (Int × (Int × (Bool × (zA10 × Unit)))))))) → Exit × St
 | (.inl u) => (.ret, truthEnv_S1e0.fillK truthEnv_kf truthEnv_H1e0 u)
 | (.inr u) => (.exit 2, truthEnv_S1e1.fillK truthEnv_kf truthEnv_H1e1 u)
def truthEnv_t1 : (Unit ⊕ ((Option zA11) × ((List zA2) × (zA23 × (Int × (Int × (Bool × (zA10 × Unit)))))))) → Br (Exit × St) := fun z => .sum z (fun u => .ret (.ret, truthEnv_S1e0.fillK truthEnv_kf truthEnv_H1e0 u)) (fun u => .ret (.exit 2, truthEnv_S1e1.fillK truthEnv_kf truthEnv_H1e1 u))
noncomputable def truthEnv_C1 : Code := loopAt 1 (bodyOf truthEnv_f)
noncomputable def truthEnv_o1 : St → Br (Exit × St) := loopF truthEnv_kp truthEnv_kf 1024 (truthEnv_h1 .normal) (truthEnv_S1.parseK truthEnv_kf truthEnv_H1) fun x => .opt (truthEnv_w1 x) truthEnv_t1
abbrev truthEnv_H0 : List Hole := [.slot 5 false zA17, .slot 8 false (.sl zA9), .slot 9 false (.sl (.sl zA16)), .slot 10 false (.int .i64), .tv 1031 false zA5]
def truthEnv_S0 : Skel := ⟨171, [(7, D.c (C.ref 1031 0 0))], [(1031, [])]⟩
abbrev truthEnv_H0e0 : List Hole := []
def truthEnv_S0e0 : Skel := ⟨171, [(4, D.c C.ff)], []⟩
abbrev truthEnv_H0e1 : List Hole := []
def truthEnv_S0e1 : Skel := ⟨171, [], []⟩
def truthEnv_h0 : Exit → Shape
 | .normal => ⟨[(5, .as false zA17), (7, .keep), (8, .as false (.sl zA9)), (9, .as false (.sl (.sl zA16))), (10, .as false (.int .i64))], [], [(7, false)]⟩
 | .ret => ⟨[(4, .keep)], [], []⟩
 | .exit 0 => ⟨[], [], []⟩
 | _ => ⟨[], [], []⟩
def truthEnv_e0 : (Unit ⊕ Unit) → Exit × St
 | (.inl u) => (.ret, truthEnv_S0e0.fillK truthEnv_kf truthEnv_H0e0 u)
 | (.inr u) => (.exit 0, truthEnv_S0e1.fillK truthEnv_kf truthEnv_H0e1 u)
def truthEnv_t0 : (Unit ⊕ Unit) → Br (Exit × St) := fun z => .sum z (fun u => .ret (.ret, truthEnv_S0e0.fillK truthEnv_kf truthEnv_H0e0 u)) (fun u => .ret (.exit 0, truthEnv_S0e1.fillK truthEnv_kf truthEnv_H0e1 u))
noncomputable def truthEnv_C0 : Code := loopAt 0 (bodyOf truthEnv_f)
noncomputable def truthEnv_o0 : St → Br (Exit × St) := loopF truthEnv_kp truthEnv_kf 1024 (truthEnv_h0 .normal) (truthEnv_S0.parseK truthEnv_kf truthEnv_H0) fun x => .opt (truthEnv_w0 x) truthEnv_t0
noncomputable def truthEnv_p : Par := { sh := fun _ => none, k := 0, lo := fun i => bif Nat.beq i 6 then some truthEnv_o0 else bif Nat.beq i 10 then some truthEnv_o1 else bif Nat.beq i 15 then some truthEnv_o2 else bif Nat.beq i 23 then some truthEnv_o3 else none }
theorem truthEnv_r2 (a : (Option zA11)) (b : (List zA2)) (c : zA23) (d : Int) (e : (List (Int × Int))) (f : Int) (g : Int) (h : Int) (i : Int) (j : Bool) (k : zA10) (l : zA21) : roundF truthEnv_kp truthEnv_kf truthEnv_c truthEnv_p truthEnv_h2 truthEnv_C2 (truthEnv_S2.fillK truthEnv_kf truthEnv_H2 (a, b, c, d, e, f, g, h, i, j, k, l, ())) = (truthEnv_l2 (a, b, c, d, e, f, g, h, i, j, k, l, ())).bind (loopLeaf (fun x => truthEnv_S2.fillK truthEnv_kf truthEnv_H2 x) truthEnv_e2) := by kernel_rfl
theorem truthEnv_ok2 (g : Cfg) (hg : ∀ n, Go.PI.look n g.m0 ≠ Option.none → n ∈ truthEnv_kp) : LoopOk truthEnv_P g truthEnv_o2 truthEnv_C2 := LoopOk.auto truthEnv_env hg truthEnv_p (LoOk.of (l := []) (by kernel_rfl) .nil) truthEnv_h2 (fun x => truthEnv_S2.fillK truthEnv_kf truthEnv_H2 x) (fun s x h => Skel.parseK_ok s x h) truthEnv_l2 truthEnv_e2 (fun z h => by rcases z with z | z <;> cases h) truthEnv_t2 (fun z => by rcases z with z | z <;> rfl) (fun (a, b, c, d, e, f, i, j, k, m, o, p, ()) => truthEnv_r2 a b c d e f i j k m o p)
theorem truthEnv_r3 (a : (Option zA11)) (b : (List zA2)) (c : zA23) (d : Int) (e : (List (Int × Int))) (f : Int) (g : Int) (h : Int) (i : Int) (j : Bool) (k : zA10) (l : zA2) (m : zA21) : roundF truthEnv_kp truthEnv_kf truthEnv_c truthEnv_p truthEnv_h3 truthEnv_C3 (truthEnv_S3.fillK truthEnv_kf truthEnv_H3 (a, b, c, d, e, f, g, h, i, j, k, l, m, ())) = (truthEnv_l3 (a, b, c, d, e, f, g, h, i, j, k, l, m, ())).bind (loopLeaf (fun x => truthEnv_S3.fillK truthEnv_kf truthEnv_H3 x) truthEnv_e3) := by kernel_rfl
theorem truthEnv_ok3 (g : Cfg) (hg : ∀ n, Go.PI.look n g.m0 ≠ Option.none → n ∈ truthEnv_kp) : LoopOk truthEnv_P g truthEnv_o3 truthEnv_C3 := LoopOk.auto truthEnv_env hg truthEnv_p (LoOk.of (l := []) (by kernel_rfl) .nil) truthEnv_h3 (fun x => truthEnv_S3.fillK truthEnv_kf truthEnv_H3 x) (fun s x h => Skel.parseK_ok s x h) truthEnv_l3 truthEnv_e3 (fun _ h => by cases h) truthEnv_t3 (fun _ => rfl) (fun (a, b, c, d, e, f, i, j, k, m, o, p, q, ()) => truthEnv_r3 a b c d e f i j k m o p q)
theorem truthEnv_r1 (a : (Option zA11)) (b : (List zA2)) (c : zA23) (d : Int) (e : (List (Int × Int))) (f : Int) (g : Int) (h : Bool) (i : zA10) : roundF truthEnv_kp truthEnv_kf truthEnv_c truthEnv_p truthEnv_h1 truthEnv_C1 (truthEnv_S1.fillK truthEnv_kf truthEnv_H1 (a, b, c, d, e, f, g, h, i, ())) = (truthEnv_l1 (a, b, c, d, e, f, g, h, i, ())).bind (loopLeaf (fun x => truthEnv_S1.fillK truthEnv_kf truthEnv_H1 x) truthEnv_e1) := by kernel_rfl
theorem truthEnv_ok1 (g : Cfg) (hg : ∀ n, Go.PI.look n g.m0 ≠ Option.none → n ∈ truthEnv_kp) : LoopOk truthEnv_P g truthEnv_o1 truthEnv_C1 := LoopOk.auto truthEnv_env hg truthEnv_p (LoOk.of (l := [truthEnv_C2, truthEnv_C3]) (by kernel_rfl) (.cons (truthEnv_ok2 g hg) (by kernel_rfl) (.cons (truthEnv_ok3 g hg) (by kernel_rfl) .nil))) truthEnv_h1 (fun x => truthEnv_S1.fillK truthEnv_kf truthEnv_H1 x) (fun s x h => Skel.parseK_ok s x h) truthEnv_l1 truthEnv_e1 (fun z h => by rcases z with z | z <;> cases h) truthEnv_t1 (fun z => by rcases z with z | z <;> rfl) (fun (a, b, c, d, e, f, i, j, k, ()) => truthEnv_r1 a b c d e f i j k)
theorem truthEnv_r0 (a : (Option zA11)) (b : (List zA2)) (c : zA23) (d : Int) (e : zA10) : roundF truthEnv_kp truthEnv_kf truthEnv_c truthEnv_p truthEnv_h0 truthEnv_C0 (truthEnv_S0.fillK truthEnv_kf truthEnv_H0 (a, b, c, d, e, ())) = (truthEnv_l0 (a, b, c, d, e, ())).bind (loopLeaf (fun x => truthEnv_S0.fillK truthEnv_kf truthEnv_H0 x) truthEnv_e0) := by kernel_rfl
theorem truthEnv_ok0 (g : Cfg) (hg : ∀ n, Go.PI.look n g.m0 ≠ Option.none → n ∈ truthEnv_kp) : LoopOk truthEnv_P g truthEnv_o0 truthEnv_C0 := LoopOk.auto truthEnv_env hg truthEnv_p (LoOk.of (l := [truthEnv_C1, truthEnv_C2, truthEnv_C3]) (by kernel_rfl) (.cons (truthEnv_ok1 g hg) (by kernel_rfl) (.cons (truthEnv_ok2 g hg) (by kernel_rfl) (.cons (truthEnv_ok3 g hg) (by kernel_rfl) .nil)))) truthEnv_h0 (fun x => truthEnv_S0.fillK truthEnv_kf truthEnv_H0 x) (fun s x h => Skel.parseK_ok s x h) truthEnv_l0 truthEnv_e0 (fun z h => by rcases z with z | z <;> cases h) truthEnv_t0 (fun z => by rcases z with z | z <;> rfl) (fun (a, b, c, d, e, ()) => truthEnv_r0 a b c d e)
theorem truthEnv_eq (p0 : (List Int)) (p1 : (List zA2)) : ocRun truthEnv_c truthEnv_p truthEnv_f truthEnv_ins truthEnv_outs (p0, p1, ()) = truthEnv_B (p0, p1, ()) := by kernel_rfl
theorem truthEnv_oc : OC truthEnv_P 4 truthEnv_ins truthEnv_outs truthEnv := OC.of_tree truthEnv_env Tryz.func4 (by kernel_rfl) (by kernel_rfl) (p := truthEnv_p) (fun g hg => LoOk.of (l := [truthEnv_C0, truthEnv_C1, truthEnv_C2, truthEnv_C3]) (by kernel_rfl) (.cons (truthEnv_ok0 g hg) (by kernel_rfl) (.cons (truthEnv_ok1 g hg) (by kernel_rfl) (.cons (truthEnv_ok2 g hg) (by kernel_rfl) (.cons (truthEnv_ok3 g hg) (by kernel_rfl) .nil))))) (fun (p0, p1, ()) => truthEnv_eq p0 p1)
end Go.Proofs.YtiblijkhpmemeaaGreat
