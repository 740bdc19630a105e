/- Contracts of functions. Printed by auto.py. -/
import Derived.Test.YtiblijkhpmemeaaGreatHa
import Derived.Test.YtiblijkhpmemeaaGreatAw2
namespace Go.Proofs.YtiblijkhpmemeaaGreat
set_option maxRecDepth 100000
open Go.PI Go
noncomputable def truthMatch_l0 : ((List Int) × ((Option zA11) × ((List zA2) × (zA23 × (Int × (zA10 × zA31)))))) → Br (((List Int) × ((Option zA11) × ((List zA2) × (zA23 × (Int × (zA10 × zA31)))))) ⊕ ((List Int) × ((Option zA11) × ((List zA2) × (zA23 × (zA10 × zA31)))))) := fun (a, b, c, d, e, f, g, ()) =>
 (.cond (decide (e < (↑(List.length a) : Int)))
 (.cond (decide (e < 5))
 (.cond (decide (0 ≤ e) && decide (e < (↑(List.length a) : Int)))
 (.cond (decide (0 ≤ e) && decide (e < (↑(List.length a) : Int)))
 (.cond (false)
 (.no)
 (.cond (decide ((List.length g + List.length (List.set (List.replicate 1 (0, 0)) 0 (zAn (List.getD a (Int.toNat e) 0) 3, zAn (zSh (List.getD a (Int.toNat e) 0) 2) 7))) * 16 ≤ 140737488355328))
 (.ret (.inl (a, b, c, d, IntKind.wrap .i64 (e + 1), f, g ++ List.set (List.replicate 1 (0, 0)) 0 (zAn (List.getD a (Int.toNat e) 0) 3, zAn (zSh (List.getD a (Int.toNat e) 0) 2) 7), ())))
 (.no)))
 (.no))
 (.no))
 (.ret (.inr (a, b, c, d, f, g, ()))))
 (.ret (.inr (a, b, c, d, f, g, ()))))
noncomputable def truthMatch_w0 : ((List Int) × ((Option zA11) × ((List zA2) × (zA23 × (Int × (zA10 × zA31)))))) → Option ((List Int) × ((Option zA11) × ((List zA2) × (zA23 × (zA10 × zA31))))) := iterO fun x => (truthMatch_l0 x).run
noncomputable def truthMatch_l1 : ((Option zA11) × ((List zA2) × (zA23 × (Int × (zA10 × zA31))))) → Br (((Option zA11) × ((List zA2) × (zA23 × (Int × (zA10 × zA31))))) ⊕ ((Option zA11) × ((List zA2) × (zA23 × (zA10 × zA31))))) := fun (a, b, c, d, e, f, ()) =>
 (.cond (decide (d < (↑(List.length f) : Int)))
 (.cond (decide (0 ≤ d) && decide (d < (↑(List.length f) : Int)))
 (.cond (decide ((List.getD f (Int.toNat d) (0, 0)).1 ≥ (↑(List.length e.1) : Int)))
 (.cond (decide (0 ≤ d) && decide (d < (↑(List.length f) : Int)))
 (.ret (.inl (a, b, c, IntKind.wrap .i64 (d + 1), e, List.set f (Int.toNat d) (0, (List.getD f (Int.toNat d) (0, 0)).2), ())))
 (.no))
 (.ret (.inl (a, b, c, IntKind.wrap .i64 (d + 1), e, f, ()))))
 (.no))
 (.ret (.inr (a, b, c, e, f, ()))))
noncomputable def truthMatch_w1 : ((Option zA11) × ((List zA2) × (zA23 × (Int × (zA10 × zA31))))) → Option ((Option zA11) × ((List zA2) × (zA23 × (zA10 × zA31)))) := iterO fun x => (truthMatch_l1 x).run
noncomputable def truthMatch_l2 : ((Option zA11) × ((List zA2) × (zA23 × (Bool × (Int × (zA10 × zA31)))))) → Br (((Option zA11) × ((List zA2) × (zA23 × (Bool × (Int × (zA10 × zA31)))))) ⊕ ((Option zA11) × ((List zA2) × (Bool × (zA10 × zA31))))) := fun (a, b, c, d, e, f, g, ()) =>
 (.cond (decide (e < (↑(List.length c) : Int)))
 (.cond (d)
 (.ret (.inl (a, b, c, true, IntKind.wrap .i64 (e + 1), f, g, ())))
 (.cond (decide (0 ≤ e) && decide (e < (↑(List.length c) : Int)))
 (.opt (samePs (List.getD c (Int.toNat e) [], g, ())) fun h =>
 (.ret (.inl (a, b, c, h.1, IntKind.wrap .i64 (e + 1), f, g, ()))))
 (.no)))
 (.ret (.inr (a, b, d, f, g, ()))))
noncomputable def truthMatch_w2 : ((Option zA11) × ((List zA2) × (zA23 × (Bool × (Int × (zA10 × zA31)))))) → Option ((Option zA11) × ((List zA2) × (Bool × (zA10 × zA31)))) := iterO fun x => (truthMatch_l2 x).run
noncomputable def truthMatch_B : ((List Int) × ((List zA2) × ((List Int) × Unit))) → Br (Bool × Unit) := fun (p0, p1, p2, ()) =>
 (.opt (typesR ()) fun a =>
 (.opt (newS (a.1, ())) fun b =>
 (.opt (queryQ (p0, ())) fun c =>
 (.opt (events20 (p1, 6, ())) fun d =>
 (.opt (allM (c.1, d.1, ())) fun e =>
 (.opt (truthMatch_w0 (p2, b.1.1, d.1, e.1, 0, c.1, [], ())) fun f =>
 (.cond (decide ((↑(List.length f.1) : Int) > 0))
 (.cond (decide (0 ≤ 0) && decide (0 < (↑(List.length f.1) : Int)))
 (.cond (false)
 (.no)
 (.cond (zAn (zSh (List.getD f.1 (Int.toNat 0) 0) 5) 1 == 0)
 (.cond (decide ((↑(List.length f.2.2.2.1) : Int) > 0))
 (.cond (decide (0 ≤ 0) && decide (0 < (↑(List.length f.1) : Int)))
 (.cond (false)
 (.no)
 (.cond (decide ((↑(List.length f.2.2.2.1) : Int) = 0))
 (.no)
 (.cond (decide (0 ≤ Int.tmod (zAn (zSh (List.getD f.1 (Int.toNat 0) 0) 6) 255) (↑(List.length f.2.2.2.1) : Int)) && decide (Int.tmod (zAn (zSh (List.getD f.1 (Int.toNat 0) 0) 6) 255) (↑(List.length f.2.2.2.1) : Int) < (↑(List.length f.2.2.2.1) : Int)))
 (.cond (decide ((List.length (List.replicate 0 (0, 0)) + List.length (List.getD f.2.2.2.1 (Int.toNat (Int.tmod (zAn (zSh (List.getD f.1 (Int.toNat 0) 0) 6) 255) (↑(List.length f.2.2.2.1) : Int))) [])) * 16 ≤ 140737488355328))
 (.cond (decide (0 ≤ 0) && decide (0 < (↑(List.length f.1) : Int)))
 (.cond (false)
 (.no)
 (.cond (zAn (zSh (List.getD f.1 (Int.toNat 0) 0) 14) 1 == 0)
 (.cond (decide (0 ≤ 0) && decide (0 < (↑(List.length f.1) : Int)))
 (.cond (false)
 (.no)
 (.cond (decide ((↑(List.length (List.replicate 0 (0, 0) ++ List.getD f.2.2.2.1 (Int.toNat (Int.tmod (zAn (zSh (List.getD f.1 (Int.toNat 0) 0) 6) 255) (↑(List.length f.2.2.2.1) : Int))) [])) : Int) = 0))
 (.no)
 (.cond (decide (0 ≤ 0) && decide (0 < (↑(List.length f.1) : Int)))
 (.cond (false)
 (.no)
 (.cond (decide (0 ≤ Int.tmod (zAn (zSh (List.getD f.1 (Int.toNat 0) 0) 15) 7) (↑(List.length (List.replicate 0 (0, 0) ++ List.getD f.2.2.2.1 (Int.toNat (Int.tmod (zAn (zSh (List.getD f.1 (Int.toNat 0) 0) 6) 255) (↑(List.length f.2.2.2.1) : Int))) [])) : Int)) && decide (Int.tmod (zAn (zSh (List.getD f.1 (Int.toNat 0) 0) 15) 7) (↑(List.length (List.replicate 0 (0, 0) ++ List.getD f.2.2.2.1 (Int.toNat (Int.tmod (zAn (zSh (List.getD f.1 (Int.toNat 0) 0) 6) 255) (↑(List.length f.2.2.2.1) : Int))) [])) : Int) < (↑(List.length (List.replicate 0 (0, 0) ++ List.getD f.2.2.2.1 (Int.toNat (Int.tmod (zAn (zSh (List.getD f.1 (Int.toNat 0) 0) 6) 255) (↑(List.length f.2.2.2.1) : Int))) [])) : Int)))
 (.opt (truthMatch_w1 (f.2.1, f.2.2.1, f.2.2.2.1, 0, f.2.2.2.2.1, List.set (List.replicate 0 (0, 0) ++ List.getD f.2.2.2.1 (Int.toNat (Int.tmod (zAn (zSh (List.getD f.1 (Int.toNat 0) 0) 6) 255) (↑(List.length f.2.2.2.1) : Int))) []) (Int.toNat (Int.tmod (zAn (zSh (List.getD f.1 (Int.toNat 0) 0) 15) 7) (↑(List.length (List.replicate 0 (0, 0) ++ List.getD f.2.2.2.1 (Int.toNat (Int.tmod (zAn (zSh (List.getD f.1 (Int.toNat 0) 0) 6) 255) (↑(List.length f.2.2.2.1) : Int))) [])) : Int))) ((List.getD (List.replicate 0 (0, 0) ++ List.getD f.2.2.2.1 (Int.toNat (Int.tmod (zAn (zSh (List.getD f.1 (Int.toNat 0) 0) 6) 255) (↑(List.length f.2.2.2.1) : Int))) []) (Int.toNat (Int.tmod (zAn (zSh (List.getD f.1 (Int.toNat 0) 0) 15) 7) (↑(List.length (List.replicate 0 (0, 0) ++ List.getD f.2.2.2.1 (Int.toNat (Int.tmod (zAn (zSh (List.getD f.1 (Int.toNat 0) 0) 6) 255) (↑(List.length f.2.2.2.1) : Int))) [])) : Int))) (0, 0)).1, IntKind.wrap .i64 (zAn (zSh (List.getD f.1 (Int.toNat 0) 0) 18) 7 + 1)), ())) fun g =>
 (.opt (truthMatch_w2 (g.1, g.2.1, g.2.2.1, false, 0, g.2.2.2.1, g.2.2.2.2.1, ())) fun h =>
 (.opt (whyT (h.1, h.2.2.2.1, h.2.1, h.2.2.2.2.1, ())) fun i =>
 (.opt (awake20 ()) fun j =>
 (.cond j.1
 (.opt (matchT (h.1, h.2.2.2.1, h.2.1, h.2.2.2.2.1, ())) fun k =>
 (.cond (k.1 == h.2.2.1)
 (.cond ((i.1 == 0) == h.2.2.1)
 (.cond (decide (i.1 ≥ 0))
 (.cond (decide (i.1 ≤ 5))
 (.ret ((i.1 == 1) == ((↑(List.length h.2.2.2.2.1) : Int) == 0), ()))
 (.ret (false, ())))
 (.ret (false, ())))
 (.ret (false, ())))
 (.ret (false, ()))))
 (.ret (false, ())))))))
 (.no)))
 (.no))))
 (.no))
 (.opt (truthMatch_w1 (f.2.1, f.2.2.1, f.2.2.2.1, 0, f.2.2.2.2.1, List.replicate 0 (0, 0) ++ List.getD f.2.2.2.1 (Int.toNat (Int.tmod (zAn (zSh (List.getD f.1 (Int.toNat 0) 0) 6) 255) (↑(List.length f.2.2.2.1) : Int))) [], ())) fun l =>
 (.opt (truthMatch_w2 (l.1, l.2.1, l.2.2.1, false, 0, l.2.2.2.1, l.2.2.2.2.1, ())) fun m =>
 (.opt (whyT (m.1, m.2.2.2.1, m.2.1, m.2.2.2.2.1, ())) fun n =>
 (.opt (awake20 ()) fun o =>
 (.cond o.1
 (.opt (matchT (m.1, m.2.2.2.1, m.2.1, m.2.2.2.2.1, ())) fun p =>
 (.cond (p.1 == m.2.2.1)
 (.cond ((n.1 == 0) == m.2.2.1)
 (.cond (decide (n.1 ≥ 0))
 (.cond (decide (n.1 ≤ 5))
 (.ret ((n.1 == 1) == ((↑(List.length m.2.2.2.2.1) : Int) == 0), ()))
 (.ret (false, ())))
 (.ret (false, ())))
 (.ret (false, ())))
 (.ret (false, ()))))
 (.ret (false, ())))))))))
 (.no))
 (.no))
 (.no))))
 (.no))
 (.opt (truthMatch_w1 (f.2.1, f.2.2.1, f.2.2.2.1, 0, f.2.2.2.2.1, f.2.2.2.2.2.1, ())) fun q =>
 (.opt (truthMatch_w2 (q.1, q.2.1, q.2.2.1, false, 0, q.2.2.2.1, q.2.2.2.2.1, ())) fun r =>
 (.opt (whyT (r.1, r.2.2.2.1, r.2.1, r.2.2.2.2.1, ())) fun s =>
 (.opt (awake20 ()) fun t =>
 (.cond t.1
 (.opt (matchT (r.1, r.2.2.2.1, r.2.1, r.2.2.2.2.1, ())) fun u =>
 (.cond (u.1 == r.2.2.1)
 (.cond ((s.1 == 0) == r.2.2.1)
 (.cond (decide (s.1 ≥ 0))
 (.cond (decide (s.1 ≤ 5))
 (.ret ((s.1 == 1) == ((↑(List.length r.2.2.2.2.1) : Int) == 0), ()))
 (.ret (false, ())))
 (.ret (false, ())))
 (.ret (false, ())))
 (.ret (false, ()))))
 (.ret (false, ()))))))))
 (.opt (truthMatch_w1 (f.2.1, f.2.2.1, f.2.2.2.1, 0, f.2.2.2.2.1, f.2.2.2.2.2.1, ())) fun v =>
 (.opt (truthMatch_w2 (v.1, v.2.1, v.2.2.1, false, 0, v.2.2.2.1, v.2.2.2.2.1, ())) fun w =>
 (.opt (whyT (w.1, w.2.2.2.1, w.2.1, w.2.2.2.2.1, ())) fun x =>
 (.opt (awake20 ()) fun y =>
 (.cond y.1
 (.opt (matchT (w.1, w.2.2.2.1, w.2.1, w.2.2.2.2.1, ())) fun z =>
 (.cond (z.1 == w.2.2.1)
 (.cond ((x.1 == 0) == w.2.2.1)
 (.cond (decide (x.1 ≥ 0))
 (.cond (decide (x.1 ≤ 5))
 (.ret ((x.1 == 1) == ((↑(List.length w.2.2.2.2.1) : Int) == 0), ()))
 (.ret (false, ())))
 (.ret (false, ())))
 (.ret (false, ())))
 (.ret (false, ()))))
 (.ret (false, ())))))))))
 (.no))
 (.opt (truthMatch_w1 (f.2.1, f.2.2.1, f.2.2.2.1, 0, f.2.2.2.2.1, f.2.2.2.2.2.1, ())) fun aa =>
 (.opt (truthMatch_w2 (aa.1, aa.2.1, aa.2.2.1, false, 0, aa.2.2.2.1, aa.2.2.2.2.1, ())) fun ab =>
 (.opt (whyT (ab.1, ab.2.2.2.1, ab.2.1, ab.2.2.2.2.1, ())) fun ac =>
 (.opt (awake20 ()) fun ad =>
 (.cond ad.1
 (.opt (matchT (ab.1, ab.2.2.2.1, ab.2.1, ab.2.2.2.2.1, ())) fun ae =>
 (.cond (ae.1 == ab.2.2.1)
 (.cond ((ac.1 == 0) == ab.2.2.1)
 (.cond (decide (ac.1 ≥ 0))
 (.cond (decide (ac.1 ≤ 5))
 (.ret ((ac.1 == 1) == ((↑(List.length ab.2.2.2.2.1) : Int) == 0), ()))
 (.ret (false, ())))
 (.ret (false, ())))
 (.ret (false, ())))
 (.ret (false, ()))))
 (.ret (false, ()))))))))))))))
noncomputable def truthMatch : ((List Int) × ((List zA2) × ((List Int) × Unit))) → Option (Bool × Unit) := fun x => (truthMatch_B x).run
abbrev truthMatch_ins : List (Bool × Pat) := [(false, .ty true (.sl (.int .i64))), (false, .ty true (.sl zA9)), (false, .ty true (.sl (.int .i64)))]
abbrev truthMatch_outs : List Pat := [.ty false .bool]
noncomputable abbrev truthMatch_f : Func := Tryz.f5
noncomputable abbrev truthMatch_P : Program := Tryz.prog
abbrev truthMatch_kp : List Nat := kpOf truthMatch_ins
abbrev truthMatch_kf : List Nat := kfOf truthMatch_ins
noncomputable def truthMatch_c : Ctx := { cx_awake20 with base := 1024 }
theorem truthMatch_env : EnvFull truthMatch_P truthMatch_c := env_base (en_awake20) 1024
abbrev truthMatch_H0 : List Hole := [.slot 2 true (.sl (.int .i64)), .slot 7 false zA17, .slot 10 false (.sl zA9), .slot 11 false (.sl (.sl zA16)), .slot 13 false (.int .i64), .tv 1033 false zA5, .ar 1724 false 45 zA16]
def truthMatch_S0 : Skel := ⟨181, [(9, D.c (C.ref 1033 0 0)), (12, .c (.mfull 1724))], [(1033, []), (1724, [])]⟩
abbrev truthMatch_H0e0 : List Hole := [.slot 2 true (.sl (.int .i64)), .slot 7 false zA17, .slot 10 false (.sl zA9), .slot 11 false (.sl (.sl zA16)), .tv 1033 false zA5, .ar 1725 false 45 zA16]
def truthMatch_S0e0 : Skel := ⟨181, [(9, D.c (C.ref 1033 0 0)), (12, .c (.mfull 1725))], [(1033, []), (1725, [])]⟩
def truthMatch_h0 : Exit → Shape
 | .normal => ⟨[(2, .as true (.sl (.int .i64))), (7, .as false zA17), (9, .keep), (10, .as false (.sl zA9)), (11, .as false (.sl (.sl zA16))), (12, .row 700 false 45 zA16), (13, .as false (.int .i64))], [], [(9, false), (700, false)]⟩
 | .exit 0 => ⟨[(2, .as true (.sl (.int .i64))), (7, .as false zA17), (9, .keep), (10, .as false (.sl zA9)), (11, .as false (.sl (.sl zA16))), (12, .row 701 false 45 zA16)], [], [(9, false), (701, false)]⟩
 | _ => ⟨[], [], []⟩
def truthMatch_e0 : ((List Int) × ((Option zA11) × ((List zA2) × (zA23 × (zA10 × zA31))))) → Exit × St
 | u => (.exit 0, truthMatch_S0e0.fillK truthMatch_kf truthMatch_H0e0 u)
def truthMatch_t0 : ((List Int) × ((Option zA11) × ((List zA2) × (zA23 × (zA10 × zA31))))) → Br (Exit × St) := fun u => .ret (.exit 0, truthMatch_S0e0.fillK truthMatch_kf truthMatch_H0e0 u)
noncomputable def truthMatch_C0 : Code := loopAt 0 (bodyOf truthMatch_f)
noncomputable def truthMatch_o0 : St → Br (Exit × St) := loopF truthMatch_kp truthMatch_kf 1024 (truthMatch_h0 .normal) (truthMatch_S0.parseK truthMatch_kf truthMatch_H0) fun x => .opt (truthMatch_w0 x) truthMatch_t0
abbrev truthMatch_H1 : List Hole := [.slot 7 false zA17, .slot 10 false (.sl zA9), .slot 11 false (.sl (.sl zA16)), .slot 15 false (.int .i64), .tv 1033 false zA5, .ar 1726 false 45 zA16]
def truthMatch_S1 : Skel := ⟨181, [(9, D.c (C.ref 1033 0 0)), (12, .c (.mfull 1726))], [(1033, []), (1726, [])]⟩
abbrev truthMatch_H1e0 : List Hole := [.slot 7 false zA17, .slot 10 false (.sl zA9), .slot 11 false (.sl (.sl zA16)), .tv 1033 false zA5, .ar 1727 false 45 zA16]
def truthMatch_S1e0 : Skel := ⟨181, [(9, D.c (C.ref 1033 0 0)), (12, .c (.mfull 1727))], [(1033, []), (1727, [])]⟩
def truthMatch_h1 : Exit → Shape
 | .normal => ⟨[(7, .as false zA17), (9, .keep), (10, .as false (.sl zA9)), (11, .as false (.sl (.sl zA16))), (12, .row 702 false 45 zA16), (15, .as false (.int .i64))], [], [(9, false), (702, false)]⟩
 | .exit 2 => ⟨[(7, .as false zA17), (9, .keep), (10, .as false (.sl zA9)), (11, .as false (.sl (.sl zA16))), (12, .row 703 false 45 zA16)], [], [(9, false), (703, false)]⟩
 | _ => ⟨[], [], []⟩
def truthMatch_e1 : ((Option zA11) × ((List zA2) × (zA23 × (zA10 × zA31)))) → Exit × St
 | u => (.exit 2, truthMatch_S1e0.fillK truthMatch_kf truthMatch_H1e0 u)
def truthMatch_t1 : ((Option zA11) × ((List zA2) × (zA23 × (zA10 × zA31)))) → Br (Exit × St) := fun u => .ret (.exit 2, truthMatch_S1e0.fillK truthMatch_kf truthMatch_H1e0 u)
noncomputable def truthMatch_C1 : Code := loopAt 1 (bodyOf truthMatch_f)
noncomputable def truthMatch_o1 : St → Br (Exit × St) := loopF truthMatch_kp truthMatch_kf 1024 (truthMatch_h1 .normal) (truthMatch_S1.parseK truthMatch_kf truthMatch_H1) fun x => .opt (truthMatch_w1 x) truthMatch_t1
abbrev truthMatch_H2 : List Hole := [.slot 7 false zA17, .slot 10 false (.sl zA9), .slot 11 false (.sl (.sl zA16)), .slot 16 false .bool, .slot 17 false (.int .i64), .tv 1033 false zA5, .ar 1728 false 45 zA16]
def truthMatch_S2 : Skel := ⟨181, [(9, D.c (C.ref 1033 0 0)), (12, .c (.mfull 1728))], [(1033, []), (1728, [])]⟩
abbrev truthMatch_H2e0 : List Hole := [.slot 7 false zA17, .slot 10 false (.sl zA9), .slot 16 false .bool, .tv 1033 false zA5, .ar 1729 false 45 zA16]
def truthMatch_S2e0 : Skel := ⟨181, [(9, D.c (C.ref 1033 0 0)), (12, .c (.mfull 1729))], [(1033, []), (1729, [])]⟩
def truthMatch_h2 : Exit → Shape
 | .normal => ⟨[(7, .as false zA17), (9, .keep), (10, .as false (.sl zA9)), (11, .as false (.sl (.sl zA16))), (12, .row 704 false 45 zA16), (16, .as false .bool), (17, .as false (.int .i64))], [], [(9, false), (704, false)]⟩
 | .exit 4 => ⟨[(7, .as false zA17), (9, .keep), (10, .as false (.sl zA9)), (12, .row 705 false 45 zA16), (16, .as false .bool)], [], [(9, false), (705, false)]⟩
 | _ => ⟨[], [], []⟩
def truthMatch_e2 : ((Option zA11) × ((List zA2) × (Bool × (zA10 × zA31)))) → Exit × St
 | u => (.exit 4, truthMatch_S2e0.fillK truthMatch_kf truthMatch_H2e0 u)
def truthMatch_t2 : ((Option zA11) × ((List zA2) × (Bool × (zA10 × zA31)))) → Br (Exit × St) := fun u => .ret (.exit 4, truthMatch_S2e0.fillK truthMatch_kf truthMatch_H2e0 u)
noncomputable def truthMatch_C2 : Code := loopAt 2 (bodyOf truthMatch_f)
noncomputable def truthMatch_o2 : St → Br (Exit × St) := loopF truthMatch_kp truthMatch_kf 1024 (truthMatch_h2 .normal) (truthMatch_S2.parseK truthMatch_kf truthMatch_H2) fun x => .opt (truthMatch_w2 x) truthMatch_t2
noncomputable def truthMatch_p : Par := { sh := fun _ => none, k := 0, lo := fun i => bif Nat.beq i 7 then some truthMatch_o0 else bif Nat.beq i 16 then some truthMatch_o1 else bif Nat.beq i 22 then some truthMatch_o2 else none }
theorem truthMatch_r0 (a : (List Int)) (b : (Option zA11)) (c : (List zA2)) (d : zA23) (e : Int) (f : zA10) (g : (List (Int × Int))) : roundF truthMatch_kp truthMatch_kf truthMatch_c truthMatch_p truthMatch_h0 truthMatch_C0 (truthMatch_S0.fillK truthMatch_kf truthMatch_H0 (a, b, c, d, e, f, g, ())) = (truthMatch_l0 (a, b, c, d, e, f, g, ())).bind (loopLeaf (fun x => truthMatch_S0.fillK truthMatch_kf truthMatch_H0 x) truthMatch_e0) := by kernel_rfl
theorem truthMatch_ok0 (g : Cfg) (hg : ∀ n, Go.PI.look n g.m0 ≠ Option.none → n ∈ truthMatch_kp) : LoopOk truthMatch_P g truthMatch_o0 truthMatch_C0 := LoopOk.auto truthMatch_env hg truthMatch_p (LoOk.of (l := []) (by kernel_rfl) .nil) truthMatch_h0 (fun x => truthMatch_S0.fillK truthMatch_kf truthMatch_H0 x) (fun s x h => Skel.parseK_ok s x h) truthMatch_l0 truthMatch_e0 (fun _ h => by cases h) truthMatch_t0 (fun _ => rfl) (fun (a, b, c, d, e, f, i, ()) => truthMatch_r0 a b c d e f i)
theorem truthMatch_r1 (a : (Option zA11)) (b : (List zA2)) (c : zA23) (d : Int) (e : zA10) (f : (List (Int × Int))) : roundF truthMatch_kp truthMatch_kf truthMatch_c truthMatch_p truthMatch_h1 truthMatch_C1 (truthMatch_S1.fillK truthMatch_kf truthMatch_H1 (a, b, c, d, e, f, ())) = (truthMatch_l1 (a, b, c, d, e, f, ())).bind (loopLeaf (fun x => truthMatch_S1.fillK truthMatch_kf truthMatch_H1 x) truthMatch_e1) := by kernel_rfl
theorem truthMatch_ok1 (g : Cfg) (hg : ∀ n, Go.PI.look n g.m0 ≠ Option.none → n ∈ truthMatch_kp) : LoopOk truthMatch_P g truthMatch_o1 truthMatch_C1 := LoopOk.auto truthMatch_env hg truthMatch_p (LoOk.of (l := []) (by kernel_rfl) .nil) truthMatch_h1 (fun x => truthMatch_S1.fillK truthMatch_kf truthMatch_H1 x) (fun s x h => Skel.parseK_ok s x h) truthMatch_l1 truthMatch_e1 (fun _ h => by cases h) truthMatch_t1 (fun _ => rfl) (fun (a, b, c, d, e, f, ()) => truthMatch_r1 a b c d e f)
theorem truthMatch_r2 (a : (Option zA11)) (b : (List zA2)) (c : zA23) (d : Bool) (e : Int) (f : zA10) (g : (List (Int × Int))) : roundF truthMatch_kp truthMatch_kf truthMatch_c truthMatch_p truthMatch_h2 truthMatch_C2 (truthMatch_S2.fillK truthMatch_kf truthMatch_H2 (a, b, c, d, e, f, g, ())) = (truthMatch_l2 (a, b, c, d, e, f, g, ())).bind (loopLeaf (fun x => truthMatch_S2.fillK truthMatch_kf truthMatch_H2 x) truthMatch_e2) := by kernel_rfl
theorem truthMatch_ok2 (g : Cfg) (hg : ∀ n, Go.PI.look n g.m0 ≠ Option.none → n ∈ truthMatch_kp) : LoopOk truthMatch_P g truthMatch_o2 truthMatch_C2 := LoopOk.auto truthMatch_env hg truthMatch_p (LoOk.of (l := []) (by kernel_rfl) .nil) truthMatch_h2 (fun x => truthMatch_S2.fillK truthMatch_kf truthMatch_H2 x) (fun s x h => Skel.parseK_ok s x h) truthMatch_l2 truthMatch_e2 (fun _ h => by cases h) truthMatch_t2 (fun _ => rfl) (fun (a, b, c, d, e, f, i, ()) => truthMatch_r2 a b c d e f i)
theorem truthMatch_eq (p0 : (List Int)) (p1 : (List zA2)) (p2 : (List Int)) : ocRun truthMatch_c truthMatch_p truthMatch_f truthMatch_ins truthMatch_outs (p0, p1, p2, ()) = truthMatch_B (p0, p1, p2, ()) := by kernel_rfl
theorem truthMatch_oc : OC truthMatch_P 5 truthMatch_ins truthMatch_outs truthMatch := OC.of_tree truthMatch_env Tryz.func5 (by kernel_rfl) (by kernel_rfl) (p := truthMatch_p) (fun g hg => LoOk.of (l := [truthMatch_C0, truthMatch_C1, truthMatch_C2]) (by kernel_rfl) (.cons (truthMatch_ok0 g hg) (by kernel_rfl) (.cons (truthMatch_ok1 g hg) (by kernel_rfl) (.cons (truthMatch_ok2 g hg) (by kernel_rfl) .nil)))) (fun (p0, p1, p2, ()) => truthMatch_eq p0 p1 p2)
end Go.Proofs.YtiblijkhpmemeaaGreat
