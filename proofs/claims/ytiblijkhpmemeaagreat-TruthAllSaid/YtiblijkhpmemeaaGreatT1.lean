/- Contracts of functions. Printed by auto.py. -/
import Derived.Test.YtiblijkhpmemeaaGreatGe
import Derived.Test.YtiblijkhpmemeaaGreatHf
import Derived.Test.YtiblijkhpmemeaaGreatHa
import Derived.Test.YtiblijkhpmemeaaGreatHi
namespace Go.Proofs.YtiblijkhpmemeaaGreat
set_option maxRecDepth 100000
open Go.PI Go
noncomputable def nextT_l0 : zT6 → Br (zT6 ⊕ ((Int × Unit) ⊕ Unit)) := fun (a, b, c, ()) =>
 (.cond (decide (b < (↑(List.length c.1) : Int)))
 (.cond (decide (a < (↑(List.length c.1) : Int)))
 (.cond (decide (0 ≤ b) && decide (b < (↑(List.length c.1) : Int)))
 (.cond (!(List.getD c.1 (Int.toNat b) zV2).2.2.1)
 (.ret (.inr (.inl (b, ()))))
 (.ret (.inl (a, IntKind.wrap .i64 (b + 1), c, ()))))
 (.no))
 (.ret (.inr (.inr (())))))
 (.ret (.inr (.inr (())))))
noncomputable def nextT_w0 := iterO fun x => (nextT_l0 x).run
noncomputable def nextT_B : (zA10 × (Int × Unit)) → Br (Int × Unit) := fun (p0, p1, ()) =>
 (.opt (nextT_w0 (p1, if IntKind.wrap .i64 (p1 + 1) < 0 then 0 else IntKind.wrap .i64 (p1 + 1), p0, ())) fun a =>
 (.sum a (fun b =>
 (.ret (b.1, ()))) (fun c =>
 (.ret (-1, ())))))
noncomputable def nextT := fun x => (nextT_B x).run
noncomputable def nextT_L : List Lp := [
 .mk 2 (shO 31 [(2, .c (.ref 1026 0 0))] [(1026, [])] [sI 1, sI 5, .tv 1026 true zA5] []) ([exO .ret 31 [] [] [sI 4] [], exO (.exit 0) 31 [] [] [] []]) nextT_l0]
theorem nextT_oc : OC Tryz.prog 54 [(false, .ty true zA5), (false, .ty false (.int .i64))] [.ty false (.int .i64)] nextT := OC.lp enF4 1024 Tryz.func54 nextT_L (by kernel_rfl) ⟨fun _ => by kernel_rfl, trivial⟩ (fun _ => by kernel_rfl)
noncomputable def cx_nextT : Ctx := ocx cxF4 nextT_oc
theorem en_nextT : EnvFull Tryz.prog cx_nextT := ocn enF4 nextT_oc
noncomputable def betwT_l0 : (Int × (Int × (zA10 × ((List Int) × Unit)))) → Br ((Int × (Int × (zA10 × ((List Int) × Unit)))) ⊕ ((List Int) × Unit)) := fun (a, b, c, d, ()) =>
 (.cond (decide (b < (↑(List.length c.1) : Int)))
 (.cond (decide (a < (↑(List.length c.1) : Int)))
 (.cond (decide (0 ≤ b) && decide (b < (↑(List.length c.1) : Int)))
 (.cond (List.getD c.1 (Int.toNat b) zV2).2.2.1
 (.cond (decide ((List.length d + List.length (List.set (List.replicate 1 0) 0 b)) * 8 ≤ 140737488355328))
 (.ret (.inl (a, IntKind.wrap .i64 (b + 1), c, d ++ List.set (List.replicate 1 0) 0 b, ())))
 (.no))
 (.ret (.inr (d, ()))))
 (.no))
 (.ret (.inr (d, ()))))
 (.ret (.inr (d, ()))))
noncomputable def betwT_w0 := iterO fun x => (betwT_l0 x).run
noncomputable def betwT_B : (zA10 × (Int × Unit)) → Br ((List Int) × Unit) := fun (p0, p1, ()) =>
 (.opt (betwT_w0 (p1, if IntKind.wrap .i64 (p1 + 1) < 0 then 0 else IntKind.wrap .i64 (p1 + 1), p0, [], ())) fun a =>
 (.ret (a.1, ())))
noncomputable def betwT := fun x => (betwT_B x).run
noncomputable def betwT_L : List Lp := [
 .mk 3 (shO 37 [(2, .c (.ref 1026 0 0)), (5, .c (.mfull 1724))] [(1026, []), (1724, [])] [sI 1, sI 6, .tv 1026 true zA5, .ar 1724 false 3 (.int .i64)] [5]) ([exO (.exit 0) 37 [(5, .c (.mfull 1725))] [(1725, [])] [.ar 1725 false 3 (.int .i64)] [5]]) betwT_l0]
theorem betwT_oc : OC Tryz.prog 71 [(false, .ty true zA5), (false, .ty false (.int .i64))] [.ty false (.sl (.int .i64))] betwT := OC.lp en_nextT 1024 Tryz.func71 betwT_L (by kernel_rfl) ⟨fun _ => by kernel_rfl, trivial⟩ (fun _ => by kernel_rfl)
noncomputable def cx_betwT : Ctx := ocx cx_nextT betwT_oc
theorem en_betwT : EnvFull Tryz.prog cx_betwT := ocn en_nextT betwT_oc
noncomputable def samePs_l0 : ((List (Int × Int)) × zT2) → Br (((List (Int × Int)) × zT2) ⊕ (Unit ⊕ Unit)) := fun (a, b, c, ()) =>
 (.cond (decide (c < (↑(List.length a) : Int)))
 (.cond (decide (0 ≤ c) && decide (c < (↑(List.length a) : Int)))
 (.cond (decide (0 ≤ c) && decide (c < (↑(List.length b) : Int)))
 (.cond (!(decide ((List.getD a (Int.toNat c) (0, 0)).1 = (List.getD b (Int.toNat c) (0, 0)).1) && decide ((List.getD a (Int.toNat c) (0, 0)).2 = (List.getD b (Int.toNat c) (0, 0)).2)))
 (.ret (.inr (.inl (()))))
 (.ret (.inl (a, b, IntKind.wrap .i64 (c + 1), ()))))
 (.no))
 (.no))
 (.ret (.inr (.inr (())))))
noncomputable def samePs_w0 := iterO fun x => (samePs_l0 x).run
noncomputable def samePs_B : ((List (Int × Int)) × zA31) → Br (Bool × Unit) := fun (p0, p1, ()) =>
 (.cond ((↑(List.length p0) : Int) != (↑(List.length p1) : Int))
 (.ret (false, ()))
 (.opt (samePs_w0 (p0, p1, 0, ())) fun a =>
 (.sum a (fun b =>
 (.ret (false, ()))) (fun c =>
 (.ret (true, ()))))))
noncomputable def samePs := fun x => (samePs_B x).run
noncomputable def samePs_L : List Lp := [
 .mk 4 (shO 26 [] [] [.slot 0 true (.sl zA16), .slot 1 true (.sl zA16), sI 5] []) ([exO .ret 26 [(4, D.c C.ff)] [] [] [], exO (.exit 0) 26 [] [] [] []]) samePs_l0]
theorem samePs_oc : OC Tryz.prog 16 [(false, .ty true (.sl zA16)), (false, .ty true (.sl zA16))] [.ty false .bool] samePs := OC.lp en_betwT 1024 Tryz.func16 samePs_L (by kernel_rfl) ⟨fun _ => by kernel_rfl, trivial⟩ (fun _ => by kernel_rfl)
noncomputable def cx_samePs : Ctx := ocx cx_betwT samePs_oc
theorem en_samePs : EnvFull Tryz.prog cx_samePs := ocn en_betwT samePs_oc
noncomputable def sameMs_l0 : (zA23 × (zA23 × (Int × Unit))) → Br ((zA23 × (zA23 × (Int × Unit))) ⊕ (Unit ⊕ Unit)) := fun (a, b, c, ()) =>
 (.cond (decide (c < (↑(List.length a) : Int)))
 (.cond (decide (0 ≤ c) && decide (c < (↑(List.length a) : Int)))
 (.cond (decide (0 ≤ c) && decide (c < (↑(List.length b) : Int)))
 (.opt (samePs (List.getD a (Int.toNat c) [], List.getD b (Int.toNat c) [], ())) fun d =>
 (.cond (!d.1)
 (.ret (.inr (.inl (()))))
 (.ret (.inl (a, b, IntKind.wrap .i64 (c + 1), ())))))
 (.no))
 (.no))
 (.ret (.inr (.inr (())))))
noncomputable def sameMs_w0 := iterO fun x => (sameMs_l0 x).run
noncomputable def sameMs_B : (zA23 × (zA23 × Unit)) → Br (Bool × Unit) := fun (p0, p1, ()) =>
 (.cond ((↑(List.length p0) : Int) != (↑(List.length p1) : Int))
 (.ret (false, ()))
 (.opt (sameMs_w0 (p0, p1, 0, ())) fun a =>
 (.sum a (fun b =>
 (.ret (false, ()))) (fun c =>
 (.ret (true, ()))))))
noncomputable def sameMs := fun x => (sameMs_B x).run
noncomputable def sameMs_L : List Lp := [
 .mk 4 (shO 27 [] [] [.slot 0 true (.sl (.sl zA16)), .slot 1 true (.sl (.sl zA16)), sI 5] []) ([exO .ret 27 [(4, D.c C.ff)] [] [] [], exO (.exit 0) 27 [] [] [] []]) sameMs_l0]
theorem sameMs_oc : OC Tryz.prog 11 [(false, .ty true (.sl (.sl zA16))), (false, .ty true (.sl (.sl zA16)))] [.ty false .bool] sameMs := OC.lp en_samePs 1024 Tryz.func11 sameMs_L (by kernel_rfl) ⟨fun _ => by kernel_rfl, trivial⟩ (fun _ => by kernel_rfl)
noncomputable def cx_sameMs : Ctx := ocx cx_samePs sameMs_oc
theorem en_sameMs : EnvFull Tryz.prog cx_sameMs := ocn en_samePs sameMs_oc
noncomputable def timeT_B : (Int × Unit) → Br (Bool × Unit) := fun (p0, ()) =>
 (.cond (decide (p0 ≥ 0))
 (.ret (decide (p0 ≤ 1099511627776), ()))
 (.ret (false, ())))
noncomputable def timeT := fun x => (timeT_B x).run
theorem timeT_oc : OC Tryz.prog 72 [(false, .ty false (.int .i64))] [.ty false .bool] timeT := OC.lp en_sameMs 1024 Tryz.func72 [] (by kernel_rfl) trivial (fun _ => by kernel_rfl)
noncomputable def cx_timeT : Ctx := ocx cx_sameMs timeT_oc
theorem en_timeT : EnvFull Tryz.prog cx_timeT := ocn en_sameMs timeT_oc
noncomputable def withinT_B : (Int × (Int × (Int × Unit))) → Br (Bool × Unit) := fun (p0, p1, p2, ()) =>
 (.opt (timeT (p0, ())) fun y5 =>
 (.cond y5.1
 (.opt (timeT (p1, ())) fun y6 =>
 (.cond y6.1
 (.cond (decide (p0 ≤ p1))
 (.ret (decide (IntKind.wrap .i64 (p1 - p0) ≤ p2), ()))
 (.ret (false, ())))
 (.ret (false, ()))))
 (.ret (false, ()))))
noncomputable def withinT := fun x => (withinT_B x).run
theorem withinT_oc : OC Tryz.prog 40 [(false, .ty false (.int .i64)), (false, .ty false (.int .i64)), (false, .ty false (.int .i64))] [.ty false .bool] withinT := OC.lp en_timeT 1024 Tryz.func40 [] (by kernel_rfl) trivial (fun _ => by kernel_rfl)
noncomputable def cx_withinT : Ctx := ocx cx_timeT withinT_oc
theorem en_withinT : EnvFull Tryz.prog cx_withinT := ocn en_timeT withinT_oc
noncomputable def orderT_l1 : zT10 → Br (zT10 ⊕ (Unit ⊕ zT10)) := fun (a, b, c, d, e, f, g, ()) =>
 (.cond (decide (d < (↑(List.length b) : Int)))
 (.cond (decide (0 ≤ d) && decide (d < (↑(List.length b) : Int)))
 (.cond ((List.getD b (Int.toNat d) (0, 0)).1 == c)
 (.cond (decide (0 ≤ d) && decide (d < (↑(List.length b) : Int)))
 (.opt (findT (a, (List.getD b (Int.toNat d) (0, 0)).2, ())) fun h =>
 (.cond (decide (h.1.2 ≤ e))
 (.ret (.inr (.inl (()))))
 (.ret (.inl (a, b, c, IntKind.wrap .i64 (d + 1), h.1.2, IntKind.wrap .i64 (f + 1), g, ())))))
 (.no))
 (.ret (.inr (.inr (a, b, c, d, e, f, g, ())))))
 (.no))
 (.ret (.inr (.inr (a, b, c, d, e, f, g, ())))))
noncomputable def orderT_w1 := iterO fun x => (orderT_l1 x).run
noncomputable def orderT_l0 : ((List zA2) × ((List (Int × Int)) × (Int × zT6))) → Br (((List zA2) × ((List (Int × Int)) × (Int × zT6))) ⊕ (Unit ⊕ zT2)) := fun (a, b, c, d, e, f, ()) =>
 (.cond (decide (c ≥ 0))
 (.opt (orderT_w1 (a, b, c, d, e, 0, f, ())) fun g =>
 (.sum g (fun h =>
 (.ret (.inr (.inl (()))))) (fun i =>
 (.cond (decide (0 ≤ i.2.2.1) && decide (i.2.2.1 < (↑(List.length i.2.2.2.2.2.2.1.1) : Int)))
 (.cond (decide (i.2.2.2.2.2.1 < (List.getD i.2.2.2.2.2.2.1.1 (Int.toNat i.2.2.1) zV2).2.2.2.1))
 (.ret (.inr (.inl (()))))
 (.cond (decide (0 ≤ i.2.2.1) && decide (i.2.2.1 < (↑(List.length i.2.2.2.2.2.2.1.1) : Int)))
 (.cond (decide (i.2.2.2.2.2.1 > (List.getD i.2.2.2.2.2.2.1.1 (Int.toNat i.2.2.1) zV2).2.2.2.2.1))
 (.ret (.inr (.inl (()))))
 (.opt (nextT (i.2.2.2.2.2.2.1, i.2.2.1, ())) fun j =>
 (.ret (.inl (i.1, i.2.1, j.1, i.2.2.2.1, i.2.2.2.2.1, i.2.2.2.2.2.2.1, ())))))
 (.no)))
 (.no)))))
 (.ret (.inr (.inr (b, d, ())))))
noncomputable def orderT_w0 := iterO fun x => (orderT_l0 x).run
noncomputable def orderT_B : (zA10 × ((List zA2) × zA31)) → Br (Bool × Unit) := fun (p0, p1, p2, ()) =>
 (.opt (nextT (p0, -1, ())) fun a =>
 (.opt (orderT_w0 (p1, p2, a.1, 0, -1, p0, ())) fun b =>
 (.sum b (fun c =>
 (.ret (false, ()))) (fun d =>
 (.ret (d.2.1 == (↑(List.length d.1) : Int), ()))))))
noncomputable def orderT := fun x => (orderT_B x).run
noncomputable def orderT_L : List Lp := [
 .mk 3 (shO 73 [(3, .c (.ref 1027 0 0))] [(1027, [])] [.slot 1 false (.sl zA9), .slot 2 true (.sl zA16), sI 7, sI 8, sI 9, .tv 1027 true zA5] []) ([exO .ret 73 [(6, D.c C.ff)] [] [] [], exO (.exit 0) 73 [] [] [.slot 2 true (.sl zA16), sI 8] []]) orderT_l0,
 .mk 5 (shO 73 [(3, .c (.ref 1027 0 0))] [(1027, [])] [.slot 1 false (.sl zA9), .slot 2 true (.sl zA16), sI 7, sI 8, sI 9, sI 10, .tv 1027 true zA5] []) ([exO .ret 73 [(6, D.c C.ff)] [] [] [], exO (.exit 2) 73 [(3, .c (.ref 1027 0 0))] [(1027, [])] [.slot 1 false (.sl zA9), .slot 2 true (.sl zA16), sI 7, sI 8, sI 9, sI 10, .tv 1027 true zA5] []]) orderT_l1]
theorem orderT_oc : OC Tryz.prog 38 [(false, .ty true zA5), (false, .ty false (.sl zA9)), (false, .ty true (.sl zA16))] [.ty false .bool] orderT := OC.lp en_withinT 1024 Tryz.func38 orderT_L (by kernel_rfl) ⟨fun _ => by kernel_rfl, fun _ => by kernel_rfl, trivial⟩ (fun _ => by kernel_rfl)
noncomputable def cx_orderT : Ctx := ocx cx_withinT orderT_oc
theorem en_orderT : EnvFull Tryz.prog cx_orderT := ocn en_withinT orderT_oc
noncomputable def freeT_l1 : zT11 → Br (zT11 ⊕ (Unit ⊕ zT5)) := fun (a, b, c, d, e, f, g, h, i, j, k, l, ()) =>
 (.cond (decide (h < f))
 (.cond (decide (0 ≤ 0) && decide (0 ≤ d) && decide (d ≤ (↑(List.length c) : Int)))
 (.cond (decide (0 ≤ h) && decide (h < (↑(List.length b) : Int)))
 (.opt (fitsT (a, l, b, List.drop (Int.toNat 0) (List.take (Int.toNat d) c), g, List.getD b (Int.toNat h) zV1, ())) fun m =>
 (.cond m.1
 (.ret (.inr (.inl (()))))
 (.ret (.inl (a, b, c, d, e, f, g, IntKind.wrap .i64 (h + 1), i, j, k, l, ())))))
 (.no))
 (.no))
 (.ret (.inr (.inr (a, b, c, d, e, f, i, j, k, l, ())))))
noncomputable def freeT_w1 := iterO fun x => (freeT_l1 x).run
noncomputable def freeT_l0 : zT5 → Br (zT5 ⊕ (Unit ⊕ Unit)) := fun (a, b, c, d, e, f, g, h, i, j, ()) =>
 (.cond (decide (i < h))
 (.cond (decide (0 ≤ i) && decide (i < (↑(List.length g) : Int)))
 (.opt (freeT_w1 (a, b, c, d, e, f, List.getD g (Int.toNat i) 0, IntKind.wrap .i64 (e + 1), g, h, i, j, ())) fun k =>
 (.sum k (fun l =>
 (.ret (.inr (.inl (()))))) (fun m =>
 (.ret (.inl (m.1, m.2.1, m.2.2.1, m.2.2.2.1, m.2.2.2.2.1, m.2.2.2.2.2.1, m.2.2.2.2.2.2.1, m.2.2.2.2.2.2.2.1, IntKind.wrap .i64 (m.2.2.2.2.2.2.2.2.1 + 1), m.2.2.2.2.2.2.2.2.2.1, ()))))))
 (.no))
 (.ret (.inr (.inr (())))))
noncomputable def freeT_w0 := iterO fun x => (freeT_l0 x).run
noncomputable def freeT_B : ((Option zA11) × (zA10 × ((List zA2) × zT2))) → Br (Bool × Unit) := fun (p0, p1, p2, p3, p4, ()) =>
 (.cond (decide (0 ≤ p4) && decide (p4 < (↑(List.length p3) : Int)))
 (.cond (decide (0 ≤ IntKind.wrap .i64 (p4 - 1)) && decide (IntKind.wrap .i64 (p4 - 1) < (↑(List.length p3) : Int)))
 (.cond ((List.getD p3 (Int.toNat p4) (0, 0)).1 == (List.getD p3 (Int.toNat (IntKind.wrap .i64 (p4 - 1))) (0, 0)).1)
 (.ret (true, ()))
 (.cond (decide (0 ≤ IntKind.wrap .i64 (p4 - 1)) && decide (IntKind.wrap .i64 (p4 - 1) < (↑(List.length p3) : Int)))
 (.opt (findT (p2, (List.getD p3 (Int.toNat (IntKind.wrap .i64 (p4 - 1))) (0, 0)).2, ())) fun a =>
 (.cond (decide (0 ≤ p4) && decide (p4 < (↑(List.length p3) : Int)))
 (.opt (findT (p2, (List.getD p3 (Int.toNat p4) (0, 0)).2, ())) fun b =>
 (.cond (decide (0 ≤ IntKind.wrap .i64 (p4 - 1)) && decide (IntKind.wrap .i64 (p4 - 1) < (↑(List.length p3) : Int)))
 (.opt (betwT (p1, (List.getD p3 (Int.toNat (IntKind.wrap .i64 (p4 - 1))) (0, 0)).1, ())) fun c =>
 (.opt (freeT_w0 (p0, p2, p3, p4, a.1.2, b.1.2, c.1, (↑(List.length c.1) : Int), 0, p1, ())) fun d =>
 (.sum d (fun e =>
 (.ret (false, ()))) (fun f =>
 (.ret (true, ()))))))
 (.no)))
 (.no)))
 (.no)))
 (.no))
 (.no))
noncomputable def freeT := fun x => (freeT_B x).run
noncomputable def freeT_L : List Lp := [
 .mk 6 (shO 84 [(6, .c (.ref 1030 0 0))] [(1030, [])] [.slot 0 true zA17, .slot 2 false (.sl zA9), .slot 3 true (.sl zA16), sI 4, sI 12, sI 14, .slot 58 false (.sl (.int .i64)), sI 59, sI 60, .tv 1030 true zA5] []) ([exO .ret 84 [(10, D.c C.ff)] [] [] [], exO (.exit 0) 84 [] [] [] []]) freeT_l0,
 .mk 9 (shO 84 [(6, .c (.ref 1030 0 0))] [(1030, [])] [.slot 0 true zA17, .slot 2 false (.sl zA9), .slot 3 true (.sl zA16), sI 4, sI 12, sI 14, sI 16, sI 17, .slot 58 false (.sl (.int .i64)), sI 59, sI 60, .tv 1030 true zA5] []) ([exO .ret 84 [(10, D.c C.ff)] [] [] [], exO (.exit 2) 84 [(6, .c (.ref 1030 0 0))] [(1030, [])] [.slot 0 true zA17, .slot 2 false (.sl zA9), .slot 3 true (.sl zA16), sI 4, sI 12, sI 14, .slot 58 false (.sl (.int .i64)), sI 59, sI 60, .tv 1030 true zA5] []]) freeT_l1]
theorem freeT_oc : OC Tryz.prog 39 [(false, .ty true zA17), (false, .ty true zA5), (false, .ty false (.sl zA9)), (false, .ty true (.sl zA16)), (false, .ty false (.int .i64))] [.ty false .bool] freeT := OC.lp en_orderT 1024 Tryz.func39 freeT_L (by kernel_rfl) ⟨fun _ => by kernel_rfl, fun _ => by kernel_rfl, trivial⟩ (fun _ => by kernel_rfl)
noncomputable def cx_freeT : Ctx := ocx cx_orderT freeT_oc
theorem en_freeT : EnvFull Tryz.prog cx_freeT := ocn en_orderT freeT_oc
noncomputable def matchT_l0 : zT8 → Br (zT8 ⊕ (Unit ⊕ zT9)) := fun (a, b, c, d, e, f, g, ()) =>
 (.cond (decide (f < e))
 (.cond (decide (0 ≤ f) && decide (f < (↑(List.length d) : Int)))
 (.opt (findT (b, (List.getD d (Int.toNat f) (0, 0)).2, ())) fun h =>
 (.cond (decide (0 ≤ 0) && decide (0 ≤ f) && decide (f ≤ (↑(List.length c) : Int)))
 (.opt (fitsT (a, g, b, List.drop (Int.toNat 0) (List.take (Int.toNat f) c), (List.getD d (Int.toNat f) (0, 0)).1, h.1.1, ())) fun i =>
 (.cond (!i.1)
 (.ret (.inr (.inl (()))))
 (.cond (decide (f > 0))
 (.opt (freeT (a, g, b, c, f, ())) fun j =>
 (.cond (!j.1)
 (.ret (.inr (.inl (()))))
 (.ret (.inl (a, b, c, d, e, IntKind.wrap .i64 (f + 1), g, ())))))
 (.ret (.inl (a, b, c, d, e, IntKind.wrap .i64 (f + 1), g, ()))))))
 (.no)))
 (.no))
 (.ret (.inr (.inr (b, c, g, ())))))
noncomputable def matchT_w0 := iterO fun x => (matchT_l0 x).run
noncomputable def matchT_B : ((Option zA11) × (zA10 × ((List zA2) × zA31))) → Br (Bool × Unit) := fun (p0, p1, p2, p3, ()) =>
 (.cond ((↑(List.length p3) : Int) == 0)
 (.ret (false, ()))
 (.opt (orderT (p1, p2, p3, ())) fun a =>
 (.cond (!a.1)
 (.ret (false, ()))
 (.opt (matchT_w0 (p0, p2, p3, p3, (↑(List.length p3) : Int), 0, p1, ())) fun b =>
 (.sum b (fun c =>
 (.ret (false, ()))) (fun d =>
 (.cond (decide (0 ≤ 0) && decide (0 < (↑(List.length d.2.1) : Int)))
 (.opt (findT (d.1, (List.getD d.2.1 (Int.toNat 0) (0, 0)).2, ())) fun e =>
 (.cond (decide (0 ≤ IntKind.wrap .i64 ((↑(List.length d.2.1) : Int) - 1)) && decide (IntKind.wrap .i64 ((↑(List.length d.2.1) : Int) - 1) < (↑(List.length d.2.1) : Int)))
 (.opt (findT (d.1, (List.getD d.2.1 (Int.toNat (IntKind.wrap .i64 ((↑(List.length d.2.1) : Int) - 1))) (0, 0)).2, ())) fun f =>
 (.opt (withinT (e.1.1.2.2.1, f.1.1.2.2.1, d.2.2.1.2.1, ())) fun g =>
 (.ret (g.1, ()))))
 (.no)))
 (.no))))))))
noncomputable def matchT := fun x => (matchT_B x).run
abbrev matchT_ins : List (Bool × Pat) := [(false, .ty true zA17), (false, .ty true zA5), (false, .ty false (.sl zA9)), (false, .ty true (.sl zA16))]
abbrev matchT_outs : List Pat := [.ty false .bool]
noncomputable def matchT_L : List Lp := [
 .mk 4 (shO 94 [(5, .c (.ref 1029 0 0))] [(1029, [])] [.slot 0 true zA17, .slot 2 false (.sl zA9), .slot 3 true (.sl zA16), .slot 27 true (.sl zA16), sI 28, sI 29, .tv 1029 true zA5] []) ([exO .ret 94 [(8, D.c C.ff)] [] [] [], exO (.exit 0) 94 [(5, .c (.ref 1029 0 0))] [(1029, [])] [.slot 2 false (.sl zA9), .slot 3 true (.sl zA16), .tv 1029 true zA5] []]) matchT_l0]
theorem matchT_oc : OC Tryz.prog 18 matchT_ins matchT_outs matchT := OC.lp en_freeT 1024 Tryz.func18 matchT_L (by kernel_rfl) ⟨fun _ => by kernel_rfl, trivial⟩ (fun _ => by kernel_rfl)
noncomputable def cx_matchT : Ctx := ocx cx_freeT matchT_oc
theorem en_matchT : EnvFull Tryz.prog cx_matchT := ocn en_freeT matchT_oc
noncomputable def whyT_l0 : zT8 → Br (zT8 ⊕ ((Int × Unit) ⊕ ((Option zA11) × zT9))) := fun (a, b, c, d, e, f, g, ()) =>
 (.cond (decide (f < e))
 (.cond (decide (0 ≤ f) && decide (f < (↑(List.length d) : Int)))
 (.opt (findT (b, (List.getD d (Int.toNat f) (0, 0)).2, ())) fun h =>
 (.cond (decide (0 ≤ 0) && decide (0 ≤ f) && decide (f ≤ (↑(List.length c) : Int)))
 (.opt (fitsT (a, g, b, List.drop (Int.toNat 0) (List.take (Int.toNat f) c), (List.getD d (Int.toNat f) (0, 0)).1, h.1.1, ())) fun i =>
 (.cond (!i.1)
 (.ret (.inr (.inl (3, ()))))
 (.ret (.inl (a, b, c, d, e, IntKind.wrap .i64 (f + 1), g, ())))))
 (.no)))
 (.no))
 (.ret (.inr (.inr (a, b, c, g, ())))))
noncomputable def whyT_w0 := iterO fun x => (whyT_l0 x).run
noncomputable def whyT_l1 : ((Option zA11) × ((List zA2) × ((List (Int × Int)) × (Int × (zA10 × Unit))))) → Br (((Option zA11) × ((List zA2) × ((List (Int × Int)) × (Int × (zA10 × Unit))))) ⊕ ((Int × Unit) ⊕ ((Option zA11) × zT9))) := fun (a, b, c, d, e, ()) =>
 (.cond (decide (d < (↑(List.length c) : Int)))
 (.opt (freeT (a, e, b, c, d, ())) fun f =>
 (.cond (!f.1)
 (.ret (.inr (.inl (4, ()))))
 (.ret (.inl (a, b, c, IntKind.wrap .i64 (d + 1), e, ())))))
 (.ret (.inr (.inr (a, b, c, e, ())))))
noncomputable def whyT_w1 := iterO fun x => (whyT_l1 x).run
noncomputable def whyT_B : ((Option zA11) × (zA10 × ((List zA2) × zA31))) → Br (Int × Unit) := fun (p0, p1, p2, p3, ()) =>
 (.cond ((↑(List.length p3) : Int) == 0)
 (.ret (1, ()))
 (.opt (orderT (p1, p2, p3, ())) fun a =>
 (.cond (!a.1)
 (.ret (2, ()))
 (.opt (whyT_w0 (p0, p2, p3, p3, (↑(List.length p3) : Int), 0, p1, ())) fun b =>
 (.sum b (fun c =>
 (.ret (c.1, ()))) (fun d =>
 (.opt (whyT_w1 (d.1, d.2.1, d.2.2.1, 1, d.2.2.2.1, ())) fun e =>
 (.sum e (fun f =>
 (.ret (f.1, ()))) (fun g =>
 (.opt (matchT (g.1, g.2.2.2.1, g.2.1, g.2.2.1, ())) fun h =>
 (.cond (!h.1)
 (.ret (5, ()))
 (.ret (0, ())))))))))))))
noncomputable def whyT := fun x => (whyT_B x).run
noncomputable def whyT_L : List Lp := [
 .mk 6 (shO 69 [(5, .c (.ref 1029 0 0))] [(1029, [])] [.slot 0 true zA17, .slot 2 false (.sl zA9), .slot 3 true (.sl zA16), .slot 24 true (.sl zA16), sI 25, sI 26, .tv 1029 true zA5] []) ([exO .ret 69 [] [] [sI 8] [], exO (.exit 1) 69 [(5, .c (.ref 1029 0 0))] [(1029, [])] [.slot 0 true zA17, .slot 2 false (.sl zA9), .slot 3 true (.sl zA16), .tv 1029 true zA5] []]) whyT_l0,
 .mk 13 (shO 69 [(5, .c (.ref 1029 0 0))] [(1029, [])] [.slot 0 true zA17, .slot 2 false (.sl zA9), .slot 3 true (.sl zA16), sI 13, .tv 1029 true zA5] []) ([exO .ret 69 [] [] [sI 8] [], exO (.exit 3) 69 [(5, .c (.ref 1029 0 0))] [(1029, [])] [.slot 0 true zA17, .slot 2 false (.sl zA9), .slot 3 true (.sl zA16), .tv 1029 true zA5] []]) whyT_l1]
theorem whyT_oc : OC Tryz.prog 17 [(false, .ty true zA17), (false, .ty true zA5), (false, .ty false (.sl zA9)), (false, .ty true (.sl zA16))] [.ty false (.int .i64)] whyT := OC.lp en_matchT 1024 Tryz.func17 whyT_L (by kernel_rfl) ⟨fun _ => by kernel_rfl, fun _ => by kernel_rfl, trivial⟩ (fun _ => by kernel_rfl)
noncomputable def cx_whyT : Ctx := ocx cx_matchT whyT_oc
theorem en_whyT : EnvFull Tryz.prog cx_whyT := ocn en_matchT whyT_oc
end Go.Proofs.YtiblijkhpmemeaaGreat
