/- Contracts of functions. Printed by auto.py. The matcher takes an event: what it keeps, what it tells, what it loses. -/
import Derived.Test.YtkbdofnbagmlfaaGreatGe
import Derived.Test.YtkbdofnbagmlfaaGreatHg
import Derived.Test.YtkbdofnbagmlfaaGreatHp
import Derived.Test.YtkbdofnbagmlfaaGreatHo
namespace Go.Proofs.YtkbdofnbagmlfaaGreat
set_option maxRecDepth 100000
open Go.PI Go
noncomputable section
def Zsk : ((Option (List (ByteArray × (List (ByteArray × Int))))) × ((zM2 × (Int × Int)) × Unit)) -> Br ((zM7 × ((zM2 × (Int × Int)) × (List zM5))) × Unit) := fun (p0, p1, ()) =>
 (.opt (newM (p0, p1, ())) fun y4 =>
 (.opt (queryM (Prod.fst y4, ())) fun y5 =>
 (.ret ((Prod.fst y4, (Prod.fst (Prod.fst y5), Prod.fst (Prod.snd (Prod.fst y5)), Prod.snd (Prod.snd (Prod.fst y5))), []), ()))))
def newMt := fun x => (Zsk x).run
theorem ZpJ : OC Tryz.prog 11 [(false, .ty false (.ptr (.st (.sl (.st (.pair .str (.sl (.st (.pair .str (.int .i64)))))))))), (false, .ty false (.st (.pair zM1 zM9)))] [(.obj (.two (.ty false zM6) (.two (.ty false (.st (.pair zM1 zM9))) (.row 97 zM4))))] newMt := OC.lp Zno 1024 Tryz.func11 [] (by kernel_rfl) trivial (fun _ => by kernel_rfl)
def cx_newMt : Ctx := ocx cx_sortPs ZpJ
theorem Zon : EnvFull Tryz.prog cx_newMt := ocn Zno ZpJ
def ZgD : (Int × (Int × (zM7 × (zM2 × (Int × (Int × (Zez × ((List zM5) × ((List zM5) × Unit))))))))) -> Br ((Int × (Int × (zM7 × (zM2 × (Int × (Int × (Zez × ((List zM5) × ((List zM5) × Unit))))))))) ⊕ (zM7 × (zM2 × (Int × (Int × (Zez × ((List zM5) × ((List zM5) × Unit)))))))) := fun (a, b, c, d, e, f, g, h, i, ()) =>
 (.cond (decide (b < a))
 (.cond (decide (0 <= b) && decide (b < (i.length : Int)))
 (.opt (moreM (c, i.getD b.toNat (0, [], [], 0, (0, 0, 0), false), g, ())) fun j =>
 (.cond (decide ((List.length h + List.length (Prod.fst j)) * 64 <= 140737488355328))
 (.opt (behindM (c, i.getD b.toNat (0, [], [], 0, (0, 0, 0), false), g, ())) fun k =>
 (.cond (decide (0 <= b) && decide (b < (i.length : Int)))
 (.ret (.inl (a, IntKind.wrap IntKind.i64 (b + 1), c, d, e, f, g, h ++ Prod.fst j, List.set i b.toNat (Prod.fst k), ())))
 (.no)))
 (.no)))
 (.no))
 (.ret (.inr (c, d, e, f, g, h, i, ()))))
def feedM_w0 := Zag fun x => (ZgD x).run
def Zhn : (Bool × (Int × (Int × (zM7 × (zM2 × (Int × (Int × ((List zM5) × (ZcN × ((List zM5) × Unit)))))))))) -> Br ((Bool × (Int × (Int × (zM7 × (zM2 × (Int × (Int × ((List zM5) × (ZcN × ((List zM5) × Unit)))))))))) ⊕ (Bool × (zM7 × (zM2 × (Int × (Int × (ZcN × ((List zM5) × Unit)))))))) := fun (a, b, c, d, e, f, g, h, i, j, ()) =>
 (.cond (decide (c < b))
 (.cond (decide (0 <= c) && decide (c < (h.length : Int)))
 (.opt (endsM (d, h.getD c.toNat (0, [], [], 0, (0, 0, 0), false), ())) fun k =>
 (.cond (Prod.fst k)
 (.opt (runPairs (h.getD c.toNat (0, [], [], 0, (0, 0, 0), false), ())) fun l =>
 (.cond (decide ((List.length i + List.length (List.set (List.replicate 1 []) 0 (Prod.fst l))) * 24 <= 140737488355328))
 (.opt (deadM (d, h.getD c.toNat (0, [], [], 0, (0, 0, 0), false), ())) fun m =>
 (.cond (Prod.fst m)
 (.ret (.inl (a, b, IntKind.wrap IntKind.i64 (c + 1), d, e, f, g, h, i ++ List.set (List.replicate 1 []) 0 (Prod.fst l), j, ())))
 (.cond (decide ((j.length : Int) >= g))
 (.ret (.inl (true, b, IntKind.wrap IntKind.i64 (c + 1), d, e, f, g, h, i ++ List.set (List.replicate 1 []) 0 (Prod.fst l), j, ())))
 (.cond (decide ((List.length j + List.length (List.set (List.replicate 1 (0, [], [], 0, (0, 0, 0), false)) 0 (h.getD c.toNat (0, [], [], 0, (0, 0, 0), false)))) * 64 <= 140737488355328))
 (.ret (.inl (a, b, IntKind.wrap IntKind.i64 (c + 1), d, e, f, g, h, i ++ List.set (List.replicate 1 []) 0 (Prod.fst l), j ++ List.set (List.replicate 1 (0, [], [], 0, (0, 0, 0), false)) 0 (h.getD c.toNat (0, [], [], 0, (0, 0, 0), false)), ())))
 (.no)))))
 (.no)))
 (.opt (deadM (d, h.getD c.toNat (0, [], [], 0, (0, 0, 0), false), ())) fun n =>
 (.cond (Prod.fst n)
 (.ret (.inl (a, b, IntKind.wrap IntKind.i64 (c + 1), d, e, f, g, h, i, j, ())))
 (.cond (decide ((j.length : Int) >= g))
 (.ret (.inl (true, b, IntKind.wrap IntKind.i64 (c + 1), d, e, f, g, h, i, j, ())))
 (.cond (decide ((List.length j + List.length (List.set (List.replicate 1 (0, [], [], 0, (0, 0, 0), false)) 0 (h.getD c.toNat (0, [], [], 0, (0, 0, 0), false)))) * 64 <= 140737488355328))
 (.ret (.inl (a, b, IntKind.wrap IntKind.i64 (c + 1), d, e, f, g, h, i, j ++ List.set (List.replicate 1 (0, [], [], 0, (0, 0, 0), false)) 0 (h.getD c.toNat (0, [], [], 0, (0, 0, 0), false)), ())))
 (.no)))))))
 (.no))
 (.ret (.inr (a, d, e, f, g, i, j, ()))))
def feedM_w1 := Zag fun x => (Zhn x).run
def Zs1 : ((zM7 × ((zM2 × (Int × Int)) × (List zM5))) × (Zez × Unit)) -> Br ((ZcN × Bool) × ((zM7 × ((zM2 × (Int × Int)) × (List zM5))) × Unit)) := fun (p0, p1, ()) =>
 (.cond (Option.isNone (Prod.fst p0))
 (.ret (([], false), (Prod.fst p0, (Prod.fst (Prod.fst (Prod.snd p0)), Prod.fst (Prod.snd (Prod.fst (Prod.snd p0))), Prod.snd (Prod.snd (Prod.fst (Prod.snd p0)))), Prod.snd (Prod.snd p0)), ()))
 (.opt (expireM ((Prod.fst p0, (Prod.fst (Prod.fst (Prod.snd p0)), Prod.fst (Prod.snd (Prod.fst (Prod.snd p0))), Prod.snd (Prod.snd (Prod.fst (Prod.snd p0)))), Prod.snd (Prod.snd p0)), Prod.fst (Prod.snd (Prod.snd p1)), ())) fun a =>
 (.opt (feedM_w0 ((↑(List.length (Prod.snd (Prod.snd (Prod.fst (Prod.snd a))))) : Int), 0, Prod.fst (Prod.fst (Prod.snd a)), Prod.fst (Prod.fst (Prod.snd (Prod.fst (Prod.snd a)))), Prod.fst (Prod.snd (Prod.fst (Prod.snd (Prod.fst (Prod.snd a))))), Prod.snd (Prod.snd (Prod.fst (Prod.snd (Prod.fst (Prod.snd a))))), p1, [], Prod.snd (Prod.snd (Prod.fst (Prod.snd a))), ())) fun b =>
 (.opt (moreM (Prod.fst b, (0, [], [], 0, (0, 0, 0), false), Prod.fst (Prod.snd (Prod.snd (Prod.snd (Prod.snd b)))), ())) fun c =>
 (.cond (decide ((List.length (Prod.fst (Prod.snd (Prod.snd (Prod.snd (Prod.snd (Prod.snd b)))))) + List.length (Prod.fst c)) * 64 <= 140737488355328))
 (.opt (expireM ((Prod.fst b, (Prod.fst (Prod.snd b), Prod.fst (Prod.snd (Prod.snd b)), Prod.fst (Prod.snd (Prod.snd (Prod.snd b)))), Prod.fst (Prod.snd (Prod.snd (Prod.snd (Prod.snd (Prod.snd (Prod.snd b))))))), Prod.fst (Prod.snd (Prod.snd (Prod.fst (Prod.snd (Prod.snd (Prod.snd (Prod.snd b))))))), ())) fun d =>
 (.opt (feedM_w1 (false, (↑(List.length (Prod.fst (Prod.snd (Prod.snd (Prod.snd (Prod.snd (Prod.snd b))))) ++ Prod.fst c)) : Int), 0, Prod.fst (Prod.fst (Prod.snd d)), Prod.fst (Prod.fst (Prod.snd (Prod.fst (Prod.snd d)))), Prod.fst (Prod.snd (Prod.fst (Prod.snd (Prod.fst (Prod.snd d))))), Prod.snd (Prod.snd (Prod.fst (Prod.snd (Prod.fst (Prod.snd d))))), Prod.fst (Prod.snd (Prod.snd (Prod.snd (Prod.snd (Prod.snd b))))) ++ Prod.fst c, [], Prod.snd (Prod.snd (Prod.fst (Prod.snd d))), ())) fun e =>
 (.opt (ZhS (Prod.fst (Prod.snd (Prod.snd (Prod.snd (Prod.snd (Prod.snd e)))))) ((), ())) fun f =>
 (.ret ((f, Prod.fst e), (Prod.fst (Prod.snd e), (Prod.fst (Prod.snd (Prod.snd e)), Prod.fst (Prod.snd (Prod.snd (Prod.snd e))), Prod.fst (Prod.snd (Prod.snd (Prod.snd (Prod.snd e))))), Prod.fst (Prod.snd (Prod.snd (Prod.snd (Prod.snd (Prod.snd (Prod.snd e))))))), ())))))
 (.no))))))
def feedM := fun x => (Zs1 x).run
def feedM_L : List Lp := [
 .mk 6 (shO 123 [(0, .c (.ref 1954 0 0)), (3, .c (.ref 1027 0 0)), (6, .c (.mfull 1724)), (29, .c (.mfull 1076100))] [(1027, []), (1724, []), (1954, [.bad, .bad, .bad, .bad, .mfull 1076100]), (1076100, [])] [sI 30, sI 31, .cell 1954 0 false zM6, .cell 1954 1 false zM1, .cell 1954 2 false (.int .i64), .cell 1954 3 false (.int .i64), .tv 1027 false zM8, .ar 1724 false 97 zM4, .ar 1076100 false 97 zM4] [6]) ([exO (.exit 0) 123 [(0, .c (.ref 1954 0 0)), (3, .c (.ref 1027 0 0)), (6, .c (.mfull 1725))] [(1027, []), (1725, []), (1954, [.bad, .bad, .bad, .bad, .mfull 1076100]), (1076100, [])] [.cell 1954 0 false zM6, .cell 1954 1 false zM1, .cell 1954 2 false (.int .i64), .cell 1954 3 false (.int .i64), .tv 1027 false zM8, .ar 1725 false 97 zM4, .ar 1076100 false 97 zM4] [6]]) ZgD,
 .mk 16 (shX 123 [(0, .c (.ref 1954 0 0)), (9, .c (.mfull 1726)), (72, .c (.mfull 1091))] [(1091, []), (1726, []), (1954, [.bad, .bad, .bad, .bad, (.mfull 1727)]), (1727, [])] [.slot 10 false .bool, sI 73, sI 74, .cell 1954 0 false zM6, .cell 1954 1 false zM1, .cell 1954 2 false (.int .i64), .cell 1954 3 false (.int .i64), .ar 1091 false 97 zM4, .ar 1726 false 49 (.sl (.st zM9)), .ar 1727 false 97 zM4] ⟨[(0, .keep), (9, .row 702 false 49 (.sl (.st zM9))), (10, .as false .bool), (72, .keep), (73, .as false (.int .i64)), (74, .as false (.int .i64))], [(930, 0, .as false zM6), (930, 1, .as false zM1), (930, 2, .as false (.int .i64)), (930, 3, .as false (.int .i64)), (930, 4, .row 703 false 97 zM4)], [(67, false), (702, false), (930, false), (703, false)]⟩) ([exX (.exit 2) 123 [(9, .c (.mfull 1728))] [(1728, []), (1954, [.bad, .bad, .bad, .bad, (.mfull 1729)]), (1729, [])] [.slot 10 false .bool, .cell 1954 0 false zM6, .cell 1954 1 false zM1, .cell 1954 2 false (.int .i64), .cell 1954 3 false (.int .i64), .ar 1728 false 49 (.sl (.st zM9)), .ar 1729 false 97 zM4] ⟨[(9, .row 704 false 49 (.sl (.st zM9))), (10, .as false .bool)], [(930, 0, .as false zM6), (930, 1, .as false zM1), (930, 2, .as false (.int .i64)), (930, 3, .as false (.int .i64)), (930, 4, .row 705 false 97 zM4)], [(704, false), (930, false), (705, false)]⟩]) Zhn]
theorem ZqH : OC Tryz.prog 12 [(true, (.obj (.two (.ty false zM6) (.two (.ty false (.st (.pair zM1 zM9))) (.row 97 zM4))))), (false, .ty false zM8)] [.ty false (.sl (.sl (.st zM9))), .ty false .bool] feedM := OC.lp Zon 1024 Tryz.func12 feedM_L (by kernel_rfl) ⟨fun _ => by kernel_rfl, fun _ => by kernel_rfl, trivial⟩ (fun _ => by kernel_rfl)
def cx_feedM : Ctx := ocx cx_newMt ZqH
theorem Zo2 : EnvFull Tryz.prog cx_feedM := ocn Zon ZqH
def liveMt_B : ((zM7 × ((zM2 × (Int × Int)) × (List zM5))) × Unit) -> Br (Int × ((zM7 × ((zM2 × (Int × Int)) × (List zM5))) × Unit)) := fun (p0, ()) =>
 (.ret ((↑(List.length (Prod.snd (Prod.snd p0))) : Int), (Prod.fst p0, (Prod.fst (Prod.fst (Prod.snd p0)), Prod.fst (Prod.snd (Prod.fst (Prod.snd p0))), Prod.snd (Prod.snd (Prod.fst (Prod.snd p0)))), Prod.snd (Prod.snd p0)), ()))
def liveMt := fun x => (liveMt_B x).run
theorem Zm6 : OC Tryz.prog 17 [(true, (.obj (.two (.ty false zM6) (.two (.ty false (.st (.pair zM1 zM9))) (.row 97 zM4)))))] [.ty false (.int .i64)] liveMt := OC.lp Zo2 1024 Tryz.func17 [] (by kernel_rfl) trivial (fun _ => by kernel_rfl)
def cx_liveMt : Ctx := ocx cx_feedM Zm6
theorem ZmK : EnvFull Tryz.prog cx_liveMt := ocn Zo2 Zm6
def ZnK : (Int × (Int × (zM7 × (zM2 × (Int × (Int × (ZcN × ((List zM5) × Unit)))))))) -> Br ((Int × (Int × (zM7 × (zM2 × (Int × (Int × (ZcN × ((List zM5) × Unit)))))))) ⊕ (zM7 × (zM2 × (Int × (Int × (ZcN × ((List zM5) × Unit))))))) := fun (a, b, c, d, e, f, g, h, ()) =>
 (.cond (decide (b < a))
 (.cond (decide (0 <= b) && decide (b < (h.length : Int)))
 (.opt (runPairs (h.getD b.toNat (0, [], [], 0, (0, 0, 0), false), ())) fun i =>
 (.cond (decide ((List.length g + List.length (List.set (List.replicate 1 []) 0 (Prod.fst i))) * 24 <= 140737488355328))
 (.ret (.inl (a, IntKind.wrap IntKind.i64 (b + 1), c, d, e, f, g ++ List.set (List.replicate 1 []) 0 (Prod.fst i), h, ())))
 (.no)))
 (.no))
 (.ret (.inr (c, d, e, f, g, h, ()))))
def runsMt_w0 := Zag fun x => (ZnK x).run
def runsMt_B : ((zM7 × ((zM2 × (Int × Int)) × (List zM5))) × Unit) -> Br (ZcN × ((zM7 × ((zM2 × (Int × Int)) × (List zM5))) × Unit)) := fun (p0, ()) =>
 (.opt (liveMt ((Prod.fst p0, (Prod.fst (Prod.fst (Prod.snd p0)), Prod.fst (Prod.snd (Prod.fst (Prod.snd p0))), Prod.snd (Prod.snd (Prod.fst (Prod.snd p0)))), Prod.snd (Prod.snd p0)), ())) fun a =>
 (.opt (runsMt_w0 (Prod.fst a, 0, Prod.fst (Prod.fst (Prod.snd a)), Prod.fst (Prod.fst (Prod.snd (Prod.fst (Prod.snd a)))), Prod.fst (Prod.snd (Prod.fst (Prod.snd (Prod.fst (Prod.snd a))))), Prod.snd (Prod.snd (Prod.fst (Prod.snd (Prod.fst (Prod.snd a))))), [], Prod.snd (Prod.snd (Prod.fst (Prod.snd a))), ())) fun b =>
 (.ret (Prod.fst (Prod.snd (Prod.snd (Prod.snd (Prod.snd b)))), (Prod.fst b, (Prod.fst (Prod.snd b), Prod.fst (Prod.snd (Prod.snd b)), Prod.fst (Prod.snd (Prod.snd (Prod.snd b)))), Prod.fst (Prod.snd (Prod.snd (Prod.snd (Prod.snd (Prod.snd b)))))), ()))))
def runsMt := fun x => (runsMt_B x).run
def runsMt_L : List Lp := [
 .mk 3 (shO 23 [(0, .c (.ref 1954 0 0)), (3, .c (.mfull 1724))] [(1724, []), (1954, [.bad, .bad, .bad, .bad, .mfull 1056644]), (1056644, [])] [sI 6, sI 7, .cell 1954 0 false zM6, .cell 1954 1 false zM1, .cell 1954 2 false (.int .i64), .cell 1954 3 false (.int .i64), .ar 1724 false 49 (.sl (.st zM9)), .ar 1056644 false 97 zM4] [3]) ([exO (.exit 0) 23 [(3, .c (.mfull 1725))] [(1725, []), (1954, [.bad, .bad, .bad, .bad, .mfull 1056644]), (1056644, [])] [.cell 1954 0 false zM6, .cell 1954 1 false zM1, .cell 1954 2 false (.int .i64), .cell 1954 3 false (.int .i64), .ar 1725 false 49 (.sl (.st zM9)), .ar 1056644 false 97 zM4] [3]]) ZnK]
theorem ZnM : OC Tryz.prog 18 [(true, (.obj (.two (.ty false zM6) (.two (.ty false (.st (.pair zM1 zM9))) (.row 97 zM4)))))] [.ty false (.sl (.sl (.st zM9)))] runsMt := OC.lp ZmK 1024 Tryz.func18 runsMt_L (by kernel_rfl) ⟨fun _ => by kernel_rfl, trivial⟩ (fun _ => by kernel_rfl)
def cx_runsMt : Ctx := ocx cx_liveMt ZnM
theorem Zmj : EnvFull Tryz.prog cx_runsMt := ocn ZmK ZnM
def ZgG : (ZcN × (Int × (Int × (ZcN × Unit)))) -> Br ((ZcN × (Int × (Int × (ZcN × Unit)))) ⊕ (ZcN × Unit)) := fun (a, b, c, d, ()) =>
 (.cond (decide (c < (a.length : Int)))
 (.cond (decide (0 <= c) && decide (c < (a.length : Int)))
 (.cond (decide (0 <= c) && decide (c < (a.length : Int)))
 (.cond (decide (0 <= IntKind.wrap IntKind.i64 ((↑(List.length (a.getD c.toNat [])) : Int) - 1)) && decide (IntKind.wrap IntKind.i64 ((↑(List.length (a.getD c.toNat [])) : Int) - 1) < (↑(List.length (a.getD c.toNat [])) : Int)))
 (.cond ((List.getD (a.getD c.toNat []) (Int.toNat (IntKind.wrap IntKind.i64 ((↑(List.length (a.getD c.toNat [])) : Int) - 1))) (0, 0)).2 == b)
 (.cond (decide (0 <= c) && decide (c < (a.length : Int)))
 (.cond (decide ((List.length d + List.length (List.set (List.replicate 1 []) 0 (a.getD c.toNat []))) * 24 <= 140737488355328))
 (.ret (.inl (a, b, IntKind.wrap IntKind.i64 (c + 1), d ++ List.set (List.replicate 1 []) 0 (a.getD c.toNat []), ())))
 (.no))
 (.no))
 (.ret (.inl (a, b, IntKind.wrap IntKind.i64 (c + 1), d, ()))))
 (.no))
 (.no))
 (.no))
 (.ret (.inr (d, ()))))
def endsA_w0 := Zag fun x => (ZgG x).run
def ZrV : (ZcN × (Int × Unit)) -> Br (ZcN × Unit) := fun (p0, p1, ()) =>
 (.opt (endsA_w0 (p0, p1, 0, [], ())) fun a =>
 (.ret (Prod.fst a, ())))
def endsA := fun x => (ZrV x).run
def endsA_L : List Lp := [
 .mk 3 (shO 37 [(5, .c (.mfull 1724))] [(1724, [])] [.slot 0 false (.sl (.sl (.st zM9))), sI 1, sI 6, .ar 1724 false 49 (.sl (.st zM9))] [5]) ([exO (.exit 0) 37 [(5, .c (.mfull 1725))] [(1725, [])] [.ar 1725 false 49 (.sl (.st zM9))] [5]]) ZgG]
theorem ZpV : OC Tryz.prog 14 [(false, .ty false (.sl (.sl (.st zM9)))), (false, .ty false (.int .i64))] [.ty false (.sl (.sl (.st zM9)))] endsA := OC.lp Zmj 1024 Tryz.func14 endsA_L (by kernel_rfl) ⟨fun _ => by kernel_rfl, trivial⟩ (fun _ => by kernel_rfl)
def cx_endsA : Ctx := ocx cx_runsMt ZpV
theorem ZoT : EnvFull Tryz.prog cx_endsA := ocn Zmj ZpV
def Zqa : ((List Int) × (Int × Unit)) -> Br ((zM2 × (Int × Int)) × Unit) := fun (p0, p1, ()) =>
 (.opt (queryQ (p0, ())) fun y3 =>
 (.ret ((Prod.fst (Prod.fst y3), Prod.fst (Prod.snd (Prod.fst y3)), p1), ())))
def smallQ := fun x => (Zqa x).run
theorem Zmk : OC Tryz.prog 8 [(false, .ty true (.sl (.int .i64))), (false, .ty false (.int .i64))] [.ty false (.st (.pair zM1 zM9))] smallQ := OC.lp ZoT 1024 Tryz.func8 [] (by kernel_rfl) trivial (fun _ => by kernel_rfl)
def cx_smallQ : Ctx := ocx cx_endsA Zmk
theorem ZmR : EnvFull Tryz.prog cx_smallQ := ocn ZoT Zmk
def Zum : Unit -> Br (Bool × Unit) := fun (()) =>
 (.opt (newS ([({ data := #[65] }, []), ({ data := #[66] }, [])], ())) fun y6 =>
 (.opt (newMt (Prod.fst (Prod.fst y6), ([({ data := #[97] }, [{ data := #[65] }], false, 1, 1, []), ({ data := #[98] }, [{ data := #[66] }], false, 1, 1, [])], 5, 5), ())) fun y7 =>
 (.opt (feedM ((Prod.fst (Prod.fst y7), (Prod.fst (Prod.fst (Prod.snd (Prod.fst y7))), Prod.fst (Prod.snd (Prod.fst (Prod.snd (Prod.fst y7)))), Prod.snd (Prod.snd (Prod.fst (Prod.snd (Prod.fst y7))))), Prod.snd (Prod.snd (Prod.fst y7))), ({ data := #[65] }, ByteArray.empty, 1, 1, []), ())) fun y8 =>
 (.opt (feedM ((Prod.fst (Prod.fst (Prod.snd y8)), (Prod.fst (Prod.fst (Prod.snd (Prod.fst (Prod.snd y8)))), Prod.fst (Prod.snd (Prod.fst (Prod.snd (Prod.fst (Prod.snd y8))))), Prod.snd (Prod.snd (Prod.fst (Prod.snd (Prod.fst (Prod.snd y8)))))), Prod.snd (Prod.snd (Prod.fst (Prod.snd y8)))), ({ data := #[65] }, ByteArray.empty, 2, 2, []), ())) fun y9 =>
 (.opt (feedM ((Prod.fst (Prod.fst (Prod.snd y9)), (Prod.fst (Prod.fst (Prod.snd (Prod.fst (Prod.snd y9)))), Prod.fst (Prod.snd (Prod.fst (Prod.snd (Prod.fst (Prod.snd y9))))), Prod.snd (Prod.snd (Prod.fst (Prod.snd (Prod.fst (Prod.snd y9)))))), Prod.snd (Prod.snd (Prod.fst (Prod.snd y9)))), ({ data := #[66] }, ByteArray.empty, 3, 3, []), ())) fun a =>
 (.cond ((↑(List.length (Prod.fst (Prod.fst a))) : Int) == 2)
 (.cond (!Prod.snd (Prod.fst a))
 (.opt (liveMt ((Prod.fst (Prod.fst (Prod.snd a)), (Prod.fst (Prod.fst (Prod.snd (Prod.fst (Prod.snd a)))), Prod.fst (Prod.snd (Prod.fst (Prod.snd (Prod.fst (Prod.snd a))))), Prod.snd (Prod.snd (Prod.fst (Prod.snd (Prod.fst (Prod.snd a)))))), Prod.snd (Prod.snd (Prod.fst (Prod.snd a)))), ())) fun b =>
 (.ret (Prod.fst b == 2, ())))
 (.ret (false, ())))
 (.ret (false, ()))))))))
def awake25 := fun x => (Zum x).run
theorem ZkV : OC Tryz.prog 15 [] [.ty false .bool] awake25 := OC.lp ZmR 1024 Tryz.func15 [] (by kernel_rfl) trivial (fun _ => by kernel_rfl)
def cx_awake25 : Ctx := ocx cx_smallQ ZkV
theorem Ztn : EnvFull Tryz.prog cx_awake25 := ocn ZmR ZkV
end
end Go.Proofs.YtkbdofnbagmlfaaGreat

namespace Go.Proofs.YtkbdofnbagmlfaaGreat
open Go.PI Go
def prR (r : RunT) : List Prs := r.2.1.reverse
theorem Zq2 (r : RunT) (h : r.2.1.length <= 1000) : runPairs (r, ()) = some (prR r, ()) := by
 unfold runPairs ZkL listP
 have hb : r.2.1.length * 16 <= 140737488355328 := by omega
 simp only [Br.run, decide_eq_true hb, cond_true]
 rfl
structure Feeds (M : MkT) (q : Qry) (e : Evt) (P P' : RunT -> Prop) (f g en : RunT -> Bool) (mo : RunT -> List RunT) (be : RunT -> RunT) : Prop where
 up : ∀ r, P r -> P' r
 over : ∀ r, P' r -> runOver (r, q, e.2.2.1, ()) = some (f r, ())
 dead : ∀ r, P' r -> deadM (M, r, ()) = some (g r, ())
 ends : ∀ r, P' r -> endsM (M, r, ()) = some (en r, ())
 more : ∀ r, P r -> moreM (M, r, e, ()) = some (mo r, ())
 two : ∀ r, P r \/ r = ((0, [], [], 0, (0, 0, 0), false) : RunT) -> (mo r).length <= 2
 keep : ∀ r, P r \/ r = ((0, [], [], 0, (0, 0, 0), false) : RunT) -> ∀ r' ∈ mo r, P' r'
 zero : moreM (M, ((0, [], [], 0, (0, 0, 0), false) : RunT), e, ()) = some (mo ((0, [], [], 0, (0, 0, 0), false) : RunT), ())
 beh : ∀ r, P r -> behindM (M, r, e, ()) = some (be r, ())
 behP : ∀ r, P r -> P (be r)
 len : ∀ r, P' r -> r.2.1.length <= 1000
def ZdO (mo : RunT -> List RunT) (l : List RunT) : List RunT := l.flatMap mo ++ mo ((0, [], [], 0, (0, 0, 0), false) : RunT)
section
variable {M : MkT} {q : Qry} {e : Evt} {P P' : RunT -> Prop} {f g en : RunT -> Bool} {mo : RunT -> List RunT} {be : RunT -> RunT} (F : Feeds M q e P P' f g en mo be)
include F
theorem ZtY (l : List RunT) (hl : ∀ r ∈ l, P r) (hn : l.length <= 1000) : feedM_w0 ((l.length : Int), 0, M, q.1, q.2.1, q.2.2, e, [], l, ()) = some (M, q.1, q.2.1, q.2.2, e, l.flatMap mo, l.map be, ()) := by
 suffices hh : ∃ z, feedM_w0 ((l.length : Int), 0, M, q.1, q.2.1, q.2.2, e, [], l, ()) = some z /\ z = (M, q.1, q.2.1, q.2.2, e, l.flatMap mo, l.map be, ()) by
  obtain ⟨z, hz, rfl⟩ := hh
  exact hz
 refine Zao (step := fun x => (ZgD x).run) (Q := fun _ z => z = (M, q.1, q.2.1, q.2.2, e, l.flatMap mo, l.map be, ()))
  (fun y => ∃ i : Nat, y = ((l.length : Int), (i : Int), M, q.1, q.2.1, q.2.2, e, (l.take i).flatMap mo, (l.take i).map be ++ l.drop i, ()) /\ i <= l.length /\ ((l.take i).flatMap mo).length <= 2 * i) (fun y => ((l.length : Int) - y.2.1).toNat) ?_ _ ⟨0, rfl, by omega, by simp⟩
 rintro y ⟨i, rfl, h1, h2⟩
 unfold ZgD
 dsimp only
 by_cases hi : (i : Int) < (l.length : Int)
 ·have hw : IntKind.wrap .i64 ((i : Int) + 1) = ((i + 1 : Nat) : Int) := by rw [Go.PI.wrap_small (by omega) (by omega)]; rfl
  have h0 : (0 : Int) <= i := by omega
  have hlt : i < l.length := by omega
  have hrow : ((l.take i).map be ++ l.drop i).length = l.length := by
   rw [List.length_append, List.length_map, List.length_take, List.length_drop]; omega
  have hri : (i : Int) < ((((l.take i).map be ++ l.drop i).length : Nat) : Int) := by omega
  have hget : ((l.take i).map be ++ l.drop i).getD i ((0, [], [], 0, (0, 0, 0), false) : RunT) = l.getD i ((0, [], [], 0, (0, 0, 0), false) : RunT) := by
   have e1 : ((l.take i).map be).length = i := by rw [List.length_map, List.length_take]; omega
   simp only [List.getD_eq_getElem?_getD]
   rw [List.getElem?_append_right (by omega), e1, Nat.sub_self, List.getElem?_drop, Nat.add_zero]
  have hm : l.getD i ((0, [], [], 0, (0, 0, 0), false) : RunT) ∈ l := by rw [Za1 _ _ _ hlt]; exact List.getElem_mem _
  have hP := hl _ hm
  have a1 := F.more _ hP
  have a2 := F.beh _ hP
  have a3 := F.two (l.getD i ((0, [], [], 0, (0, 0, 0), false) : RunT)) (.inl hP)
  have hb : (((l.take i).flatMap mo).length + (mo (l.getD i ((0, [], [], 0, (0, 0, 0), false) : RunT))).length) * 64 <= 140737488355328 := by omega
  have hset : ((l.take i).map be ++ l.drop i).set i (be (l.getD i ((0, [], [], 0, (0, 0, 0), false) : RunT))) = (l.take (i + 1)).map be ++ l.drop (i + 1) := by
   have e1 : ((l.take i).map be).length = i := by rw [List.length_map, List.length_take]; omega
   have e2 : l.drop i = l.getD i ((0, [], [], 0, (0, 0, 0), false) : RunT) :: l.drop (i + 1) := by rw [Za1 _ _ _ hlt]; exact List.drop_eq_getElem_cons hlt
   rw [Zcj l ((0, [], [], 0, (0, 0, 0), false) : RunT) i hlt, List.map_append, List.set_append_right _ _ (by omega), e1, Nat.sub_self, e2, List.set_cons_zero, List.append_assoc]
   rfl
  simp only [Br.run, decide_eq_true hi, decide_eq_true h0, decide_eq_true hri, Bool.and_self, cond_true, Int.toNat_natCast, hget, a1, decide_eq_true hb, a2, hw, hset]
  refine .inl ⟨_, rfl, ⟨i + 1, ?_, by omega, ?_⟩, by dsimp only; omega, fun z hz => hz⟩
  ·rw [Zcj l ((0, [], [], 0, (0, 0, 0), false) : RunT) i hlt, List.flatMap_append]
   simp only [List.flatMap_cons, List.flatMap_nil, List.append_nil]
  ·rw [Zcj l ((0, [], [], 0, (0, 0, 0), false) : RunT) i hlt, List.flatMap_append, List.length_append]
   simp only [List.flatMap_cons, List.flatMap_nil, List.append_nil]
   omega
 ·simp only [Br.run, decide_eq_false hi, cond_false]
  have e1 : i = l.length := by omega
  refine .inr ⟨_, rfl, ?_⟩
  rw [e1, List.take_length, List.drop_length, List.append_nil]
theorem Zs8 (C : Nat) (hC : q.2.2 = (C : Int)) (hC2 : C <= 1000) (k fr : List RunT) (hk : k.length <= C) (hfr : ∀ r ∈ fr, P' r) (hn : fr.length <= 3000) :
  feedM_w1 (false, (fr.length : Int), 0, M, q.1, q.2.1, q.2.2, fr, [], k, ()) = some (decide (C < (k ++ fr.filter fun r => !g r).length), M, q.1, q.2.1, q.2.2, (fr.filter en).map prR, (k ++ fr.filter fun r => !g r).take C, ()) := by
 suffices hh : ∃ z, feedM_w1 (false, (fr.length : Int), 0, M, q.1, q.2.1, q.2.2, fr, [], k, ()) = some z /\ z = (decide (C < (k ++ fr.filter fun r => !g r).length), M, q.1, q.2.1, q.2.2, (fr.filter en).map prR, (k ++ fr.filter fun r => !g r).take C, ()) by
  obtain ⟨z, hz, rfl⟩ := hh
  exact hz
 refine Zao (step := fun x => (Zhn x).run) (Q := fun _ z => z = (decide (C < (k ++ fr.filter fun r => !g r).length), M, q.1, q.2.1, q.2.2, (fr.filter en).map prR, (k ++ fr.filter fun r => !g r).take C, ()))
  (fun y => ∃ i : Nat, y = (decide (C < (k ++ (fr.take i).filter fun r => !g r).length), (fr.length : Int), (i : Int), M, q.1, q.2.1, q.2.2, fr, ((fr.take i).filter en).map prR, (k ++ (fr.take i).filter fun r => !g r).take C, ()) /\ i <= fr.length /\ ((fr.take i).filter en).length <= i) (fun y => ((fr.length : Int) - y.2.2.1).toNat) ?_ _ ⟨0, by
   simp only [List.take_zero, List.filter_nil, List.append_nil, List.map_nil, List.take_of_length_le hk, decide_eq_false (show ¬ C < k.length by omega)]
   rfl, by omega, by simp⟩
 rintro y ⟨i, rfl, h1, h2⟩
 obtain ⟨j, h0, rfl⟩ : ∃ j : Int, 0 <= j /\ i = j.toNat := ⟨(i : Int), by omega, by omega⟩
 rw [Int.toNat_of_nonneg h0]
 unfold Zhn
 dsimp only
 by_cases hi : j < (fr.length : Int)
 ·have hw : IntKind.wrap .i64 (j + 1) = ((j.toNat + 1 : Nat) : Int) := by rw [Go.PI.wrap_small (by omega) (by omega)]; omega
  have hlt : j.toNat < fr.length := by omega
  have hm : fr.getD j.toNat ((0, [], [], 0, (0, 0, 0), false) : RunT) ∈ fr := by rw [Za1 _ _ _ hlt]; exact List.getElem_mem _
  have hP := hfr _ hm
  have k1 := Zew en fr ((0, [], [], 0, (0, 0, 0), false) : RunT) j.toNat hlt
  have k2 := Zew (fun r => !g r) fr ((0, [], [], 0, (0, 0, 0), false) : RunT) j.toNat hlt
  have a1 := F.ends _ hP
  have a2 := F.dead _ hP
  have a3 := Zq2 _ (F.len _ hP)
  generalize fr.getD j.toNat ((0, [], [], 0, (0, 0, 0), false) : RunT) = r at *
  generalize hX : (fr.take j.toNat).filter en = X at *
  generalize hY : ((fr.take j.toNat).filter fun r => !g r) = Y at *
  have hb : ((X.map prR).length + List.length (List.set (List.replicate 1 ([] : List Prs)) 0 (prR r))) * 24 <= 140737488355328 := by
   rw [List.length_map]
   show (X.length + 1) * 24 <= _
   omega
  have eA : X.map prR ++ List.set (List.replicate 1 ([] : List Prs)) 0 (prR r) = X.map prR ++ [prR r] := rfl
  have eB : ∀ Z : List RunT, Z ++ List.set (List.replicate 1 ((0, [], [], 0, (0, 0, 0), false) : RunT)) 0 r = Z ++ [r] := fun Z => rfl
  have hlen : ((k ++ Y).take C).length <= 1000 := by rw [List.length_take]; omega
  have hb2 : (((k ++ Y).take C).length + List.length (List.set (List.replicate 1 ((0, [], [], 0, (0, 0, 0), false) : RunT)) 0 r)) * 64 <= 140737488355328 := by
   show (((k ++ Y).take C).length + 1) * 64 <= _
   omega
  have step : ∀ (lo : Bool) (out : List (List Prs)) (row : List RunT), lo = decide (C < (k ++ (if (!g r) = true then Y ++ [r] else Y)).length) -> out = (if en r = true then X ++ [r] else X).map prR -> row = (k ++ (if (!g r) = true then Y ++ [r] else Y)).take C ->
    (∃ x', (some (Sum.inl (lo, (fr.length : Int), ((j.toNat + 1 : Nat) : Int), M, q.1, q.2.1, q.2.2, fr, out, row, ())) : Option (_ ⊕ (Bool × (MkT × (List Elm × (Int × (Int × (List (List Prs) × (List RunT × Unit))))))))) = some (.inl x') /\ (∃ i : Nat, x' = (decide (C < (k ++ (fr.take i).filter fun r => !g r).length), (fr.length : Int), (i : Int), M, q.1, q.2.1, q.2.2, fr, ((fr.take i).filter en).map prR, (k ++ (fr.take i).filter fun r => !g r).take C, ()) /\ i <= fr.length /\ ((fr.take i).filter en).length <= i) /\ ((fr.length : Int) - x'.2.2.1).toNat < ((fr.length : Int) - j).toNat /\
     ∀ z, z = (decide (C < (k ++ fr.filter fun r => !g r).length), M, q.1, q.2.1, q.2.2, (fr.filter en).map prR, (k ++ fr.filter fun r => !g r).take C, ()) -> z = (decide (C < (k ++ fr.filter fun r => !g r).length), M, q.1, q.2.1, q.2.2, (fr.filter en).map prR, (k ++ fr.filter fun r => !g r).take C, ())) := by
   rintro lo out row rfl rfl rfl
   refine ⟨_, rfl, ⟨j.toNat + 1, ?_, by omega, ?_⟩, by dsimp only; omega, fun z hz => hz⟩
   ·rw [k1, k2]
    cases g r <;> cases en r <;> simp
   ·rw [k1]
    cases en r
    ·simp; omega
    ·simp; omega
  have hcond : ∀ (c : Bool), c = decide ((((k ++ Y).take C).length : Int) >= q.2.2) -> (c = true -> (k ++ (Y ++ [r])).take C = (k ++ Y).take C /\ true = decide (C < (k ++ (Y ++ [r])).length)) /\ (c = false -> (k ++ (Y ++ [r])).take C = (k ++ Y).take C ++ [r] /\ decide (C < (k ++ Y).length) = decide (C < (k ++ (Y ++ [r])).length)) := by
   rintro c rfl
   have hl1 : ((k ++ Y).take C).length = min C (k ++ Y).length := List.length_take
   have hl2 : (k ++ (Y ++ [r])).length = (k ++ Y).length + 1 := by simp; omega
   constructor
   ·intro hc
    have hc := of_decide_eq_true hc
    refine ⟨?_, ?_⟩
    ·rw [<- List.append_assoc, List.take_append_of_le_length (by omega)]
    ·exact (decide_eq_true (by omega)).symm
   ·intro hc
    have hc := of_decide_eq_false hc
    refine ⟨?_, ?_⟩
    ·rw [<- List.append_assoc, List.take_of_length_le (by rw [List.length_append, List.length_singleton]; omega), List.take_of_length_le (by omega)]
    ·rw [decide_eq_false (by omega), decide_eq_false (by omega)]
  cases c1 : en r
  ·cases c2 : g r
   ·cases c3 : decide ((((k ++ Y).take C).length : Int) >= q.2.2)
    ·have hc := (hcond _ rfl).2 c3
     simp only [Br.run, decide_eq_true hi, decide_eq_true h0, Bool.and_self, cond_true, cond_false, hw, a1, a2, c1, c2, c3, eB]
     rw [decide_eq_true hb2, cond_true]
     exact .inl (step _ _ _ (by rw [c2]; exact hc.2) (by rw [c1]; rfl) (by rw [c2]; exact hc.1.symm))
    ·have hc := (hcond _ rfl).1 c3
     simp only [Br.run, decide_eq_true hi, decide_eq_true h0, Bool.and_self, cond_true, cond_false, hw, a1, a2, c1, c2, c3]
     exact .inl (step _ _ _ (by rw [c2]; exact hc.2) (by rw [c1]; rfl) (by rw [c2]; exact hc.1.symm))
   ·simp only [Br.run, decide_eq_true hi, decide_eq_true h0, Bool.and_self, cond_true, cond_false, hw, a1, a2, c1, c2]
    exact .inl (step _ _ _ (by rw [c2]; rfl) (by rw [c1]; rfl) (by rw [c2]; rfl))
  ·cases c2 : g r
   ·cases c3 : decide ((((k ++ Y).take C).length : Int) >= q.2.2)
    ·have hc := (hcond _ rfl).2 c3
     simp only [Br.run, decide_eq_true hi, decide_eq_true h0, Bool.and_self, cond_true, cond_false, hw, a1, a2, a3, c1, c2, c3, decide_eq_true hb, eA, eB]
     rw [decide_eq_true hb2, cond_true]
     exact .inl (step _ _ _ (by rw [c2]; exact hc.2) (by rw [c1, if_pos rfl, List.map_append]; rfl) (by rw [c2]; exact hc.1.symm))
    ·have hc := (hcond _ rfl).1 c3
     simp only [Br.run, decide_eq_true hi, decide_eq_true h0, Bool.and_self, cond_true, cond_false, hw, a1, a2, a3, c1, c2, c3, decide_eq_true hb, eA]
     exact .inl (step _ _ _ (by rw [c2]; exact hc.2) (by rw [c1, if_pos rfl, List.map_append]; rfl) (by rw [c2]; exact hc.1.symm))
   ·simp only [Br.run, decide_eq_true hi, decide_eq_true h0, Bool.and_self, cond_true, cond_false, hw, a1, a2, a3, c1, c2, decide_eq_true hb, eA]
    exact .inl (step _ _ _ (by rw [c2]; rfl) (by rw [c1, if_pos rfl, List.map_append]; rfl) (by rw [c2]; rfl))
 ·simp only [Br.run, decide_eq_false hi, cond_false]
  have e1 : j.toNat = fr.length := by omega
  refine .inr ⟨_, rfl, ?_⟩
  rw [e1, List.take_length]
noncomputable def ZfD (f g : RunT -> Bool) (be : RunT -> RunT) (l : List RunT) : List RunT := ((l.filter fun r => !(f r || g r)).map be).filter fun r => !(f r || g r)
theorem feedM_at (hM : M.isNone = false) (C : Nat) (hC : q.2.2 = (C : Int)) (hC2 : C <= 1000) (l : List RunT) (hl : ∀ r ∈ l, P r) (hn : l.length <= C) :
  feedM ((M, q, l), e, ()) = some ((sorted Zat (((ZdO mo (l.filter fun r => !(f r || g r))).filter en).map prR), decide (C < (ZfD f g be l ++ (ZdO mo (l.filter fun r => !(f r || g r))).filter fun r => !g r).length)),
   (M, q, (ZfD f g be l ++ (ZdO mo (l.filter fun r => !(f r || g r))).filter fun r => !g r).take C), ()) := by
 have x1 := Zku (M := M) (q := q) (t := e.2.2.1) (l := l) (f := f) (g := g) (fun r hr => F.over r (F.up r (hl r hr))) (fun r hr => F.dead r (F.up r (hl r hr))) (by omega)
 have p1 : ∀ r ∈ (l.filter fun r => !(f r || g r)), P r := fun r hr => hl r (List.mem_filter.1 hr).1
 have n1 : (l.filter fun r => !(f r || g r)).length <= l.length := List.length_filter_le ..
 unfold ZfD ZdO
 generalize hA : (l.filter fun r => !(f r || g r)) = A at *
 have x2 := ZtY F A p1 (by omega)
 have p2 : ∀ r ∈ A.map be, P r := fun r hr => by
  obtain ⟨u, hu, rfl⟩ := List.mem_map.1 hr
  exact F.behP u (p1 u hu)
 have x3 := Zku (M := M) (q := q) (t := e.2.2.1) (l := A.map be) (f := f) (g := g) (fun r hr => F.over r (F.up r (p2 r hr))) (fun r hr => F.dead r (F.up r (p2 r hr))) (by rw [List.length_map]; omega)
 have n2 : ((A.map be).filter fun r => !(f r || g r)).length <= C := Nat.le_trans (List.length_filter_le ..) (by rw [List.length_map]; omega)
 have n3 : (A.flatMap mo).length <= 2 * A.length := by
  clear x1 x2 x3 p2 n1 n2 hA
  induction A with
  | nil => simp
  | cons a A ih =>
   have := F.two a (.inl (p1 a List.mem_cons_self))
   have ih := ih fun r hr => p1 r (List.mem_cons_of_mem _ hr)
   rw [List.flatMap_cons, List.length_append, List.length_cons]
   omega
 have n4 := F.two ((0, [], [], 0, (0, 0, 0), false) : RunT) (.inr rfl)
 have n5 : (A.flatMap mo ++ mo ((0, [], [], 0, (0, 0, 0), false) : RunT)).length <= 3000 := by rw [List.length_append]; omega
 have p3 : ∀ r ∈ A.flatMap mo ++ mo ((0, [], [], 0, (0, 0, 0), false) : RunT), P' r := fun r hr => by
  rcases List.mem_append.1 hr with h | h
  ·obtain ⟨u, hu, hv⟩ := List.mem_flatMap.1 h
   exact F.keep u (.inl (p1 u hu)) r hv
  ·exact F.keep ((0, [], [], 0, (0, 0, 0), false) : RunT) (.inr rfl) r h
 have x4 := Zs8 F C hC hC2 _ _ n2 p3 n5
 have hb : ((A.flatMap mo).length + (mo ((0, [], [], 0, (0, 0, 0), false) : RunT)).length) * 64 <= 140737488355328 := by rw [List.length_append] at n5; omega
 have x5 : ZhS (((A.flatMap mo ++ mo ((0, [], [], 0, (0, 0, 0), false) : RunT)).filter en).map prR) ((), ()) = some (sorted Zat (((A.flatMap mo ++ mo ((0, [], [], 0, (0, 0, 0), false) : RunT)).filter en).map prR)) := by
  have : (((A.flatMap mo ++ mo ((0, [], [], 0, (0, 0, 0), false) : RunT)).filter en).map prR).length < 4611686018427387904 := by
   rw [List.length_map]
   exact Nat.lt_of_le_of_lt (List.length_filter_le ..) (by omega)
  unfold ZhS
  rw [decide_eq_true this]
  rfl
 unfold feedM Zs1
 have x1' : expireM ((M, (q.1, q.2.1, q.2.2), l), e.2.2.1, ()) = some ((), (M, q, A), ()) := x1
 have x3' : expireM ((M, (q.1, q.2.1, q.2.2), A.map be), e.2.2.1, ()) = some ((), (M, q, (A.map be).filter fun r => !(f r || g r)), ()) := x3
 simp only [Br.run, hM, cond_false, x1', x2, F.zero, decide_eq_true hb, cond_true, x3', x4, x5]
end
end Go.Proofs.YtkbdofnbagmlfaaGreat
