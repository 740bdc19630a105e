/- Contracts of functions. Printed by auto.py. Contracts of functions. Printed by auto.py. Twins of functions that the kernel reckons. Printed by twin.py. Contracts of functions. Printed by auto.py. Chains of pairs and of bound events: one more. A context: events made, beside the chains. Contracts of functions. Printed by auto.py. Abbreviations of types, for the printed texts. Contracts of functions. Printed by auto.py. List's contract, of a chain of bound events. A context: chains' lists, events, runs. Contracts of functions. Printed by auto.py. Contracts of functions. Printed by auto.py. The context of law 23's first statement. Contracts of functions. Printed by auto.py. Contracts of functions. Printed by auto.py. Abbreviations of types, for the printed texts. Contracts of functions. Printed by auto.py. Contracts of functions. Printed by auto.py. -/
import Derived.Test.YtiblijkhpmemeaaHa
import Derived.Test.YtiblijkhpmemeaaHb
import Derived.Test.YtiblijkhpmemeaaW1
import Derived.Test.YtiblijkhpmemeaaGe
namespace Go.Proofs.Ytiblijkhpmemeaa
open Go.PI Go
end Go.Proofs.Ytiblijkhpmemeaa

namespace Go.Proofs.Ytiblijkhpmemeaa
open Go.PI Go
end Go.Proofs.Ytiblijkhpmemeaa

namespace Go.Proofs.Ytiblijkhpmemeaa
open Go.PI Go
end Go.Proofs.Ytiblijkhpmemeaa

namespace Go.Proofs.Ytiblijkhpmemeaa
open Go.PI Go
noncomputable def cx_lenP : Ctx := cx_holdsF
theorem en_lenP : EnvFull Try.prog cx_lenP := (en_holdsF)
noncomputable def cx_lenB : Ctx := cx_lenP
theorem en_lenB : EnvFull Try.prog cx_lenB := (en_lenP)
noncomputable def cx_newestP : Ctx := cx_lenB
theorem en_newestP : EnvFull Try.prog cx_newestP := (en_lenB)
noncomputable def cx_linkP : Ctx := cx_newestP
theorem en_linkP : EnvFull Try.prog cx_linkP := (en_newestP)
noncomputable def cx_linkB : Ctx := cx_linkP
theorem en_linkB : EnvFull Try.prog cx_linkB := (en_linkP)
end Go.Proofs.Ytiblijkhpmemeaa

namespace Go.Proofs.Ytiblijkhpmemeaa
open Go.PI Go
noncomputable def cx_withP : Ctx := cx_linkB
theorem en_withP : EnvFull Try.prog cx_withP := en_linkB
noncomputable def cx_withB : Ctx := cx_withP
theorem en_withB : EnvFull Try.prog cx_withB := en_withP
end Go.Proofs.Ytiblijkhpmemeaa

namespace Go.Proofs.Ytiblijkhpmemeaa
open Go.PI Go
noncomputable def cxM1 : Ctx := cx_withB
theorem enM1 : EnvFull Try.prog cxM1 := en_withB
end Go.Proofs.Ytiblijkhpmemeaa

namespace Go.Proofs.Ytiblijkhpmemeaa
set_option maxRecDepth 100000
open Go.PI Go
noncomputable def stampE_B : (zA2 × (Int × Unit)) → Br ((Int × (Int × Int)) × Unit) := fun (p0, p1, ()) =>
 (.ret ((p0.2.2.1, p0.2.2.2.1, p1), ()))
noncomputable def stampE : (zA2 × (Int × Unit)) → Option ((Int × (Int × Int)) × Unit) := fun x => (stampE_B x).run
abbrev stampE_ins : List (Bool × Pat) := [(false, .ty true zA9), (false, .ty false (.int .i64))]
abbrev stampE_outs : List Pat := [.ty false (.st (.pair (.int .i64) (.pair (.int .i64) (.int .i64))))]
noncomputable abbrev stampE_f : Func := Try.f51
noncomputable abbrev stampE_P : Program := Try.prog
noncomputable def stampE_c : Ctx := { cxM1 with base := 1024 }
theorem stampE_env : EnvFull stampE_P stampE_c := env_base (enM1) 1024
noncomputable def stampE_p : Par := { sh := fun _ => none, k := 0, lo := fun _ => none }
theorem stampE_eq (p0 : zA2) (p1 : Int) : ocRun stampE_c stampE_p stampE_f stampE_ins stampE_outs (p0, p1, ()) = stampE_B (p0, p1, ()) := by kernel_rfl
theorem stampE_oc : OC stampE_P 51 stampE_ins stampE_outs stampE := OC.of_tree stampE_env Try.func51 (by kernel_rfl) (by kernel_rfl) (p := stampE_p) (fun g hg => LoOk.of (l := []) (by kernel_rfl) .nil) (fun (p0, p1, ()) => stampE_eq p0 p1)
noncomputable def cx_stampE : Ctx := addO cxM1 51 (ocOrc stampE_ins stampE_outs stampE)
theorem en_stampE : EnvFull Try.prog cx_stampE := env_add (enM1) stampE_oc.callOk
noncomputable def cx_cloneVal : Ctx := cx_stampE
theorem en_cloneVal : EnvFull Try.prog cx_cloneVal := (en_stampE)
noncomputable def cx_copyE : Ctx := cx_cloneVal
theorem en_copyE : EnvFull Try.prog cx_copyE := (en_cloneVal)
noncomputable def cx_runLen : Ctx := cx_copyE
theorem en_runLen : EnvFull Try.prog cx_runLen := (en_copyE)
noncomputable def cx_runWith : Ctx := cx_runLen
theorem en_runWith : EnvFull Try.prog cx_runWith := (en_runLen)
noncomputable def cx_runElem : Ctx := cx_runWith
theorem en_runElem : EnvFull Try.prog cx_runElem := (en_runWith)
noncomputable def idxStr_l0 : ((List ByteArray) × (ByteArray × (Int × (Int × Unit)))) → Br (((List ByteArray) × (ByteArray × (Int × (Int × Unit)))) ⊕ ((Int × Unit) ⊕ Unit)) := fun (a, b, c, d, ()) =>
 (.cond (decide (d < c))
 (.cond (decide (0 ≤ d) && decide (d < (↑(List.length a) : Int)))
 (.cond (bl b == bl (List.getD a (Int.toNat d) ByteArray.empty))
 (.ret (.inr (.inl (d, ()))))
 (.ret (.inl (a, b, c, IntKind.wrap .i64 (d + 1), ()))))
 (.no))
 (.ret (.inr (.inr (())))))
noncomputable def idxStr_w0 : ((List ByteArray) × (ByteArray × (Int × (Int × Unit)))) → Option ((Int × Unit) ⊕ Unit) := iterO fun x => (idxStr_l0 x).run
noncomputable def idxStr_B : ((List ByteArray) × (ByteArray × Unit)) → Br (Int × Unit) := fun (p0, p1, ()) =>
 (.opt (idxStr_w0 (p0, p1, (↑(List.length p0) : Int), 0, ())) fun a =>
 (.sum a (fun b =>
 (.ret (b.1, ()))) (fun c =>
 (.ret (-1, ())))))
noncomputable def idxStr : ((List ByteArray) × (ByteArray × Unit)) → Option (Int × Unit) := fun x => (idxStr_B x).run
abbrev idxStr_ins : List (Bool × Pat) := [(false, .ty true (.sl .str)), (false, .ty false .str)]
abbrev idxStr_outs : List Pat := [.ty false (.int .i64)]
noncomputable abbrev idxStr_f : Func := Try.f63
noncomputable abbrev idxStr_P : Program := Try.prog
abbrev idxStr_kp : List Nat := kpOf idxStr_ins
abbrev idxStr_kf : List Nat := kfOf idxStr_ins
noncomputable def idxStr_c : Ctx := { cx_runElem with base := 1024 }
theorem idxStr_env : EnvFull idxStr_P idxStr_c := env_base (en_runElem) 1024
abbrev idxStr_H0 : List Hole := [.slot 0 true (.sl .str), .slot 1 false .str, .slot 7 false (.int .i64), .slot 8 false (.int .i64)]
def idxStr_S0 : Skel := ⟨19, [], []⟩
abbrev idxStr_H0e0 : List Hole := [.slot 4 false (.int .i64)]
def idxStr_S0e0 : Skel := ⟨19, [], []⟩
abbrev idxStr_H0e1 : List Hole := []
def idxStr_S0e1 : Skel := ⟨19, [], []⟩
def idxStr_h0 : Exit → Shape
 | .normal => ⟨[(0, .as true (.sl .str)), (1, .as false .str), (7, .as false (.int .i64)), (8, .as false (.int .i64))], [], []⟩
 | .ret => ⟨[(4, .as false (.int .i64))], [], []⟩
 | .exit 0 => ⟨[], [], []⟩
 | _ => ⟨[], [], []⟩
def idxStr_e0 : ((Int × Unit) ⊕ Unit) → Exit × St
 | (.inl u) => (.ret, idxStr_S0e0.fillK idxStr_kf idxStr_H0e0 u)
 | (.inr u) => (.exit 0, idxStr_S0e1.fillK idxStr_kf idxStr_H0e1 u)
def idxStr_t0 : ((Int × Unit) ⊕ Unit) → Br (Exit × St) := fun z => .sum z (fun u => .ret (.ret, idxStr_S0e0.fillK idxStr_kf idxStr_H0e0 u)) (fun u => .ret (.exit 0, idxStr_S0e1.fillK idxStr_kf idxStr_H0e1 u))
noncomputable def idxStr_C0 : Code := loopAt 0 (bodyOf idxStr_f)
noncomputable def idxStr_o0 : St → Br (Exit × St) := loopF idxStr_kp idxStr_kf 1024 (idxStr_h0 .normal) (idxStr_S0.parseK idxStr_kf idxStr_H0) fun x => .opt (idxStr_w0 x) idxStr_t0
noncomputable def idxStr_p : Par := { sh := fun _ => none, k := 0, lo := fun i => bif Nat.beq i 2 then some idxStr_o0 else none }
theorem idxStr_r0 (a : (List ByteArray)) (b : ByteArray) (c : Int) (d : Int) : roundF idxStr_kp idxStr_kf idxStr_c idxStr_p idxStr_h0 idxStr_C0 (idxStr_S0.fillK idxStr_kf idxStr_H0 (a, b, c, d, ())) = (idxStr_l0 (a, b, c, d, ())).bind (loopLeaf (fun x => idxStr_S0.fillK idxStr_kf idxStr_H0 x) idxStr_e0) := by kernel_rfl
theorem idxStr_ok0 (g : Cfg) (hg : ∀ n, Go.PI.look n g.m0 ≠ Option.none → n ∈ idxStr_kp) : LoopOk idxStr_P g idxStr_o0 idxStr_C0 := LoopOk.auto idxStr_env hg idxStr_p (LoOk.of (l := []) (by kernel_rfl) .nil) idxStr_h0 (fun x => idxStr_S0.fillK idxStr_kf idxStr_H0 x) (fun s x h => Skel.parseK_ok s x h) idxStr_l0 idxStr_e0 (fun z h => by rcases z with z | z <;> cases h) idxStr_t0 (fun z => by rcases z with z | z <;> rfl) (fun (a, b, c, d, ()) => idxStr_r0 a b c d)
theorem idxStr_eq (p0 : (List ByteArray)) (p1 : ByteArray) : ocRun idxStr_c idxStr_p idxStr_f idxStr_ins idxStr_outs (p0, p1, ()) = idxStr_B (p0, p1, ()) := by kernel_rfl
theorem idxStr_oc : OC idxStr_P 63 idxStr_ins idxStr_outs idxStr := OC.of_tree idxStr_env Try.func63 (by kernel_rfl) (by kernel_rfl) (p := idxStr_p) (fun g hg => LoOk.of (l := [idxStr_C0]) (by kernel_rfl) (.cons (idxStr_ok0 g hg) (by kernel_rfl) .nil)) (fun (p0, p1, ()) => idxStr_eq p0 p1)
noncomputable def cx_idxStr : Ctx := addO cx_runElem 63 (ocOrc idxStr_ins idxStr_outs idxStr)
theorem en_idxStr : EnvFull Try.prog cx_idxStr := env_add (en_runElem) idxStr_oc.callOk
noncomputable def hasStr_B : ((List ByteArray) × (ByteArray × Unit)) → Br (Bool × Unit) := fun (p0, p1, ()) =>
 (.opt (idxStr (p0, p1, ())) fun y3 =>
 (.ret (decide (y3.1 ≥ 0), ())))
noncomputable def hasStr : ((List ByteArray) × (ByteArray × Unit)) → Option (Bool × Unit) := fun x => (hasStr_B x).run
abbrev hasStr_ins : List (Bool × Pat) := [(false, .ty true (.sl .str)), (false, .ty false .str)]
abbrev hasStr_outs : List Pat := [.ty false .bool]
noncomputable abbrev hasStr_f : Func := Try.f44
noncomputable abbrev hasStr_P : Program := Try.prog
noncomputable def hasStr_c : Ctx := { cx_idxStr with base := 1024 }
theorem hasStr_env : EnvFull hasStr_P hasStr_c := env_base (en_idxStr) 1024
noncomputable def hasStr_p : Par := { sh := fun _ => none, k := 0, lo := fun _ => none }
theorem hasStr_eq (p0 : (List ByteArray)) (p1 : ByteArray) : ocRun hasStr_c hasStr_p hasStr_f hasStr_ins hasStr_outs (p0, p1, ()) = hasStr_B (p0, p1, ()) := by kernel_rfl
theorem hasStr_oc : OC hasStr_P 44 hasStr_ins hasStr_outs hasStr := OC.of_tree hasStr_env Try.func44 (by kernel_rfl) (by kernel_rfl) (p := hasStr_p) (fun g hg => LoOk.of (l := []) (by kernel_rfl) .nil) (fun (p0, p1, ()) => hasStr_eq p0 p1)
noncomputable def cx_hasStr : Ctx := addO cx_idxStr 44 (ocOrc hasStr_ins hasStr_outs hasStr)
theorem en_hasStr : EnvFull Try.prog cx_hasStr := env_add (en_idxStr) hasStr_oc.callOk
noncomputable def betwQ_l0 : (Int × (Int × (zA10 × ((List Int) × Unit)))) → Br ((Int × (Int × (zA10 × ((List Int) × Unit)))) ⊕ ((List Int) × Unit)) := fun (a, b, c, d, ()) =>
 (.cond (decide (b < (↑(List.length c.1) : Int)))
 (.cond (decide (a < (↑(List.length c.1) : Int)))
 (.cond (decide (0 ≤ b) && decide (b < (↑(List.length c.1) : Int)))
 (.cond (List.getD c.1 (Int.toNat b) zV2).2.2.1
 (.cond (decide ((List.length d + List.length (List.set (List.replicate 1 0) 0 b)) * 8 ≤ 140737488355328))
 (.ret (.inl (a, IntKind.wrap .i64 (b + 1), c, d ++ List.set (List.replicate 1 0) 0 b, ())))
 (.no))
 (.ret (.inr (d, ()))))
 (.no))
 (.ret (.inr (d, ()))))
 (.ret (.inr (d, ()))))
noncomputable def betwQ_w0 : (Int × (Int × (zA10 × ((List Int) × Unit)))) → Option ((List Int) × Unit) := iterO fun x => (betwQ_l0 x).run
noncomputable def betwQ_B : (zA10 × (Int × Unit)) → Br ((List Int) × Unit) := fun (p0, p1, ()) =>
 (.opt (betwQ_w0 (p1, if IntKind.wrap .i64 (p1 + 1) < 0 then 0 else IntKind.wrap .i64 (p1 + 1), p0, [], ())) fun a =>
 (.ret (a.1, ())))
noncomputable def betwQ : (zA10 × (Int × Unit)) → Option ((List Int) × Unit) := fun x => (betwQ_B x).run
abbrev betwQ_ins : List (Bool × Pat) := [(false, .ty true zA5), (false, .ty false (.int .i64))]
abbrev betwQ_outs : List Pat := [.ty false (.sl (.int .i64))]
noncomputable abbrev betwQ_f : Func := Try.f47
noncomputable abbrev betwQ_P : Program := Try.prog
abbrev betwQ_kp : List Nat := kpOf betwQ_ins
abbrev betwQ_kf : List Nat := kfOf betwQ_ins
noncomputable def betwQ_c : Ctx := { cx_hasStr with base := 1024 }
theorem betwQ_env : EnvFull betwQ_P betwQ_c := env_base (en_hasStr) 1024
abbrev betwQ_H0 : List Hole := [.slot 1 false (.int .i64), .slot 6 false (.int .i64), .tv 1026 true zA5, .ar 1724 false 3 (.int .i64)]
def betwQ_S0 : Skel := ⟨37, [(2, D.c (C.ref 1026 0 0)), (5, .c (.mfull 1724))], [(1026, []), (1724, [])]⟩
abbrev betwQ_H0e0 : List Hole := [.ar 1725 false 3 (.int .i64)]
def betwQ_S0e0 : Skel := ⟨37, [(5, .c (.mfull 1725))], [(1725, [])]⟩
def betwQ_h0 : Exit → Shape
 | .normal => ⟨[(1, .as false (.int .i64)), (2, .keep), (5, .row 700 false 3 (.int .i64)), (6, .as false (.int .i64))], [], [(2, true), (700, false)]⟩
 | .exit 0 => ⟨[(5, .row 701 false 3 (.int .i64))], [], [(701, false)]⟩
 | _ => ⟨[], [], []⟩
def betwQ_e0 : ((List Int) × Unit) → Exit × St
 | u => (.exit 0, betwQ_S0e0.fillK betwQ_kf betwQ_H0e0 u)
def betwQ_t0 : ((List Int) × Unit) → Br (Exit × St) := fun u => .ret (.exit 0, betwQ_S0e0.fillK betwQ_kf betwQ_H0e0 u)
noncomputable def betwQ_C0 : Code := loopAt 0 (bodyOf betwQ_f)
noncomputable def betwQ_o0 : St → Br (Exit × St) := loopF betwQ_kp betwQ_kf 1024 (betwQ_h0 .normal) (betwQ_S0.parseK betwQ_kf betwQ_H0) fun x => .opt (betwQ_w0 x) betwQ_t0
noncomputable def betwQ_p : Par := { sh := fun _ => none, k := 0, lo := fun i => bif Nat.beq i 3 then some betwQ_o0 else none }
theorem betwQ_r0 (a : Int) (b : Int) (c : zA10) (d : (List Int)) : roundF betwQ_kp betwQ_kf betwQ_c betwQ_p betwQ_h0 betwQ_C0 (betwQ_S0.fillK betwQ_kf betwQ_H0 (a, b, c, d, ())) = (betwQ_l0 (a, b, c, d, ())).bind (loopLeaf (fun x => betwQ_S0.fillK betwQ_kf betwQ_H0 x) betwQ_e0) := by kernel_rfl
theorem betwQ_ok0 (g : Cfg) (hg : ∀ n, Go.PI.look n g.m0 ≠ Option.none → n ∈ betwQ_kp) : LoopOk betwQ_P g betwQ_o0 betwQ_C0 := LoopOk.auto betwQ_env hg betwQ_p (LoOk.of (l := []) (by kernel_rfl) .nil) betwQ_h0 (fun x => betwQ_S0.fillK betwQ_kf betwQ_H0 x) (fun s x h => Skel.parseK_ok s x h) betwQ_l0 betwQ_e0 (fun _ h => by cases h) betwQ_t0 (fun _ => rfl) (fun (a, b, c, d, ()) => betwQ_r0 a b c d)
theorem betwQ_eq (p0 : zA10) (p1 : Int) : ocRun betwQ_c betwQ_p betwQ_f betwQ_ins betwQ_outs (p0, p1, ()) = betwQ_B (p0, p1, ()) := by kernel_rfl
theorem betwQ_oc : OC betwQ_P 47 betwQ_ins betwQ_outs betwQ := OC.of_tree betwQ_env Try.func47 (by kernel_rfl) (by kernel_rfl) (p := betwQ_p) (fun g hg => LoOk.of (l := [betwQ_C0]) (by kernel_rfl) (.cons (betwQ_ok0 g hg) (by kernel_rfl) .nil)) (fun (p0, p1, ()) => betwQ_eq p0 p1)
noncomputable def cx_betwQ : Ctx := addO cx_hasStr 47 (ocOrc betwQ_ins betwQ_outs betwQ)
theorem en_betwQ : EnvFull Try.prog cx_betwQ := env_add (en_hasStr) betwQ_oc.callOk
end Go.Proofs.Ytiblijkhpmemeaa

namespace Go.Proofs.Ytiblijkhpmemeaa
open Go.PI Go
abbrev zT2 : Type := (List (Int × Int)) × (Int × Unit)
abbrev zT6 : Type := Int × (Int × (zA10 × Unit))
abbrev zT5 : Type := (Option zA11) × ((List zA2) × ((List (Int × Int)) × (Int × (Int × (Int × ((List Int) × zT6))))))
abbrev zT8 : Type := (Option zA11) × ((List zA2) × ((List (Int × Int)) × ((List (Int × Int)) × zT6)))
abbrev zT9 : Type := (List zA2) × ((List (Int × Int)) × (zA10 × Unit))
abbrev zT10 : Type := (List zA2) × ((List (Int × Int)) × (Int × (Int × zT6)))
abbrev zT11 : Type := (Option zA11) × ((List zA2) × ((List (Int × Int)) × (Int × (Int × (Int × (Int × (Int × ((List Int) × zT6))))))))
abbrev zT12 : Type := (List zA2) × (Int × ((List (Int × Int)) × (Int × (Int × (zA10 × (zA21 × Unit))))))
end Go.Proofs.Ytiblijkhpmemeaa

namespace Go.Proofs.Ytiblijkhpmemeaa
open Go.PI Go
end Go.Proofs.Ytiblijkhpmemeaa

namespace Go.Proofs.Ytiblijkhpmemeaa
open Go.PI Go
end Go.Proofs.Ytiblijkhpmemeaa

namespace Go.Proofs.Ytiblijkhpmemeaa
open Go.PI Go
noncomputable def cxN1 : Ctx := cx_betwQ
theorem enN1 : EnvFull Try.prog cxN1 := en_betwQ
noncomputable def cxN2 : Ctx := cxN1
theorem enN2 : EnvFull Try.prog cxN2 := enN1
end Go.Proofs.Ytiblijkhpmemeaa

namespace Go.Proofs.Ytiblijkhpmemeaa
open Go.PI Go
noncomputable def cx_envR : Ctx := cxN2
theorem en_envR : EnvFull Try.prog cx_envR := (enN2)
noncomputable def cx_fitsG : Ctx := cx_envR
theorem en_fitsG : EnvFull Try.prog cx_fitsG := (en_envR)
noncomputable def cx_blocksG : Ctx := cx_fitsG
theorem en_blocksG : EnvFull Try.prog cx_blocksG := (en_fitsG)
end Go.Proofs.Ytiblijkhpmemeaa

namespace Go.Proofs.Ytiblijkhpmemeaa
open Go.PI Go
end Go.Proofs.Ytiblijkhpmemeaa

namespace Go.Proofs.Ytiblijkhpmemeaa
open Go.PI Go
noncomputable def cxP1 : Ctx := addO cx_blocksG 13 (ocOrc newS_ins newS_outs newS)
theorem enP1 : EnvFull Try.prog cxP1 := env_add en_blocksG newS_oc.callOk
noncomputable def cxP2 : Ctx := cxP1
theorem enP2 : EnvFull Try.prog cxP2 := enP1
noncomputable def cxP3 : Ctx := cxP2
theorem enP3 : EnvFull Try.prog cxP3 := enP2
end Go.Proofs.Ytiblijkhpmemeaa

namespace Go.Proofs.Ytiblijkhpmemeaa
set_option maxRecDepth 100000
open Go.PI Go
noncomputable def cx_beforeE : Ctx := (cxP3)
theorem en_beforeE : EnvFull Try.prog cx_beforeE := ((enP3))
noncomputable def cx_sortE : Ctx := cx_beforeE
theorem en_sortE : EnvFull Try.prog cx_sortE := (en_beforeE)
noncomputable def cx_events20 : Ctx := cx_sortE
theorem en_events20 : EnvFull Try.prog cx_events20 := (en_sortE)
noncomputable def cx_ofS : Ctx := cx_events20
theorem en_ofS : EnvFull Try.prog cx_ofS := (en_events20)
noncomputable def cx_fits20 : Ctx := cx_ofS
theorem en_fits20 : EnvFull Try.prog cx_fits20 := (en_ofS)
noncomputable def cx_nextF : Ctx := cx_fits20
theorem en_nextF : EnvFull Try.prog cx_nextF := (en_fits20)
noncomputable def lessP_l0 : ((List (Int × Int)) × zT2) → Br (((List (Int × Int)) × zT2) ⊕ ((Bool × Unit) ⊕ ((List (Int × Int)) × zA31))) := fun (a, b, c, ()) =>
 (.cond (decide (c < (↑(List.length a) : Int)))
 (.cond (decide (c < (↑(List.length b) : Int)))
 (.cond (decide (0 ≤ c) && decide (c < (↑(List.length a) : Int)))
 (.cond (decide (0 ≤ c) && decide (c < (↑(List.length b) : Int)))
 (.cond ((List.getD a (Int.toNat c) (0, 0)).1 != (List.getD b (Int.toNat c) (0, 0)).1)
 (.cond (decide (0 ≤ c) && decide (c < (↑(List.length a) : Int)))
 (.cond (decide (0 ≤ c) && decide (c < (↑(List.length b) : Int)))
 (.ret (.inr (.inl (decide ((List.getD a (Int.toNat c) (0, 0)).1 < (List.getD b (Int.toNat c) (0, 0)).1), ()))))
 (.no))
 (.no))
 (.cond (decide (0 ≤ c) && decide (c < (↑(List.length a) : Int)))
 (.cond (decide (0 ≤ c) && decide (c < (↑(List.length b) : Int)))
 (.cond ((List.getD a (Int.toNat c) (0, 0)).2 != (List.getD b (Int.toNat c) (0, 0)).2)
 (.cond (decide (0 ≤ c) && decide (c < (↑(List.length a) : Int)))
 (.cond (decide (0 ≤ c) && decide (c < (↑(List.length b) : Int)))
 (.ret (.inr (.inl (decide ((List.getD a (Int.toNat c) (0, 0)).2 < (List.getD b (Int.toNat c) (0, 0)).2), ()))))
 (.no))
 (.no))
 (.ret (.inl (a, b, IntKind.wrap .i64 (c + 1), ()))))
 (.no))
 (.no)))
 (.no))
 (.no))
 (.ret (.inr (.inr (a, b, ())))))
 (.ret (.inr (.inr (a, b, ())))))
noncomputable def lessP_w0 : ((List (Int × Int)) × zT2) → Option ((Bool × Unit) ⊕ ((List (Int × Int)) × zA31)) := iterO fun x => (lessP_l0 x).run
noncomputable def lessP_B : ((List (Int × Int)) × zA31) → Br (Bool × Unit) := fun (p0, p1, ()) =>
 (.opt (lessP_w0 (p0, p1, 0, ())) fun a =>
 (.sum a (fun b =>
 (.ret (b.1, ()))) (fun c =>
 (.ret (decide ((↑(List.length c.1) : Int) < (↑(List.length c.2.1) : Int)), ())))))
noncomputable def lessP : ((List (Int × Int)) × zA31) → Option (Bool × Unit) := fun x => (lessP_B x).run
abbrev lessP_ins : List (Bool × Pat) := [(false, .ty true (.sl zA16)), (false, .ty true (.sl zA16))]
abbrev lessP_outs : List Pat := [.ty false .bool]
noncomputable abbrev lessP_f : Func := Try.f7
noncomputable abbrev lessP_P : Program := Try.prog
abbrev lessP_kp : List Nat := kpOf lessP_ins
abbrev lessP_kf : List Nat := kfOf lessP_ins
noncomputable def lessP_c : Ctx := { cx_nextF with base := 1024 }
theorem lessP_env : EnvFull lessP_P lessP_c := env_base (en_nextF) 1024
abbrev lessP_H0 : List Hole := [.slot 0 true (.sl zA16), .slot 1 true (.sl zA16), .slot 5 false (.int .i64)]
def lessP_S0 : Skel := ⟨67, [], []⟩
abbrev lessP_H0e0 : List Hole := [.slot 4 false .bool]
def lessP_S0e0 : Skel := ⟨67, [], []⟩
abbrev lessP_H0e1 : List Hole := [.slot 0 true (.sl zA16), .slot 1 true (.sl zA16)]
def lessP_S0e1 : Skel := ⟨67, [], []⟩
def lessP_h0 : Exit → Shape
 | .normal => ⟨[(0, .as true (.sl zA16)), (1, .as true (.sl zA16)), (5, .as false (.int .i64))], [], []⟩
 | .ret => ⟨[(4, .as false .bool)], [], []⟩
 | .exit 0 => ⟨[(0, .as true (.sl zA16)), (1, .as true (.sl zA16))], [], []⟩
 | _ => ⟨[], [], []⟩
def lessP_e0 : ((Bool × Unit) ⊕ ((List (Int × Int)) × zA31)) → Exit × St
 | (.inl u) => (.ret, lessP_S0e0.fillK lessP_kf lessP_H0e0 u)
 | (.inr u) => (.exit 0, lessP_S0e1.fillK lessP_kf lessP_H0e1 u)
def lessP_t0 : ((Bool × Unit) ⊕ ((List (Int × Int)) × zA31)) → Br (Exit × St) := fun z => .sum z (fun u => .ret (.ret, lessP_S0e0.fillK lessP_kf lessP_H0e0 u)) (fun u => .ret (.exit 0, lessP_S0e1.fillK lessP_kf lessP_H0e1 u))
noncomputable def lessP_C0 : Code := loopAt 0 (bodyOf lessP_f)
noncomputable def lessP_o0 : St → Br (Exit × St) := loopF lessP_kp lessP_kf 1024 (lessP_h0 .normal) (lessP_S0.parseK lessP_kf lessP_H0) fun x => .opt (lessP_w0 x) lessP_t0
noncomputable def lessP_p : Par := { sh := fun _ => none, k := 0, lo := fun i => bif Nat.beq i 2 then some lessP_o0 else none }
theorem lessP_r0 (a : (List (Int × Int))) (b : (List (Int × Int))) (c : Int) : roundF lessP_kp lessP_kf lessP_c lessP_p lessP_h0 lessP_C0 (lessP_S0.fillK lessP_kf lessP_H0 (a, b, c, ())) = (lessP_l0 (a, b, c, ())).bind (loopLeaf (fun x => lessP_S0.fillK lessP_kf lessP_H0 x) lessP_e0) := by kernel_rfl
theorem lessP_ok0 (g : Cfg) (hg : ∀ n, Go.PI.look n g.m0 ≠ Option.none → n ∈ lessP_kp) : LoopOk lessP_P g lessP_o0 lessP_C0 := LoopOk.auto lessP_env hg lessP_p (LoOk.of (l := []) (by kernel_rfl) .nil) lessP_h0 (fun x => lessP_S0.fillK lessP_kf lessP_H0 x) (fun s x h => Skel.parseK_ok s x h) lessP_l0 lessP_e0 (fun z h => by rcases z with z | z <;> cases h) lessP_t0 (fun z => by rcases z with z | z <;> rfl) (fun (a, b, c, ()) => lessP_r0 a b c)
theorem lessP_eq (p0 : (List (Int × Int))) (p1 : (List (Int × Int))) : ocRun lessP_c lessP_p lessP_f lessP_ins lessP_outs (p0, p1, ()) = lessP_B (p0, p1, ()) := by kernel_rfl
theorem lessP_oc : OC lessP_P 7 lessP_ins lessP_outs lessP := OC.of_tree lessP_env Try.func7 (by kernel_rfl) (by kernel_rfl) (p := lessP_p) (fun g hg => LoOk.of (l := [lessP_C0]) (by kernel_rfl) (.cons (lessP_ok0 g hg) (by kernel_rfl) .nil)) (fun (p0, p1, ()) => lessP_eq p0 p1)
noncomputable def cx_lessP : Ctx := addO cx_nextF 7 (ocOrc lessP_ins lessP_outs lessP)
theorem en_lessP : EnvFull Try.prog cx_lessP := env_add (en_nextF) lessP_oc.callOk
noncomputable def cx_sortP : Ctx := cx_lessP
theorem en_sortP : EnvFull Try.prog cx_sortP := (en_lessP)
noncomputable def cx_again1 : Ctx := cx_sortP
theorem en_again1 : EnvFull Try.prog cx_again1 := (en_sortP)
noncomputable def cx_idxEvA : Ctx := cx_again1
theorem en_idxEvA : EnvFull Try.prog cx_idxEvA := (en_again1)
noncomputable def cx_againR : Ctx := cx_idxEvA
theorem en_againR : EnvFull Try.prog cx_againR := (en_idxEvA)
end Go.Proofs.Ytiblijkhpmemeaa

namespace Go.Proofs.Ytiblijkhpmemeaa
set_option maxRecDepth 100000
open Go.PI Go
noncomputable def find1_B : (zA2 × (Int × Unit)) → Br (Bool × Unit) := fun (p0, p1, ()) =>
 (.ret (p0.2.2.2.1 == p1, ()))
noncomputable def find1 : (zA2 × (Int × Unit)) → Option (Bool × Unit) := fun x => (find1_B x).run
abbrev find1_ins : List (Bool × Pat) := [(false, .ty true zA9), (false, .rf (.int .i64))]
abbrev find1_outs : List Pat := [.ty false .bool]
noncomputable abbrev find1_f : Func := Try.f43
noncomputable abbrev find1_P : Program := Try.prog
noncomputable def find1_c : Ctx := { cx_againR with base := 1024 }
theorem find1_env : EnvFull find1_P find1_c := env_base (en_againR) 1024
noncomputable def find1_p : Par := { sh := fun _ => none, k := 0, lo := fun _ => none }
theorem find1_eq (p0 : zA2) (p1 : Int) : ocRun find1_c find1_p find1_f find1_ins find1_outs (p0, p1, ()) = find1_B (p0, p1, ()) := by kernel_rfl
theorem find1_oc : OC find1_P 43 find1_ins find1_outs find1 := OC.of_tree find1_env Try.func43 (by kernel_rfl) (by kernel_rfl) (p := find1_p) (fun g hg => LoOk.of (l := []) (by kernel_rfl) .nil) (fun (p0, p1, ()) => find1_eq p0 p1)
noncomputable def cx_find1 : Ctx := addO cx_againR 43 (ocOrc find1_ins find1_outs find1)
theorem en_find1 : EnvFull Try.prog cx_find1 := env_add (en_againR) find1_oc.callOk
noncomputable def idxEvT_l0 : ((List zA2) × ((Int × Unit) × (Int × (Int × Unit)))) → Br (((List zA2) × ((Int × Unit) × (Int × (Int × Unit)))) ⊕ ((Int × Unit) ⊕ Unit)) := fun (a, b, c, d, ()) =>
 (.cond (decide (d < c))
 (.cond (decide (0 ≤ d) && decide (d < (↑(List.length a) : Int)))
 (.opt (find1 (List.getD a (Int.toNat d) zV1, b.1, ())) fun e =>
 (.cond e.1
 (.ret (.inr (.inl (d, ()))))
 (.ret (.inl (a, (b.1, ()), c, IntKind.wrap .i64 (d + 1), ())))))
 (.no))
 (.ret (.inr (.inr (())))))
noncomputable def idxEvT_w0 : ((List zA2) × ((Int × Unit) × (Int × (Int × Unit)))) → Option ((Int × Unit) ⊕ Unit) := iterO fun x => (idxEvT_l0 x).run
noncomputable def idxEvT_B : ((List zA2) × (Int × Unit)) → Br (Int × Unit) := fun (p0, p1, ()) =>
 (.opt (idxEvT_w0 (p0, (p1, ()), (↑(List.length p0) : Int), 0, ())) fun a =>
 (.sum a (fun b =>
 (.ret (b.1, ()))) (fun c =>
 (.ret (-1, ())))))
noncomputable def idxEvT : ((List zA2) × (Int × Unit)) → Option (Int × Unit) := fun x => (idxEvT_B x).run
abbrev idxEvT_ins : List (Bool × Pat) := [(false, .ty true (.sl zA9)), (false, .fn 43 (.rf (.int .i64)))]
abbrev idxEvT_outs : List Pat := [.ty false (.int .i64)]
noncomputable abbrev idxEvT_f : Func := Try.f42
noncomputable abbrev idxEvT_P : Program := Try.prog
abbrev idxEvT_kp : List Nat := kpOf idxEvT_ins
abbrev idxEvT_kf : List Nat := kfOf idxEvT_ins
noncomputable def idxEvT_c : Ctx := { cx_find1 with base := 1024 }
theorem idxEvT_env : EnvFull idxEvT_P idxEvT_c := env_base (en_find1) 1024
abbrev idxEvT_H0 : List Hole := [.slot 0 true (.sl zA9), .cap 1 43 [(.int .i64)], .slot 7 false (.int .i64), .slot 8 false (.int .i64)]
def idxEvT_S0 : Skel := ⟨19, [], []⟩
abbrev idxEvT_H0e0 : List Hole := [.slot 4 false (.int .i64)]
def idxEvT_S0e0 : Skel := ⟨19, [], []⟩
abbrev idxEvT_H0e1 : List Hole := []
def idxEvT_S0e1 : Skel := ⟨19, [], []⟩
def idxEvT_h0 : Exit → Shape
 | .normal => ⟨[(0, .as true (.sl zA9)), (1, .keep), (7, .as false (.int .i64)), (8, .as false (.int .i64))], [], []⟩
 | .ret => ⟨[(4, .as false (.int .i64))], [], []⟩
 | .exit 0 => ⟨[], [], []⟩
 | _ => ⟨[], [], []⟩
def idxEvT_e0 : ((Int × Unit) ⊕ Unit) → Exit × St
 | (.inl u) => (.ret, idxEvT_S0e0.fillK idxEvT_kf idxEvT_H0e0 u)
 | (.inr u) => (.exit 0, idxEvT_S0e1.fillK idxEvT_kf idxEvT_H0e1 u)
def idxEvT_t0 : ((Int × Unit) ⊕ Unit) → Br (Exit × St) := fun z => .sum z (fun u => .ret (.ret, idxEvT_S0e0.fillK idxEvT_kf idxEvT_H0e0 u)) (fun u => .ret (.exit 0, idxEvT_S0e1.fillK idxEvT_kf idxEvT_H0e1 u))
noncomputable def idxEvT_C0 : Code := loopAt 0 (bodyOf idxEvT_f)
noncomputable def idxEvT_o0 : St → Br (Exit × St) := loopF idxEvT_kp idxEvT_kf 1024 (idxEvT_h0 .normal) (idxEvT_S0.parseK idxEvT_kf idxEvT_H0) fun x => .opt (idxEvT_w0 x) idxEvT_t0
noncomputable def idxEvT_p : Par := { sh := fun _ => none, k := 0, lo := fun i => bif Nat.beq i 2 then some idxEvT_o0 else none }
theorem idxEvT_r0 (a : (List zA2)) (b : (Int × Unit)) (c : Int) (d : Int) : roundF idxEvT_kp idxEvT_kf idxEvT_c idxEvT_p idxEvT_h0 idxEvT_C0 (idxEvT_S0.fillK idxEvT_kf idxEvT_H0 (a, b, c, d, ())) = (idxEvT_l0 (a, b, c, d, ())).bind (loopLeaf (fun x => idxEvT_S0.fillK idxEvT_kf idxEvT_H0 x) idxEvT_e0) := by kernel_rfl
theorem idxEvT_ok0 (g : Cfg) (hg : ∀ n, Go.PI.look n g.m0 ≠ Option.none → n ∈ idxEvT_kp) : LoopOk idxEvT_P g idxEvT_o0 idxEvT_C0 := LoopOk.auto idxEvT_env hg idxEvT_p (LoOk.of (l := []) (by kernel_rfl) .nil) idxEvT_h0 (fun x => idxEvT_S0.fillK idxEvT_kf idxEvT_H0 x) (fun s x h => Skel.parseK_ok s x h) idxEvT_l0 idxEvT_e0 (fun z h => by rcases z with z | z <;> cases h) idxEvT_t0 (fun z => by rcases z with z | z <;> rfl) (fun (a, b, c, d, ()) => idxEvT_r0 a b c d)
theorem idxEvT_eq (p0 : (List zA2)) (p1 : Int) : ocRun idxEvT_c idxEvT_p idxEvT_f idxEvT_ins idxEvT_outs (p0, p1, ()) = idxEvT_B (p0, p1, ()) := by kernel_rfl
theorem idxEvT_oc : OC idxEvT_P 42 idxEvT_ins idxEvT_outs idxEvT := OC.of_tree idxEvT_env Try.func42 (by kernel_rfl) (by kernel_rfl) (p := idxEvT_p) (fun g hg => LoOk.of (l := [idxEvT_C0]) (by kernel_rfl) (.cons (idxEvT_ok0 g hg) (by kernel_rfl) .nil)) (fun (p0, p1, ()) => idxEvT_eq p0 p1)
noncomputable def cx_idxEvT : Ctx := addO cx_find1 42 (ocOrc idxEvT_ins idxEvT_outs idxEvT)
theorem en_idxEvT : EnvFull Try.prog cx_idxEvT := env_add (en_find1) idxEvT_oc.callOk
noncomputable def findT_B : ((List zA2) × (Int × Unit)) → Br ((zA2 × Int) × Unit) := fun (p0, p1, ()) =>
 (.opt (idxEvT (p0, p1, ())) fun y3 =>
 (.cond (decide (y3.1 < 0))
 (.ret ((zV1, -1), ()))
 (.cond (decide (0 ≤ y3.1) && decide (y3.1 < (↑(List.length p0) : Int)))
 (.ret ((List.getD p0 (Int.toNat y3.1) zV1, y3.1), ()))
 (.no))))
noncomputable def findT : ((List zA2) × (Int × Unit)) → Option ((zA2 × Int) × Unit) := fun x => (findT_B x).run
abbrev findT_ins : List (Bool × Pat) := [(false, .ty false (.sl zA9)), (false, .ty false (.int .i64))]
abbrev findT_outs : List Pat := [.ty false zA9, .ty false (.int .i64)]
noncomputable abbrev findT_f : Func := Try.f26
noncomputable abbrev findT_P : Program := Try.prog
noncomputable def findT_c : Ctx := { cx_idxEvT with base := 1024 }
theorem findT_env : EnvFull findT_P findT_c := env_base (en_idxEvT) 1024
noncomputable def findT_p : Par := { sh := fun _ => none, k := 0, lo := fun _ => none }
theorem findT_eq (p0 : (List zA2)) (p1 : Int) : ocRun findT_c findT_p findT_f findT_ins findT_outs (p0, p1, ()) = findT_B (p0, p1, ()) := by kernel_rfl
theorem findT_oc : OC findT_P 26 findT_ins findT_outs findT := OC.of_tree findT_env Try.func26 (by kernel_rfl) (by kernel_rfl) (p := findT_p) (fun g hg => LoOk.of (l := []) (by kernel_rfl) .nil) (fun (p0, p1, ()) => findT_eq p0 p1)
noncomputable def cx_findT : Ctx := addO cx_idxEvT 26 (ocOrc findT_ins findT_outs findT)
theorem en_findT : EnvFull Try.prog cx_findT := env_add (en_idxEvT) findT_oc.callOk
noncomputable def envT_l0 : zT12 → Br (zT12 ⊕ (zA21 × Unit)) := fun (a, b, c, d, e, f, g, ()) =>
 (.cond (decide (e < d))
 (.cond (decide (0 ≤ e) && decide (e < (↑(List.length c) : Int)))
 (.cond (decide ((List.getD c (Int.toNat e) (0, 0)).1 < 0))
 (.ret (.inl (a, b, c, d, IntKind.wrap .i64 (e + 1), f, g, ())))
 (.cond (decide ((List.getD c (Int.toNat e) (0, 0)).1 ≥ (↑(List.length f.1) : Int)))
 (.ret (.inl (a, b, c, d, IntKind.wrap .i64 (e + 1), f, g, ())))
 (.cond (decide ((List.getD c (Int.toNat e) (0, 0)).1 ≥ b))
 (.ret (.inl (a, b, c, d, IntKind.wrap .i64 (e + 1), f, g, ())))
 (.cond (decide (0 ≤ (List.getD c (Int.toNat e) (0, 0)).1) && decide ((List.getD c (Int.toNat e) (0, 0)).1 < (↑(List.length f.1) : Int)))
 (.cond ((List.getD f.1 (Int.toNat (List.getD c (Int.toNat e) (0, 0)).1) zV2).2.2.2.2.1 != 1)
 (.ret (.inl (a, b, c, d, IntKind.wrap .i64 (e + 1), f, g, ())))
 (.opt (findT (a, (List.getD c (Int.toNat e) (0, 0)).2, ())) fun h =>
 (.cond (decide (h.1.2 ≥ 0))
 (.cond (decide (0 ≤ (List.getD c (Int.toNat e) (0, 0)).1) && decide ((List.getD c (Int.toNat e) (0, 0)).1 < (↑(List.length f.1) : Int)))
 (.cond (decide ((List.length g + List.length (List.set (List.replicate 1 zV3) 0 ((List.getD f.1 (Int.toNat (List.getD c (Int.toNat e) (0, 0)).1) zV2).1, h.1.1))) * 88 ≤ 140737488355328))
 (.ret (.inl (a, b, c, d, IntKind.wrap .i64 (e + 1), f, g ++ List.set (List.replicate 1 zV3) 0 ((List.getD f.1 (Int.toNat (List.getD c (Int.toNat e) (0, 0)).1) zV2).1, h.1.1), ())))
 (.no))
 (.no))
 (.ret (.inl (a, b, c, d, IntKind.wrap .i64 (e + 1), f, g, ()))))))
 (.no)))))
 (.no))
 (.ret (.inr (g, ()))))
noncomputable def envT_w0 : zT12 → Option (zA21 × Unit) := iterO fun x => (envT_l0 x).run
noncomputable def envT_B : (zA10 × ((List zA2) × zT2)) → Br (zA21 × Unit) := fun (p0, p1, p2, p3, ()) =>
 (.opt (envT_w0 (p1, p3, p2, (↑(List.length p2) : Int), 0, p0, [], ())) fun a =>
 (.ret (a.1, ())))
noncomputable def envT : (zA10 × ((List zA2) × zT2)) → Option (zA21 × Unit) := fun x => (envT_B x).run
abbrev envT_ins : List (Bool × Pat) := [(false, .ty true zA5), (false, .ty false (.sl zA9)), (false, .ty true (.sl zA16)), (false, .ty false (.int .i64))]
abbrev envT_outs : List Pat := [.row 99 (.st (.pair .str zA9))]
noncomputable abbrev envT_f : Func := Try.f46
noncomputable abbrev envT_P : Program := Try.prog
abbrev envT_kp : List Nat := kpOf envT_ins
abbrev envT_kf : List Nat := kfOf envT_ins
noncomputable def envT_c : Ctx := { cx_findT with base := 1024 }
theorem envT_env : EnvFull envT_P envT_c := env_base (en_findT) 1024
abbrev envT_H0 : List Hole := [.slot 1 false (.sl zA9), .slot 3 false (.int .i64), .slot 14 true (.sl zA16), .slot 15 false (.int .i64), .slot 16 false (.int .i64), .tv 1028 true zA5, .ar 1724 false 99 (.st (.pair .str zA9))]
def envT_S0 : Skel := ⟨70, [(4, D.c (C.ref 1028 0 0)), (9, .c (.mfull 1724))], [(1028, []), (1724, [])]⟩
abbrev envT_H0e0 : List Hole := [.ar 1725 false 99 (.st (.pair .str zA9))]
def envT_S0e0 : Skel := ⟨70, [(9, .c (.mfull 1725))], [(1725, [])]⟩
def envT_h0 : Exit → Shape
 | .normal => ⟨[(1, .as false (.sl zA9)), (3, .as false (.int .i64)), (4, .keep), (9, .row 700 false 99 (.st (.pair .str zA9))), (14, .as true (.sl zA16)), (15, .as false (.int .i64)), (16, .as false (.int .i64))], [], [(4, true), (700, false)]⟩
 | .exit 0 => ⟨[(9, .row 701 false 99 (.st (.pair .str zA9)))], [], [(701, false)]⟩
 | _ => ⟨[], [], []⟩
def envT_e0 : (zA21 × Unit) → Exit × St
 | u => (.exit 0, envT_S0e0.fillK envT_kf envT_H0e0 u)
def envT_t0 : (zA21 × Unit) → Br (Exit × St) := fun u => .ret (.exit 0, envT_S0e0.fillK envT_kf envT_H0e0 u)
noncomputable def envT_C0 : Code := loopAt 0 (bodyOf envT_f)
noncomputable def envT_o0 : St → Br (Exit × St) := loopF envT_kp envT_kf 1024 (envT_h0 .normal) (envT_S0.parseK envT_kf envT_H0) fun x => .opt (envT_w0 x) envT_t0
noncomputable def envT_p : Par := { sh := fun _ => none, k := 0, lo := fun i => bif Nat.beq i 3 then some envT_o0 else none }
theorem envT_r0 (a : (List zA2)) (b : Int) (c : (List (Int × Int))) (d : Int) (e : Int) (f : zA10) (g : zA21) : roundF envT_kp envT_kf envT_c envT_p envT_h0 envT_C0 (envT_S0.fillK envT_kf envT_H0 (a, b, c, d, e, f, g, ())) = (envT_l0 (a, b, c, d, e, f, g, ())).bind (loopLeaf (fun x => envT_S0.fillK envT_kf envT_H0 x) envT_e0) := by kernel_rfl
theorem envT_ok0 (g : Cfg) (hg : ∀ n, Go.PI.look n g.m0 ≠ Option.none → n ∈ envT_kp) : LoopOk envT_P g envT_o0 envT_C0 := LoopOk.auto envT_env hg envT_p (LoOk.of (l := []) (by kernel_rfl) .nil) envT_h0 (fun x => envT_S0.fillK envT_kf envT_H0 x) (fun s x h => Skel.parseK_ok s x h) envT_l0 envT_e0 (fun _ h => by cases h) envT_t0 (fun _ => rfl) (fun (a, b, c, d, e, f, i, ()) => envT_r0 a b c d e f i)
theorem envT_eq (p0 : zA10) (p1 : (List zA2)) (p2 : (List (Int × Int))) (p3 : Int) : ocRun envT_c envT_p envT_f envT_ins envT_outs (p0, p1, p2, p3, ()) = envT_B (p0, p1, p2, p3, ()) := by kernel_rfl
theorem envT_oc : OC envT_P 46 envT_ins envT_outs envT := OC.of_tree envT_env Try.func46 (by kernel_rfl) (by kernel_rfl) (p := envT_p) (fun g hg => LoOk.of (l := [envT_C0]) (by kernel_rfl) (.cons (envT_ok0 g hg) (by kernel_rfl) .nil)) (fun (p0, p1, p2, p3, ()) => envT_eq p0 p1 p2 p3)
noncomputable def cx_envT : Ctx := addO cx_findT 46 (ocOrc envT_ins envT_outs envT)
theorem en_envT : EnvFull Try.prog cx_envT := env_add (en_findT) envT_oc.callOk
noncomputable def fitsT_B : ((Option zA11) × (zA10 × ((List zA2) × ((List (Int × Int)) × (Int × (zA2 × Unit)))))) → Br (Bool × Unit) := fun (p0, p1, p2, p3, p4, p5, ()) =>
 (.cond (decide (0 ≤ p4) && decide (p4 < (↑(List.length p1.1) : Int)))
 (.opt (hasStr ((List.getD p1.1 (Int.toNat p4) zV2).2.1, p5.1, ())) fun y9 =>
 (.cond (!y9.1)
 (.ret (false, ()))
 (.opt (envT (p1, p2, p3, p4, ())) fun a =>
 (.cond (decide ((List.length a.1 + List.length (List.set (List.replicate 1 zV3) 0 ((List.getD p1.1 (Int.toNat p4) zV2).1, p5))) * 88 ≤ 140737488355328))
 (.opt (holdsF (p0, (List.getD p1.1 (Int.toNat p4) zV2).2.2.2.2.2, a.1 ++ List.set (List.replicate 1 zV3) 0 ((List.getD p1.1 (Int.toNat p4) zV2).1, p5), ())) fun b =>
 (.ret (b.1, ())))
 (.no)))))
 (.no))
noncomputable def fitsT : ((Option zA11) × (zA10 × ((List zA2) × ((List (Int × Int)) × (Int × (zA2 × Unit)))))) → Option (Bool × Unit) := fun x => (fitsT_B x).run
abbrev fitsT_ins : List (Bool × Pat) := [(false, .ty true zA17), (false, .ty true zA5), (false, .ty false (.sl zA9)), (false, .ty true (.sl zA16)), (false, .ty false (.int .i64)), (false, .ty false zA9)]
abbrev fitsT_outs : List Pat := [.ty false .bool]
noncomputable abbrev fitsT_f : Func := Try.f27
noncomputable abbrev fitsT_P : Program := Try.prog
noncomputable def fitsT_c : Ctx := { cx_envT with base := 1024 }
theorem fitsT_env : EnvFull fitsT_P fitsT_c := env_base (en_envT) 1024
noncomputable def fitsT_p : Par := { sh := fun _ => none, k := 0, lo := fun _ => none }
theorem fitsT_eq (p0 : (Option zA11)) (p1 : zA10) (p2 : (List zA2)) (p3 : (List (Int × Int))) (p4 : Int) (p5 : zA2) : ocRun fitsT_c fitsT_p fitsT_f fitsT_ins fitsT_outs (p0, p1, p2, p3, p4, p5, ()) = fitsT_B (p0, p1, p2, p3, p4, p5, ()) := by kernel_rfl
theorem fitsT_oc : OC fitsT_P 27 fitsT_ins fitsT_outs fitsT := OC.of_tree fitsT_env Try.func27 (by kernel_rfl) (by kernel_rfl) (p := fitsT_p) (fun g hg => LoOk.of (l := []) (by kernel_rfl) .nil) (fun (p0, p1, p2, p3, p4, p5, ()) => fitsT_eq p0 p1 p2 p3 p4 p5)
noncomputable def cx_fitsT : Ctx := addO cx_envT 27 (ocOrc fitsT_ins fitsT_outs fitsT)
theorem en_fitsT : EnvFull Try.prog cx_fitsT := env_add (en_envT) fitsT_oc.callOk
end Go.Proofs.Ytiblijkhpmemeaa

namespace Go.Proofs.Ytiblijkhpmemeaa
open Go.PI Go
end Go.Proofs.Ytiblijkhpmemeaa

namespace Go.Proofs.Ytiblijkhpmemeaa
open Go.PI Go
end Go.Proofs.Ytiblijkhpmemeaa

namespace Go.Proofs.Ytiblijkhpmemeaa
open Go.PI Go
end Go.Proofs.Ytiblijkhpmemeaa
