/- strings.Compare's contract, whose entry has no body. Contracts of functions. Printed by auto.py. What the parts of predicates come to: whatever the parts, an answer. What parts of values come to: loops, and how two stand. -/
import Derived.Test.YtiblijkhpmemeaaGreatRb
import Derived.Lib.Bytealg
import Derived.ProofKit
import Derived.Test.YtiblijkhpmemeaaGreatGe
import Derived.Test.YtiblijkhpmemeaaGreatHa
namespace Go.PI
set_option maxRecDepth 100000
open Go.RowKit
variable {P : Program} {c : Ctx} {g : Cfg} {s st : St} {a : Act} {w : World} {μ : Nm} {I : Bool → Nat → Prop}
theorem ext_wp (h : Rel g s a w μ I) {o : Oper} {f : Nat} {args : Array Operand} {ts : Array TypeId} (ho : o.op = .call { callee := .value (.func f), args := args, argTypes := ts }) {v : Value} {d : D} (hrun : (callFunc f (args.map a.eval)).run P w = .ok (.value v) w) (hd : RD μ I w (shp s.m) d v)
  {Kc : Act → World → Prop} (hK : ∀ a' w', Ok g (s.putd o.dst d) a' w' → Kc a' w') (Q : Exit → Act → World → Prop) : o.wp P a w Kc Q := by
 refine wp_value (v := v) (w' := w) ?_ (hK _ _ ⟨μ, I, h.putd hd⟩)
 unfold execOp
 have e : (#[] ++ args.map a.eval ++ #[] : Array Value) = args.map a.eval := by simp
 have e0 : a.eval (.func f) = .func (.func f) #[] #[] := rfl
 simp only [ho, resolve, Deferred.ofValue, e0, invoke, Sem.run_bind, Sem.run_pure, Result.andThen_ok, e, hrun]
theorem OC.of_t2 {f : Nat} {τ1 τ2 σ : Ty} {pre : Args [(true, τ1), (true, τ2)] → Bool} {F : Args [(true, τ1), (true, τ2)] → Res [σ]} (h : TSpec P f [(true, τ1), (true, τ2)] [σ] pre F) {G : PArgs [(false, .ty false τ1), (false, .ty false τ2)] → Option (POuts [.ty false σ] × PBack [(false, .ty false τ1), (false, .ty false τ2)])}
  (hG : ∀ xs y, G xs = some y → pre xs = true ∧ y = (F xs, ())) : OC P f [(false, .ty false τ1), (false, .ty false τ2)] [.ty false σ] G := by
 refine ⟨h.fn, fun w J hJ hlt xs vs B hx hnd hB y hy => ?_⟩
 obtain ⟨h1, rfl⟩ := hG xs y hy
 obtain ⟨v, l, B1, B2, rfl, rfl, ⟨rfl, h2⟩, u, k, B3, B4, rfl, rfl, ⟨rfl, h3⟩, rfl, rfl⟩ := hx
 refine (h.ok w J hJ hlt xs [v, u] ⟨v, [u], rfl, h2, u, [], rfl, h3, rfl⟩ h1).mono ?_
 rintro e w' ⟨u, rfl, r1, r2, r3, r4, r5, r6⟩
 refine ⟨u, fun b => J false b ∨ (w.heap.size ≤ b ∧ b < w'.heap.size), [], [], rfl, ⟨rfl, r1⟩, rfl, List.nodup_nil, fun b hb => by simp at hb, fun b hb => .inl hb, fun b hb => ?_, r2, r3, r4, r5, fun b hb _ => r6 b hb⟩
 rcases hb with hb | hb
 ·have := hlt b (hJ b hb)
  exact ⟨.inl hb, by omega⟩
 ·exact ⟨.inr (.inr hb.1), hb.2⟩
theorem cmp_small : ∀ (x y : List UInt8), -1 ≤ Lib.compareBytes x y ∧ Lib.compareBytes x y ≤ 1
 | [], [] => by simp [Lib.compareBytes]
 | [], _ :: _ => by simp [Lib.compareBytes]
 | _ :: _, [] => by simp [Lib.compareBytes]
 | a :: la, b :: lb => by
  unfold Lib.compareBytes
  split
  ·omega
  ·split
   ·omega
   ·exact cmp_small la lb
def cmp2 (f : Nat) : Oper := ⟨some 7, .call { callee := .value (.func f), args := #[.tmp 5, .tmp 6], argTypes := #[9, 9] }, 3, "compare_native.go:15", #[⟨0, .data⟩, ⟨1, .data⟩], none⟩
def cmp3 : Oper := ⟨some 4, .assign (.tmp 7), 3, "compare_native.go:15", #[⟨2, .data⟩, ⟨2, .chain⟩, ⟨0, .phase⟩, ⟨1, .phase⟩, ⟨2, .phase⟩], none⟩
def cmpOps (f : Nat) : Array Oper := #[⟨some 5, .move (.tmp 0), 9, "compare_native.go:15", #[], none⟩, ⟨some 6, .move (.tmp 1), 9, "compare_native.go:15", #[], none⟩, cmp2 f, cmp3]
def cmpCode (f : Nat) : Code := .seq (.region 0 #[⟨some 4, .assign (.const (.int .i64 0)), 3, "compare_native.go:14", #[], none⟩] false) (.seq (.region 1 (cmpOps f) false) .ret)
theorem cmpString_spec (he : EnvFull P c) {f h : Nat} {fn : Func} (hf : P.funcs[f]? = some fn) (hn : (fn.name == "runtime.NumGoroutine") = false) (hb : fn.body = some (cmpCode h)) (hres : fn.results.toList = [.tmp 4]) (hnt : fn.ntmps = 8)
  (hcall : ∀ (a b : ByteArray) (w : World), (callFunc h #[.string a, .string b]).run P w = .ok (.value (.int .i64 (Lib.compareBytes a.data.toList b.data.toList))) w) :
  TSpec P f [(true, .str), (true, .str)] [.int .i64] (fun _ => true) (fun xs => Lib.compareBytes xs.1.data.toList xs.2.1.data.toList) := by
 refine TSpec.of_tri he hf hn hb ?_
 rintro ⟨x, y, ⟨⟩⟩ _
 let X : D := .c (.ty false .str x)
 let Y : D := .c (.ty false .str y)
 let R : D := .c (.ty false (.int .i64) (Lib.compareBytes x.data.toList y.data.toList))
 let sF : St := ⟨[X, Y, .c .bad, .c .bad, R, X, Y, R], [], []⟩
 refine ⟨fun e' st => e' = .ret ∧ st = sF, ?_, ?_⟩
 ·intro g hg
  let c' : Ctx := { c with base := (0 + 1) * 1024 }
  have he' : EnvFull P c' := { tb := he.tb, eqs := he.eqs, orc := he.orc, mixed := he.mixed }
  let p0 : Par := { sh := fun _ => none, k := 0 }
  have lo : ∀ code : Code, LoOk P g p0 code := fun code => LoOk.none fun _ => rfl
  rw [hnt]
  show Tri P g (cmpCode h) ⟨[X, Y, .c .bad, .c .bad, .c .bad, .c .bad, .c .bad, .c .bad], [], []⟩ _
  unfold cmpCode
  refine Tri.seq (M := fun st => st = ⟨[X, Y, .c .bad, .c .bad, .c (.ty false (.int .i64) 0), .c .bad, .c .bad, .c .bad], [], []⟩) (Tri.run he' p0 (lo _) (y := .normal) (st := ⟨[X, Y, .c .bad, .c .bad, .c (.ty false (.int .i64) 0), .c .bad, .c .bad, .c .bad], [], []⟩) rfl rfl) ?_
  rintro st rfl
  refine Tri.seq (M := fun st => st = sF) ?_ ?_
  ·intro a w hok
   refine wp_region ?_
   show wpOps P (cmpOps h) _ [0, 1, 2, 3] a w
   unfold wpOps
   show if Region.wanted (⟨some 5, .move (.tmp 0), 9, "compare_native.go:15", #[], none⟩ : Oper) (yielded (cmpOps h) a.tmps) = true then _ else _
   rw [if_pos (show Region.wanted _ _ = true from rfl)]
   refine .inl (oper_ok he' _ g _ ⟨[X, Y, .c .bad, .c .bad, .c (.ty false (.int .i64) 0), X, .c .bad, .c .bad], [], []⟩ a w _ _ hok rfl fun a w hok => ?_)
   unfold wpOps
   show if Region.wanted (⟨some 6, .move (.tmp 1), 9, "compare_native.go:15", #[], none⟩ : Oper) (yielded (cmpOps h) a.tmps) = true then _ else _
   rw [if_pos (show Region.wanted _ _ = true from rfl)]
   refine .inl (oper_ok he' _ g _ ⟨[X, Y, .c .bad, .c .bad, .c (.ty false (.int .i64) 0), X, Y, .c .bad], [], []⟩ a w _ _ hok rfl fun a w hok => ?_)
   unfold wpOps
   show if Region.wanted (cmp2 h) (yielded (cmpOps h) a.tmps) = true then _ else _
   rw [if_pos (show Region.wanted _ _ = true from rfl)]
   refine .inl ?_
   obtain ⟨μ, I, hr⟩ := hok
   have h5 := hr.tm 5
   have h6 := hr.tm 6
   have e5 : a.eval (.tmp 5) = .string x := (RD.str (t := false) h5).1
   have e6 : a.eval (.tmp 6) = .string y := (RD.str (t := false) h6).1
   refine ext_wp hr (o := cmp2 h) rfl (v := .int .i64 (Lib.compareBytes x.data.toList y.data.toList)) (d := R) ?_ ?_ (fun a w hok => ?_) _
   ·have e : (#[Operand.tmp 5, Operand.tmp 6] : Array Operand).map a.eval = #[.string x, .string y] := by simp [e5, e6]
    rw [e]
    exact hcall x y w
   ·exact RD.ofInt (by
     have := cmp_small x.data.toList y.data.toList
     simp [InK, IntKind.min, IntKind.max, IntKind.signed, IntKind.bits]
     omega) false
   ·unfold wpOps
    show if Region.wanted cmp3 (yielded (cmpOps h) a.tmps) = true then _ else _
    rw [if_pos (show Region.wanted _ _ = true from rfl)]
    refine .inl (oper_ok he' _ g _ sF a w _ _ hok rfl fun a w hok => ?_)
    exact ⟨sF, rfl, hok⟩
  ·rintro st rfl
   exact Tri.ret ⟨rfl, rfl⟩
 ·rintro e' st ⟨rfl, rfl⟩
  refine ⟨.inr rfl, ?_⟩
  unfold resultsOf settle resultsD
  rw [hres]
  exact ⟨R, [], [], rfl, rfl⟩
end Go.PI
namespace Go.Proofs.YtiblijkhpmemeaaGreat
open Go.PI Go Go.RowKit
noncomputable def cmpStr : (ByteArray × (ByteArray × Unit)) → Option (Int × Unit) := fun x => some (Lib.compareBytes x.1.data.toList x.2.1.data.toList, ())
abbrev cmpStr_ins : List (Bool × Pat) := [(false, .ty false .str), (false, .ty false .str)]
abbrev cmpStr_outs : List Pat := [.ty false (.int .i64)]
theorem cmpStr_oc : OC Tryz.prog 129 cmpStr_ins cmpStr_outs cmpStr :=
 OC.of_t2 (cmpString_spec (h := 130) en_signV Tryz.func129 (by kernel_rfl) (by kernel_rfl) (by kernel_rfl) (by kernel_rfl) fun a b w => by
  rw [run_callFunc_extern Tryz.func130 (by kernel_rfl) (by kernel_rfl) (by kernel_rfl) (e := Extern.BytealgCompare.compare) (by kernel_rfl), Lib.run_compareString]
  rfl) fun xs y hy => ⟨rfl, (Option.some.inj hy).symm⟩
noncomputable def cx_cmpStr : Ctx := addO cx_signV 129 (ocOrc cmpStr_ins cmpStr_outs cmpStr)
theorem en_cmpStr : EnvFull Tryz.prog cx_cmpStr := env_add en_signV cmpStr_oc.callOk
end Go.Proofs.YtiblijkhpmemeaaGreat

namespace Go.Proofs.YtiblijkhpmemeaaGreat
set_option maxRecDepth 100000
open Go.PI Go
noncomputable def compareS_B : (ByteArray × (ByteArray × Unit)) → Br (Int × Unit) := fun (p0, p1, ()) =>
 (.opt (cmpStr (p0, p1, ())) fun y3 =>
 (.ret (y3.1, ())))
noncomputable def compareS := fun x => (compareS_B x).run
theorem compareS_oc : OC Tryz.prog 125 [(false, .ty false .str), (false, .ty false .str)] [.ty false (.int .i64)] compareS := OC.lp en_cmpStr 1024 Tryz.func125 [] (by kernel_rfl) trivial (fun _ => by kernel_rfl)
noncomputable def cx_compareS : Ctx := ocx cx_cmpStr compareS_oc
theorem en_compareS : EnvFull Tryz.prog cx_compareS := ocn en_cmpStr compareS_oc
noncomputable def compareV_B : (zA8 × (zA8 × Unit)) → Br ((Int × Bool) × Unit) := fun (p0, p1, ()) =>
 (.cond (p0.1 != p1.1)
 (.ret ((0, false), ()))
 (.cond (p0.1 == 1)
 (.opt (bitV (decide (p0.2.1 > p1.2.1), ())) fun y8 =>
 (.opt (bitV (decide (p0.2.1 < p1.2.1), ())) fun y9 =>
 (.ret ((IntKind.wrap .i64 (y8.1 - y9.1), true), ()))))
 (.cond (p0.1 == 2)
 (.opt (compareS (p0.2.2.1, p1.2.2.1, ())) fun a =>
 (.opt (signV (a.1, ())) fun b =>
 (.ret ((b.1, true), ()))))
 (.cond (p0.1 == 3)
 (.opt (bitV (p0.2.2.2, ())) fun c =>
 (.opt (bitV (p1.2.2.2, ())) fun d =>
 (.ret ((IntKind.wrap .i64 (c.1 - d.1), true), ()))))
 (.ret ((0, false), ()))))))
noncomputable def compareV := fun x => (compareV_B x).run
theorem compareV_oc : OC Tryz.prog 109 [(false, .ty false zA4), (false, .ty false zA4)] [.ty false (.int .i64), .ty false .bool] compareV := OC.lp en_compareS 1024 Tryz.func109 [] (by kernel_rfl) trivial (fun _ => by kernel_rfl)
noncomputable def cx_compareV : Ctx := ocx cx_compareS compareV_oc
theorem en_compareV : EnvFull Tryz.prog cx_compareV := ocn en_compareS compareV_oc
noncomputable def applyE_B : (Int × ((List zA8) × Unit)) → Br ((zA8 × Bool) × Unit) := fun (p0, p1, ()) =>
 (.cond (decide (p0 ≤ 6))
 (.opt (numbersE (p0, p1, ())) fun y7 =>
 (.ret ((y7.1.1, y7.1.2), ())))
 (.cond (decide (p0 ≤ 12))
 (.cond (decide (0 ≤ 0) && decide (0 < (↑(List.length p1) : Int)))
 (.cond (decide (0 ≤ 1) && decide (1 < (↑(List.length p1) : Int)))
 (.opt (compareV (List.getD p1 (Int.toNat 0) zV0, List.getD p1 (Int.toNat 1) zV0, ())) fun y8 =>
 (.cond (!y8.1.2)
 (.ret ((zV0, false), ()))
 (.opt (holdsE (p0, y8.1.1, ())) fun y9 =>
 (.opt (truthV (y9.1, ())) fun a =>
 (.ret ((a.1, true), ()))))))
 (.no))
 (.no))
 (.opt (truthsE (p0, p1, ())) fun b =>
 (.ret ((b.1.1, b.1.2), ())))))
noncomputable def applyE := fun x => (applyE_B x).run
theorem applyE_oc : OC Tryz.prog 93 [(false, .ty false (.int .i64)), (false, .ty true (.sl zA4))] [.ty false zA4, .ty false .bool] applyE := OC.lp en_compareV 1024 Tryz.func93 [] (by kernel_rfl) trivial (fun _ => by kernel_rfl)
noncomputable def cx_applyE : Ctx := ocx cx_compareV applyE_oc
theorem en_applyE : EnvFull Tryz.prog cx_applyE := ocn en_compareV applyE_oc
noncomputable def evalE_l0 : zA34 → Br (zA34 ⊕ ((zA8 × Unit) ⊕ (zA8 × ((List zA8) × Unit)))) := fun (a, b, c, d, e, f, g, ()) =>
 (.cond (decide (e < d))
 (.cond (decide (0 ≤ e) && decide (e < (↑(List.length c) : Int)))
 (.opt (partsT ((List.getD c (Int.toNat e) (0, zV0, ByteArray.empty, ByteArray.empty)).1, ())) fun h =>
 (.cond ((List.getD c (Int.toNat e) (0, zV0, ByteArray.empty, ByteArray.empty)).1 == 1)
 (.cond (decide (0 ≤ 0) && decide (0 ≤ IntKind.wrap .i64 ((↑(List.length g) : Int) - h.1)) && decide (IntKind.wrap .i64 ((↑(List.length g) : Int) - h.1) ≤ (↑(List.length g) : Int)) && decide (IntKind.wrap .i64 ((↑(List.length g) : Int) - h.1) = IntKind.wrap .i64 ((↑(List.length g) : Int) - h.1)))
 (.cond (decide ((List.length (List.take (Int.toNat (IntKind.wrap .i64 ((↑(List.length g) : Int) - h.1)) - Int.toNat 0) (List.drop (0 + Int.toNat 0) g)) + List.length (List.set (List.replicate 1 zV0) 0 (List.getD c (Int.toNat e) (0, zV0, ByteArray.empty, ByteArray.empty)).2.1)) * 40 ≤ 140737488355328) && decide (0 < List.length (List.set (List.replicate 1 zV0) 0 (List.getD c (Int.toNat e) (0, zV0, ByteArray.empty, ByteArray.empty)).2.1)))
 (.ret (.inl (a, b, c, d, IntKind.wrap .i64 (e + 1), f, List.take (Int.toNat (IntKind.wrap .i64 ((↑(List.length g) : Int) - h.1)) - Int.toNat 0) (List.drop (0 + Int.toNat 0) g) ++ List.set (List.replicate 1 zV0) 0 (List.getD c (Int.toNat e) (0, zV0, ByteArray.empty, ByteArray.empty)).2.1, ())))
 (.no))
 (.no))
 (.cond ((List.getD c (Int.toNat e) (0, zV0, ByteArray.empty, ByteArray.empty)).1 == 2)
 (.opt (fieldV (a, b, List.getD c (Int.toNat e) (0, zV0, ByteArray.empty, ByteArray.empty), ())) fun i =>
 (.cond (!i.1.2)
 (.ret (.inr (.inl (zV0, ()))))
 (.cond (decide (0 ≤ 0) && decide (0 ≤ IntKind.wrap .i64 ((↑(List.length g) : Int) - h.1)) && decide (IntKind.wrap .i64 ((↑(List.length g) : Int) - h.1) ≤ (↑(List.length g) : Int)) && decide (IntKind.wrap .i64 ((↑(List.length g) : Int) - h.1) = IntKind.wrap .i64 ((↑(List.length g) : Int) - h.1)))
 (.cond (decide ((List.length (List.take (Int.toNat (IntKind.wrap .i64 ((↑(List.length g) : Int) - h.1)) - Int.toNat 0) (List.drop (0 + Int.toNat 0) g)) + List.length (List.set (List.replicate 1 zV0) 0 i.1.1)) * 40 ≤ 140737488355328) && decide (0 < List.length (List.set (List.replicate 1 zV0) 0 i.1.1)))
 (.ret (.inl (a, b, c, d, IntKind.wrap .i64 (e + 1), f, List.take (Int.toNat (IntKind.wrap .i64 ((↑(List.length g) : Int) - h.1)) - Int.toNat 0) (List.drop (0 + Int.toNat 0) g) ++ List.set (List.replicate 1 zV0) 0 i.1.1, ())))
 (.no))
 (.no))))
 (.cond (decide (0 ≤ IntKind.wrap .i64 ((↑(List.length g) : Int) - h.1)) && decide (IntKind.wrap .i64 ((↑(List.length g) : Int) - h.1) ≤ (↑(List.length g) : Int)) && decide ((↑(List.length g) : Int) ≤ (↑(List.length g) : Int)))
 (.opt (applyE ((List.getD c (Int.toNat e) (0, zV0, ByteArray.empty, ByteArray.empty)).1, List.take (Int.toNat (↑(List.length g) : Int) - Int.toNat (IntKind.wrap .i64 ((↑(List.length g) : Int) - h.1))) (List.drop (0 + Int.toNat (IntKind.wrap .i64 ((↑(List.length g) : Int) - h.1))) g), ())) fun j =>
 (.cond (!j.1.2)
 (.ret (.inr (.inl (zV0, ()))))
 (.cond (decide (0 ≤ 0) && decide (0 ≤ IntKind.wrap .i64 ((↑(List.length g) : Int) - h.1)) && decide (IntKind.wrap .i64 ((↑(List.length g) : Int) - h.1) ≤ (↑(List.length g) : Int)) && decide (IntKind.wrap .i64 ((↑(List.length g) : Int) - h.1) = IntKind.wrap .i64 ((↑(List.length g) : Int) - h.1)))
 (.cond (decide ((List.length (List.take (Int.toNat (IntKind.wrap .i64 ((↑(List.length g) : Int) - h.1)) - Int.toNat 0) (List.drop (0 + Int.toNat 0) g)) + List.length (List.set (List.replicate 1 zV0) 0 j.1.1)) * 40 ≤ 140737488355328) && decide (0 < List.length (List.set (List.replicate 1 zV0) 0 j.1.1)))
 (.ret (.inl (a, b, c, d, IntKind.wrap .i64 (e + 1), f, List.take (Int.toNat (IntKind.wrap .i64 ((↑(List.length g) : Int) - h.1)) - Int.toNat 0) (List.drop (0 + Int.toNat 0) g) ++ List.set (List.replicate 1 zV0) 0 j.1.1, ())))
 (.no))
 (.no))))
 (.no)))))
 (.no))
 (.ret (.inr (.inr (f, g, ())))))
noncomputable def evalE_w0 := iterO fun x => (evalE_l0 x).run
noncomputable def evalE_B : ((Option zA11) × ((List zA12) × (zA21 × Unit))) → Br ((zA8 × Bool) × Unit) := fun (p0, p1, p2, ()) =>
 (.opt (mayT (p1, ())) fun a =>
 (.cond (!a.1)
 (.ret ((zV0, false), ()))
 (.opt (evalE_w0 (p0, p2, p1, (↑(List.length p1) : Int), 0, zV0, [], ())) fun b =>
 (.sum b (fun c =>
 (.ret ((c.1, false), ()))) (fun d =>
 (.cond (decide (0 ≤ 0) && decide (0 < (↑(List.length d.2.1) : Int)))
 (.ret ((List.getD d.2.1 (Int.toNat 0) zV0, true), ()))
 (.no)))))))
noncomputable def evalE := fun x => (evalE_B x).run
noncomputable def evalE_L : List Lp := [
 .mk 5 (shO 68 [(6, .c (.ref 1030 0 0)), (8, .c (.mfull 1724))] [(1030, []), (1724, [])] [.slot 0 true zA17, .slot 2 true zA35, .slot 18 true (.sl zA13), sI 19, sI 20, .tv 1030 false zA4, .ar 1724 false 100 zA4] [8]) ([exO .ret 68 [(6, .c (.ref 1030 0 0)), (7, D.c C.ff)] [(1030, [])] [.tv 1030 false zA4] [], exO (.exit 0) 68 [(6, .c (.ref 1030 0 0)), (8, .c (.mfull 1725))] [(1030, []), (1725, [])] [.tv 1030 false zA4, .ar 1725 false 100 zA4] [8]]) evalE_l0]
theorem evalE_oc : OC Tryz.prog 69 [(false, .ty true zA17), (false, .ty true (.sl zA13)), (false, .ty true zA35)] [.ty false zA4, .ty false .bool] evalE := OC.lp en_applyE 1024 Tryz.func69 evalE_L (by kernel_rfl) ⟨fun _ => by kernel_rfl, trivial⟩ (fun _ => by kernel_rfl)
noncomputable def cx_evalE : Ctx := ocx cx_applyE evalE_oc
theorem en_evalE : EnvFull Tryz.prog cx_evalE := ocn en_applyE evalE_oc
noncomputable def holdsF_B : ((Option zA11) × ((List zA12) × (zA21 × Unit))) → Br (Bool × Unit) := fun (p0, p1, p2, ()) =>
 (.cond ((↑(List.length p1) : Int) == 0)
 (.ret (true, ()))
 (.opt (evalE (p0, p1, p2, ())) fun y5 =>
 (.cond y5.1.2
 (.opt (truthV (true, ())) fun y6 =>
 (.ret (decide (y5.1.1.1 = y6.1.1) && (decide (y5.1.1.2.1 = y6.1.2.1) && (bl y5.1.1.2.2.1 == bl y6.1.2.2.1 && y5.1.1.2.2.2 == y6.1.2.2.2)), ())))
 (.ret (false, ())))))
noncomputable def holdsF := fun x => (holdsF_B x).run
theorem holdsF_oc : OC Tryz.prog 37 [(false, .ty true zA17), (false, .ty true (.sl zA13)), (false, .ty true zA35)] [.ty false .bool] holdsF := OC.lp en_evalE 1024 Tryz.func37 [] (by kernel_rfl) trivial (fun _ => by kernel_rfl)
noncomputable def cx_holdsF : Ctx := ocx cx_evalE holdsF_oc
theorem en_holdsF : EnvFull Tryz.prog cx_holdsF := ocn en_evalE holdsF_oc
end Go.Proofs.YtiblijkhpmemeaaGreat

namespace Go.Proofs.YtiblijkhpmemeaaGreat
open Go.PI Go
abbrev Val := Int × (Int × (ByteArray × Bool))
abbrev Nd := Int × (Val × (ByteArray × ByteArray))
abbrev Evt := ByteArray × (ByteArray × (Int × (Int × List Val)))
abbrev Bnd := ByteArray × Evt
abbrev Flds := List (ByteArray × Int)
abbrev Sch := Option (List (ByteArray × Flds))
def pt (op : Int) : Int := if op = 1 then 0 else if op = 2 then 0 else if op = 3 then 1 else if op = 13 then 1 else if 4 ≤ op then (if op ≤ 15 then 2 else -1) else -1
theorem partsT_at (op : Int) : partsT (op, ()) = some (pt op, ()) := by
 unfold partsT partsT_B pt
 simp only [Br.run, cond_eq_ite, beq_iff_eq, decide_eq_true_eq, ge_iff_le]
 repeat' split
 all_goals first | rfl | omega
theorem letter_tot (c : Int) : ∃ b, letter (c, ()) = some (b, ()) := by
 unfold letter letter_B
 simp only [Br.run, cond_eq_ite]
 repeat' split
 all_goals exact ⟨_, rfl⟩
theorem nameF_w0_tot (s : ByteArray) (hs : s.size ≤ 16) (i : Int) (h0 : 0 ≤ i) (h1 : i ≤ s.size) : ∃ z, nameF_w0 (s, (s.size : Int), i, ()) = some z ∧ ∀ y, z = .inr y → y.1 = s := by
 refine iterO_rec (step := fun x => (nameF_l0 x).run) (Q := fun _ z => ∀ y, z = .inr y → y.1 = s) (fun x => x.1 = s ∧ x.2.1 = (s.size : Int) ∧ 0 ≤ x.2.2.1 ∧ x.2.2.1 ≤ s.size) (fun x => ((s.size : Int) - x.2.2.1).toNat) ?_ _ ⟨rfl, rfl, h0, h1⟩
 rintro ⟨s', n, i, ⟨⟩⟩ hx
 dsimp only at hx ⊢
 obtain ⟨rfl, rfl, h0, h1⟩ := hx
 unfold nameF_l0
 by_cases hi : i < (s'.size : Int)
 ·obtain ⟨b, hb⟩ := letter_tot ((List.getD (bl s') (Int.toNat i) 0).toNat : Int)
  have hw : IntKind.wrap .i64 (i + 1) = i + 1 := Go.PI.wrap_small (by omega) (by omega)
  simp only [Br.run, decide_eq_true hi, decide_eq_true h0, Bool.and_self, cond_true, hb, hw]
  cases b
  ·simp only [Bool.not_false, cond_true, cond_eq_ite, ↓reduceIte]
   split
   ·exact .inr ⟨_, rfl, by intro y hy; cases hy⟩
   ·split
    ·exact .inr ⟨_, rfl, by intro y hy; cases hy⟩
    ·exact .inl ⟨_, rfl, ⟨rfl, rfl, by dsimp only; omega, by dsimp only; omega⟩, by dsimp only; omega, fun z hz => hz⟩
  ·exact .inl ⟨_, rfl, ⟨rfl, rfl, by dsimp only; omega, by dsimp only; omega⟩, by dsimp only; omega, fun z hz => hz⟩
 ·simp only [Br.run, decide_eq_false hi, cond_false]
  exact .inr ⟨_, rfl, by intro y hy; cases hy; rfl⟩
theorem nameF_w1_tot (s : ByteArray) (hs : s.size ≤ 16) (i : Int) (h0 : 0 ≤ i) : ∃ z, nameF_w1 (s, (44 - s.size - 1 : Int), i, ()) = some z ∧ True := by
 refine iterO_rec (step := fun x => (nameF_l1 x).run) (Q := fun _ _ => True) (fun x => x.1 = s ∧ x.2.1 = (44 - s.size - 1 : Int) ∧ 0 ≤ x.2.2.1) (fun x => ((44 : Int) - x.2.2.1).toNat) ?_ _ ⟨rfl, rfl, h0⟩
 rintro ⟨s', n, i, ⟨⟩⟩ hx
 dsimp only at hx ⊢
 obtain ⟨rfl, rfl, h0⟩ := hx
 unfold nameF_l1
 by_cases hi : i < 44 - (s'.size : Int) - 1
 ·have hw : IntKind.wrap .i64 (i + 1) = i + 1 := Go.PI.wrap_small (by omega) (by omega)
  have hw2 : IntKind.wrap .i64 (i + (s'.size : Int)) = i + (s'.size : Int) := Go.PI.wrap_small (by omega) (by omega)
  have hw3 : IntKind.wrap .i64 (i + (s'.size : Int) + 2) = i + (s'.size : Int) + 2 := Go.PI.wrap_small (by omega) (by omega)
  have hsz : ∀ x y : ByteArray, (bcat x y).size = x.size + y.size := fun x y => by
   show (bl x ++ bl y).length = x.data.size + y.data.size
   rw [List.length_append]; rfl
  have h1 : (i ≤ i + (s'.size : Int) + 2) := by omega
  have hW : ({ data := #[32, 83, 69, 81, 32, 87, 72, 69, 82, 69, 32, 87, 73, 84, 72, 73, 78, 32, 67, 65, 80, 32, 97, 110, 100, 32, 111, 114, 32, 110, 111, 116, 32, 116, 114, 117, 101, 32, 102, 97, 108, 115, 101, 32] } : ByteArray).size = 44 := rfl
  have hB : ({ data := #[32] } : ByteArray).size = 1 := rfl
  have h2 : (i + (s'.size : Int) + 2 ≤ ((44 : Nat) : Int)) := by omega
  have h3 : 1 + s'.size ≤ 9223372036854775807 := by omega
  have h4 : 1 + s'.size + 1 ≤ 9223372036854775807 := by omega
  simp only [Br.run, hw, hw2, hw3, hsz, hW, hB, decide_eq_true hi, decide_eq_true h0, decide_eq_true h1, decide_eq_true h2, decide_eq_true h3, decide_eq_true h4, Bool.and_self, cond_true, cond_eq_ite, ↓reduceIte]
  split
  ·exact .inr ⟨_, rfl, trivial⟩
  ·exact .inl ⟨_, rfl, ⟨rfl, rfl, by dsimp only; omega⟩, by dsimp only; omega, fun z hz => hz⟩
 ·simp only [Br.run, decide_eq_false hi, cond_false]
  exact .inr ⟨_, rfl, trivial⟩
theorem nameF_tot (s : ByteArray) : ∃ b, nameF (s, ()) = some (b, ()) := by
 unfold nameF nameF_B
 simp only [Br.run, cond_eq_ite]
 split
 ·exact ⟨_, rfl⟩
 rename_i hne
 split
 ·exact ⟨_, rfl⟩
 rename_i hle
 have hle : s.size ≤ 16 := by simp only [decide_eq_true_eq, gt_iff_lt] at hle; omega
 have hpos : 0 < s.size := by
  rcases Nat.eq_zero_or_pos s.size with h | h
  ·exfalso
   apply hne
   have : bl s = [] := by
    have : s.data.size = 0 := h
    unfold bl
    exact List.eq_nil_of_length_eq_zero (by simpa using this)
   rw [this]; rfl
  ·exact h
 have hp : (0 : Int) < (s.size : Int) := by omega
 simp only [decide_eq_true hp, decide_eq_true (Nat.le_refl 0), decide_eq_true (Int.le_refl 0), decide_true, Bool.and_self, ↓reduceIte, Br.run]
 obtain ⟨b, hb⟩ := letter_tot ((List.getD (bl s) (Int.toNat 0) 0).toNat : Int)
 simp only [hb, Br.run]
 cases b
 ·exact ⟨_, rfl⟩
 obtain ⟨z, hz, hzs⟩ := nameF_w0_tot s hle 0 (by omega) (by omega)
 simp only [Bool.not_true, Bool.false_eq_true, ↓reduceIte, hz, Br.run]
 cases z with
 | inl u => exact ⟨_, rfl⟩
 | inr y =>
  obtain ⟨s', ⟨⟩⟩ := y
  obtain rfl : s' = s := hzs _ rfl
  have hw : IntKind.wrap .i64 (44 - (s'.size : Int)) = 44 - (s'.size : Int) := Go.PI.wrap_small (by omega) (by omega)
  have hw2 : IntKind.wrap .i64 (44 - (s'.size : Int) - 1) = 44 - (s'.size : Int) - 1 := Go.PI.wrap_small (by omega) (by omega)
  obtain ⟨z, hz, -⟩ := nameF_w1_tot s' hle 0 (by omega)
  simp only [hw, hw2, hz, Br.run]
  cases z <;> exact ⟨_, rfl⟩
theorem mayV_tot (v : Val) : ∃ b, mayV (v, ()) = some (b, ()) := by
 unfold mayV mayV_B numV numV_B textV textV_B truthV truthV_B
 simp only [Br.run, cond_eq_ite]
 repeat' split
 all_goals exact ⟨_, rfl⟩
theorem nodeM_tot (n : Nd) : ∃ b, nodeM (n, ()) = some (b, ()) := by
 unfold nodeM nodeM_B
 obtain ⟨b1, h1⟩ := mayV_tot n.2.1
 obtain ⟨b2, h2⟩ := nameF_tot n.2.2.1
 obtain ⟨b3, h3⟩ := nameF_tot n.2.2.2
 simp only [Br.run, cond_eq_ite, h1, h2, h3]
 repeat' split
 all_goals exact ⟨_, rfl⟩
noncomputable def nodeOk (n : Nd) : Bool := match nodeM (n, ()) with
 | some (b, ()) => b
 | none => false
theorem nodeM_at (n : Nd) : nodeM (n, ()) = some (nodeOk n, ()) := by
 obtain ⟨b, h⟩ := nodeM_tot n
 simp only [nodeOk, h]
noncomputable def runD : Int → List Nd → Option Int
 | d, [] => some d
 | d, n :: r => if pt n.1 < 0 then none else if nodeOk n = false then none else if d < pt n.1 then none else runD (d + 1 - pt n.1) r
theorem pt_le (op : Int) : pt op ≤ 2 ∧ -1 ≤ pt op := by
 unfold pt
 repeat' split
 all_goals omega
theorem drop_get {α : Type} (l : List α) (i : Int) (d : α) (h0 : 0 ≤ i) (h1 : i < (l.length : Int)) : l.drop i.toNat = l.getD i.toNat d :: l.drop (i + 1).toNat := by
 have h : i.toNat < l.length := by omega
 have e : (i + 1).toNat = i.toNat + 1 := by omega
 rw [e, List.drop_eq_getElem_cons h]
 simp [List.getD, h]
theorem mayT_w0_at (l : List Nd) (hl : l.length ≤ 64) (d i : Int) (h0 : 0 ≤ i) (h1 : i ≤ l.length) (h2 : 0 ≤ d) (h3 : d ≤ i) :
  mayT_w0 (d, l, (l.length : Int), i, ()) = some (match runD d (l.drop i.toNat) with | none => .inl () | some d' => .inr (d', ())) := by
 suffices h : ∃ z, mayT_w0 (d, l, (l.length : Int), i, ()) = some z ∧ z = (match runD d (l.drop i.toNat) with | none => .inl () | some d' => .inr (d', ())) by
  obtain ⟨z, h, rfl⟩ := h
  exact h
 refine iterO_rec (step := fun x => (mayT_l0 x).run) (Q := fun x z => z = (match runD x.1 (l.drop x.2.2.2.1.toNat) with | none => .inl () | some d' => .inr (d', ()))) (fun x => x.2.1 = l ∧ x.2.2.1 = (l.length : Int) ∧ 0 ≤ x.2.2.2.1 ∧ x.2.2.2.1 ≤ l.length ∧ 0 ≤ x.1 ∧ x.1 ≤ x.2.2.2.1) (fun x => ((l.length : Int) - x.2.2.2.1).toNat) ?_ _ ⟨rfl, rfl, h0, h1, h2, h3⟩
 rintro ⟨d, l', n, i, ⟨⟩⟩ hx
 dsimp only at hx ⊢
 obtain ⟨rfl, rfl, h0, h1, h2, h3⟩ := hx
 unfold mayT_l0
 by_cases hi : i < (l'.length : Int)
 ·have hw : IntKind.wrap .i64 (i + 1) = i + 1 := Go.PI.wrap_small (by omega) (by omega)
  rw [drop_get l' i (0, (0, 0, ByteArray.empty, false), ByteArray.empty, ByteArray.empty) h0 hi]
  simp only [Br.run, decide_eq_true hi, decide_eq_true h0, Bool.and_self, cond_true, hw, partsT_at, nodeM_at, runD, cond_eq_ite, decide_eq_true_eq]
  generalize l'.getD i.toNat (0, (0, 0, ByteArray.empty, false), ByteArray.empty, ByteArray.empty) = nd
  obtain ⟨hp2, hp1⟩ := pt_le nd.1
  have hw1 : IntKind.wrap .i64 (1 - pt nd.1) = 1 - pt nd.1 := Go.PI.wrap_small (by omega) (by omega)
  have hw2 : IntKind.wrap .i64 (d + (1 - pt nd.1)) = d + 1 - pt nd.1 := by rw [Go.PI.wrap_small (by omega) (by omega)]; omega
  simp only [hw1, hw2]
  by_cases hp : pt nd.1 < 0
  ·simp only [hp, if_true]
   exact .inr ⟨_, rfl, rfl⟩
  ·simp only [hp, if_false]
   cases nodeOk nd
   ·simp only [Bool.not_false, if_true]
    exact .inr ⟨_, rfl, rfl⟩
   ·simp only [Bool.not_true, Bool.false_eq_true, Bool.true_eq_false, if_false]
    by_cases hd : d < pt nd.1
    ·simp only [hd, if_true]
     exact .inr ⟨_, rfl, rfl⟩
    ·simp only [hd, if_false]
     exact .inl ⟨_, rfl, ⟨rfl, rfl, by dsimp only; omega, by dsimp only; omega, by dsimp only; omega, by dsimp only; omega⟩, by dsimp only; omega, fun z hz => hz⟩
 ·simp only [Br.run, decide_eq_false hi, cond_false]
  have : l'.drop i.toNat = [] := List.drop_eq_nil_of_le (by omega)
  rw [this]
  exact .inr ⟨_, rfl, rfl⟩
theorem mayT_at (l : List Nd) : mayT (l, ()) = some (decide (l.length ≤ 64) && (runD 0 l == some 1), ()) := by
 unfold mayT mayT_B
 by_cases h : l.length ≤ 64
 ·have h' : ¬ ((l.length : Int) > 64) := by omega
  simp only [Br.run, decide_eq_false h', cond_false, decide_eq_true h, Bool.true_and]
  rw [mayT_w0_at l h 0 0 (by omega) (by omega) (by omega) (by omega)]
  simp only [Int.toNat_zero, List.drop_zero]
  cases runD 0 l with
  | none => rfl
  | some d => rfl
 ·have h' : ((l.length : Int) > 64) := by omega
  simp only [Br.run, decide_eq_true h', cond_true, decide_eq_false h, Bool.false_and]
end Go.Proofs.YtiblijkhpmemeaaGreat

namespace Go.Proofs.YtiblijkhpmemeaaGreat
open Go.PI Go
abbrev zV : Val := (0, 0, ByteArray.empty, false)
abbrev iV (i : Int) : Val := (1, i, ByteArray.empty, false)
abbrev sV (s : ByteArray) : Val := (2, 0, s, false)
abbrev bV (b : Bool) : Val := (3, 0, ByteArray.empty, b)
theorem numbersE_w0_at (op : Int) (k : List Val) (hk : k.length ≤ 64) (i : Int) (h0 : 0 ≤ i) (h1 : i ≤ k.length) (v : Val) :
  numbersE_w0 (op, k, k, (k.length : Int), i, v, ()) = some (if (k.drop i.toNat).all (fun x => x.1 == 1) = true then .inr (op, k, v, ()) else .inl (zV, ())) := by
 suffices h : ∃ z, numbersE_w0 (op, k, k, (k.length : Int), i, v, ()) = some z ∧ z = (if (k.drop i.toNat).all (fun x => x.1 == 1) = true then .inr (op, k, v, ()) else .inl (zV, ())) by
  obtain ⟨z, h, rfl⟩ := h
  exact h
 refine iterO_rec (step := fun x => (numbersE_l0 x).run) (Q := fun x z => z = (if (k.drop x.2.2.2.2.1.toNat).all (fun x => x.1 == 1) = true then .inr (op, k, v, ()) else .inl (zV, ()))) (fun x => x.1 = op ∧ x.2.1 = k ∧ x.2.2.1 = k ∧ x.2.2.2.1 = (k.length : Int) ∧ 0 ≤ x.2.2.2.2.1 ∧ x.2.2.2.2.1 ≤ k.length ∧ x.2.2.2.2.2.1 = v) (fun x => ((k.length : Int) - x.2.2.2.2.1).toNat) ?_ _ ⟨rfl, rfl, rfl, rfl, h0, h1, rfl⟩
 rintro ⟨op', k', k'', n, i, v', ⟨⟩⟩ hx
 dsimp only at hx ⊢
 obtain ⟨rfl, rfl, rfl, rfl, h0, h1, rfl⟩ := hx
 unfold numbersE_l0
 by_cases hi : i < (k''.length : Int)
 ·have hw : IntKind.wrap .i64 (i + 1) = i + 1 := Go.PI.wrap_small (by omega) (by omega)
  rw [drop_get k'' i (0, 0, ByteArray.empty, false) h0 hi]
  simp only [Br.run, decide_eq_true hi, decide_eq_true h0, Bool.and_self, cond_true, hw, cond_eq_ite, List.all_cons, bne]
  by_cases hq : ((k''.getD i.toNat (0, 0, ByteArray.empty, false)).1 == 1) = true
  ·simp only [hq, Bool.true_and, Bool.not_true, Bool.false_eq_true, ↓reduceIte]
   exact .inl ⟨_, rfl, ⟨rfl, rfl, rfl, rfl, by dsimp only; omega, by dsimp only; omega, rfl⟩, by dsimp only; omega, fun z hz => hz⟩
  ·simp only [hq, Bool.false_and, Bool.not_false, Bool.false_eq_true, ↓reduceIte]
   exact .inr ⟨_, rfl, rfl⟩
 ·simp only [Br.run, decide_eq_false hi, cond_false]
  have : k''.drop i.toNat = [] := List.drop_eq_nil_of_le (by omega)
  rw [this]
  exact .inr ⟨_, rfl, rfl⟩
theorem truthsE_w0_at (op : Int) (k : List Val) (hk : k.length ≤ 64) (i : Int) (h0 : 0 ≤ i) (h1 : i ≤ k.length) (v : Val) :
  truthsE_w0 (op, k, k, (k.length : Int), i, v, ()) = some (if (k.drop i.toNat).all (fun x => x.1 == 3) = true then .inr (op, k, v, ()) else .inl (zV, ())) := by
 suffices h : ∃ z, truthsE_w0 (op, k, k, (k.length : Int), i, v, ()) = some z ∧ z = (if (k.drop i.toNat).all (fun x => x.1 == 3) = true then .inr (op, k, v, ()) else .inl (zV, ())) by
  obtain ⟨z, h, rfl⟩ := h
  exact h
 refine iterO_rec (step := fun x => (truthsE_l0 x).run) (Q := fun x z => z = (if (k.drop x.2.2.2.2.1.toNat).all (fun x => x.1 == 3) = true then .inr (op, k, v, ()) else .inl (zV, ()))) (fun x => x.1 = op ∧ x.2.1 = k ∧ x.2.2.1 = k ∧ x.2.2.2.1 = (k.length : Int) ∧ 0 ≤ x.2.2.2.2.1 ∧ x.2.2.2.2.1 ≤ k.length ∧ x.2.2.2.2.2.1 = v) (fun x => ((k.length : Int) - x.2.2.2.2.1).toNat) ?_ _ ⟨rfl, rfl, rfl, rfl, h0, h1, rfl⟩
 rintro ⟨op', k', k'', n, i, v', ⟨⟩⟩ hx
 dsimp only at hx ⊢
 obtain ⟨rfl, rfl, rfl, rfl, h0, h1, rfl⟩ := hx
 unfold truthsE_l0
 by_cases hi : i < (k''.length : Int)
 ·have hw : IntKind.wrap .i64 (i + 1) = i + 1 := Go.PI.wrap_small (by omega) (by omega)
  rw [drop_get k'' i (0, 0, ByteArray.empty, false) h0 hi]
  simp only [Br.run, decide_eq_true hi, decide_eq_true h0, Bool.and_self, cond_true, hw, cond_eq_ite, List.all_cons, bne]
  by_cases hq : ((k''.getD i.toNat (0, 0, ByteArray.empty, false)).1 == 3) = true
  ·simp only [hq, Bool.true_and, Bool.not_true, Bool.false_eq_true, ↓reduceIte]
   exact .inl ⟨_, rfl, ⟨rfl, rfl, rfl, rfl, by dsimp only; omega, by dsimp only; omega, rfl⟩, by dsimp only; omega, fun z hz => hz⟩
  ·simp only [hq, Bool.false_and, Bool.not_false, Bool.false_eq_true, ↓reduceIte]
   exact .inr ⟨_, rfl, rfl⟩
 ·simp only [Br.run, decide_eq_false hi, cond_false]
  have : k''.drop i.toNat = [] := List.drop_eq_nil_of_le (by omega)
  rw [this]
  exact .inr ⟨_, rfl, rfl⟩
def cmpT (op : Int) (lt eq : Bool) : Bool := if op = 7 then eq else if op = 8 then !eq else if op = 9 then lt else if op = 10 then lt || eq else if op = 11 then !lt && !eq else !lt
theorem holdsE_at (op c : Int) : holdsE (op, c, ()) = some (cmpT op (decide (c < 0)) (decide (c = 0)), ()) := by
 unfold holdsE holdsE_B cmpT
 simp only [Br.run, cond_eq_ite, beq_iff_eq]
 by_cases h7 : op = 7
 ·simp only [h7, ↓reduceIte]; rfl
 by_cases h8 : op = 8
 ·simp only [h8, ↓reduceIte]; rfl
 by_cases h9 : op = 9
 ·simp only [h9, ↓reduceIte]; rfl
 by_cases h10 : op = 10
 ·simp only [h10, ↓reduceIte]
  have : decide (c ≤ 0) = (decide (c < 0) || decide (c = 0)) := by
   rw [Bool.eq_iff_iff]; simp; omega
  rw [this]; rfl
 by_cases h11 : op = 11
 ·simp only [h11, ↓reduceIte]
  have : decide (c > 0) = (!decide (c < 0) && !decide (c = 0)) := by
   rw [Bool.eq_iff_iff]; simp; omega
  rw [this]; rfl
 simp only [h7, h8, h9, h10, h11, ↓reduceIte]
 have : decide (c ≥ 0) = !decide (c < 0) := by
  rw [Bool.eq_iff_iff]; simp
 rw [this]
end Go.Proofs.YtiblijkhpmemeaaGreat
