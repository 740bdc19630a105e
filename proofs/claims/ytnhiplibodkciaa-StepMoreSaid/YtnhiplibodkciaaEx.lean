/- strings.Compare's contract, whose entry has no body. -/
import Derived.Test.YtnhiplibodkciaaRb
import Derived.Lib.Bytealg
import Derived.ProofKit
namespace Go.PI
open Go.RowKit
variable {P : Program} {c : Ctx} {g : Cfg} {s st : St} {a : Act} {w : World} {μ : Nm} {I : Bool → Nat → Prop}

theorem ext_wp (h : Rel g s a w μ I) {o : Oper} {f : Nat} {args : Array Operand} {ts : Array TypeId} (ho : o.op = .call { callee := .value (.func f), args := args, argTypes := ts }) {v : Value} {d : D} (hrun : (callFunc f (args.map a.eval)).run P w = .ok (.value v) w) (hd : RD μ I w (shp s.m) d v)
    {Kc : Act → World → Prop} (hK : ∀ a' w', Ok g (s.putd o.dst d) a' w' → Kc a' w') (Q : Exit → Act → World → Prop) : o.wp P a w Kc Q := by
  refine wp_value (v := v) (w' := w) ?_ (hK _ _ ⟨μ, I, h.putd hd⟩)
  unfold execOp
  have e : (#[] ++ args.map a.eval ++ #[] : Array Value) = args.map a.eval := by simp
  have e0 : a.eval (.func f) = .func (.func f) #[] #[] := rfl
  simp only [ho, resolve, Deferred.ofValue, e0, invoke, Sem.run_bind, Sem.run_pure, Result.andThen_ok, e, hrun]

/-- A contract by typed data, of two that come in. -/
theorem OC.of_t2 {f : Nat} {τ1 τ2 σ : Ty} {pre : Args [(true, τ1), (true, τ2)] → Bool} {F : Args [(true, τ1), (true, τ2)] → Res [σ]} (h : TSpec P f [(true, τ1), (true, τ2)] [σ] pre F) {G : PArgs [(false, .ty false τ1), (false, .ty false τ2)] → Option (POuts [.ty false σ] × PBack [(false, .ty false τ1), (false, .ty false τ2)])}
    (hG : ∀ xs y, G xs = some y → pre xs = true ∧ y = (F xs, ())) : OC P f [(false, .ty false τ1), (false, .ty false τ2)] [.ty false σ] G := by
  refine ⟨h.fn, fun w J hJ hlt xs vs B hx hnd hB y hy => ?_⟩
  obtain ⟨h1, rfl⟩ := hG xs y hy
  obtain ⟨v, l, B1, B2, rfl, rfl, ⟨rfl, h2⟩, u, k, B3, B4, rfl, rfl, ⟨rfl, h3⟩, rfl, rfl⟩ := hx
  refine (h.ok w J hJ hlt xs [v, u] ⟨v, [u], rfl, h2, u, [], rfl, h3, rfl⟩ h1).mono ?_
  rintro e w' ⟨u, rfl, r1, r2, r3, r4, r5, r6⟩
  refine ⟨u, fun b => J false b ∨ (w.heap.size ≤ b ∧ b < w'.heap.size), [], [], rfl, ⟨rfl, r1⟩, rfl, List.nodup_nil, fun b hb => by simp at hb, fun b hb => .inl hb, fun b hb => ?_, r2, r3, r4, r5, fun b hb _ => r6 b hb⟩
  rcases hb with hb | hb
  · have := hlt b (hJ b hb)
    exact ⟨.inl hb, by omega⟩
  · exact ⟨.inr (.inr hb.1), hb.2⟩

theorem cmp_small : ∀ (x y : List UInt8), -1 ≤ Lib.compareBytes x y ∧ Lib.compareBytes x y ≤ 1
  | [], [] => by simp [Lib.compareBytes]
  | [], _ :: _ => by simp [Lib.compareBytes]
  | _ :: _, [] => by simp [Lib.compareBytes]
  | a :: la, b :: lb => by
    unfold Lib.compareBytes
    split
    · omega
    · split
      · omega
      · exact cmp_small la lb

def cmp1 : Array Oper := #[⟨some 5, .move (.tmp 0), 9, "compare_native.go:15", #[], none⟩, ⟨some 6, .move (.tmp 1), 9, "compare_native.go:15", #[], none⟩]
def cmp2 (f : Nat) : Oper := ⟨some 7, .call { callee := .value (.func f), args := #[.tmp 5, .tmp 6], argTypes := #[9, 9] }, 3, "compare_native.go:15", #[⟨0, .data⟩, ⟨1, .data⟩], none⟩
def cmp3 : Oper := ⟨some 4, .assign (.tmp 7), 3, "compare_native.go:15", #[⟨2, .data⟩, ⟨2, .chain⟩, ⟨0, .phase⟩, ⟨1, .phase⟩, ⟨2, .phase⟩], none⟩
def cmpOps (f : Nat) : Array Oper := #[⟨some 5, .move (.tmp 0), 9, "compare_native.go:15", #[], none⟩, ⟨some 6, .move (.tmp 1), 9, "compare_native.go:15", #[], none⟩, cmp2 f, cmp3]
def cmpCode (f : Nat) : Code := .seq (.region 0 #[⟨some 4, .assign (.const (.int .i64 0)), 3, "compare_native.go:14", #[], none⟩] false) (.seq (.region 1 (cmpOps f) false) .ret)

theorem cmpString_spec (he : EnvFull P c) {f h : Nat} {fn : Func} (hf : P.funcs[f]? = some fn) (hn : (fn.name == "runtime.NumGoroutine") = false) (hb : fn.body = some (cmpCode h)) (hres : fn.results.toList = [.tmp 4]) (hnt : fn.ntmps = 8)
    (hcall : ∀ (a b : ByteArray) (w : World), (callFunc h #[.string a, .string b]).run P w = .ok (.value (.int .i64 (Lib.compareBytes a.data.toList b.data.toList))) w) :
    TSpec P f [(true, .str), (true, .str)] [.int .i64] (fun _ => true) (fun xs => Lib.compareBytes xs.1.data.toList xs.2.1.data.toList) := by
  refine TSpec.of_tri he hf hn hb ?_
  rintro ⟨x, y, ⟨⟩⟩ _
  let X : D := .c (.ty false .str x)
  let Y : D := .c (.ty false .str y)
  let R : D := .c (.ty false (.int .i64) (Lib.compareBytes x.data.toList y.data.toList))
  let sF : St := ⟨[X, Y, .c .bad, .c .bad, R, X, Y, R], [], []⟩
  refine ⟨fun e' st => e' = .ret ∧ st = sF, ?_, ?_⟩
  · intro g hg
    let c' : Ctx := { c with base := (0 + 1) * 1024 }
    have he' : EnvFull P c' := { tb := he.tb, eqs := he.eqs, orc := he.orc, mixed := he.mixed }
    let p0 : Par := { sh := fun _ => none, k := 0 }
    have lo : ∀ code : Code, LoOk P g p0 code := fun code => LoOk.none fun _ => rfl
    rw [hnt]
    show Tri P g (cmpCode h) ⟨[X, Y, .c .bad, .c .bad, .c .bad, .c .bad, .c .bad, .c .bad], [], []⟩ _
    unfold cmpCode
    refine Tri.seq (M := fun st => st = ⟨[X, Y, .c .bad, .c .bad, .c (.ty false (.int .i64) 0), .c .bad, .c .bad, .c .bad], [], []⟩) (Tri.run he' p0 (lo _) (y := .normal) (st := ⟨[X, Y, .c .bad, .c .bad, .c (.ty false (.int .i64) 0), .c .bad, .c .bad, .c .bad], [], []⟩) rfl rfl) ?_
    rintro st rfl
    refine Tri.seq (M := fun st => st = sF) ?_ ?_
    · intro a w hok
      refine wp_region ?_
      show wpOps P (cmpOps h) _ [0, 1, 2, 3] a w
      unfold wpOps
      show if Region.wanted (⟨some 5, .move (.tmp 0), 9, "compare_native.go:15", #[], none⟩ : Oper) (yielded (cmpOps h) a.tmps) = true then _ else _
      rw [if_pos (show Region.wanted _ _ = true from rfl)]
      refine .inl (oper_ok he' _ g _ ⟨[X, Y, .c .bad, .c .bad, .c (.ty false (.int .i64) 0), X, .c .bad, .c .bad], [], []⟩ a w _ _ hok rfl fun a w hok => ?_)
      unfold wpOps
      show if Region.wanted (⟨some 6, .move (.tmp 1), 9, "compare_native.go:15", #[], none⟩ : Oper) (yielded (cmpOps h) a.tmps) = true then _ else _
      rw [if_pos (show Region.wanted _ _ = true from rfl)]
      refine .inl (oper_ok he' _ g _ ⟨[X, Y, .c .bad, .c .bad, .c (.ty false (.int .i64) 0), X, Y, .c .bad], [], []⟩ a w _ _ hok rfl fun a w hok => ?_)
      unfold wpOps
      show if Region.wanted (cmp2 h) (yielded (cmpOps h) a.tmps) = true then _ else _
      rw [if_pos (show Region.wanted _ _ = true from rfl)]
      refine .inl ?_
      obtain ⟨μ, I, hr⟩ := hok
      have h5 := hr.tm 5
      have h6 := hr.tm 6
      have e5 : a.eval (.tmp 5) = .string x := (RD.str (t := false) h5).1
      have e6 : a.eval (.tmp 6) = .string y := (RD.str (t := false) h6).1
      refine ext_wp hr (o := cmp2 h) rfl (v := .int .i64 (Lib.compareBytes x.data.toList y.data.toList)) (d := R) ?_ ?_ (fun a w hok => ?_) _
      · have e : (#[Operand.tmp 5, Operand.tmp 6] : Array Operand).map a.eval = #[.string x, .string y] := by simp [e5, e6]
        rw [e]
        exact hcall x y w
      · exact RD.ofInt (by
          have := cmp_small x.data.toList y.data.toList
          simp [InK, IntKind.min, IntKind.max, IntKind.signed, IntKind.bits]
          omega) false
      · unfold wpOps
        show if Region.wanted cmp3 (yielded (cmpOps h) a.tmps) = true then _ else _
        rw [if_pos (show Region.wanted _ _ = true from rfl)]
        refine .inl (oper_ok he' _ g _ sF a w _ _ hok rfl fun a w hok => ?_)
        exact ⟨sF, rfl, hok⟩
    · rintro st rfl
      exact Tri.ret ⟨rfl, rfl⟩
  · rintro e' st ⟨rfl, rfl⟩
    refine ⟨.inr rfl, ?_⟩
    unfold resultsOf settle resultsD
    rw [hres]
    exact ⟨R, [], [], rfl, rfl⟩
end Go.PI
namespace Go.Proofs.Ytnhiplibodkciaa
open Go.PI Go Go.RowKit
noncomputable def cmpStr : (ByteArray × (ByteArray × Unit)) → Option (Int × Unit) := fun x => some (Lib.compareBytes x.1.data.toList x.2.1.data.toList, ())
abbrev cmpStr_ins : List (Bool × Pat) := [(false, .ty false .str), (false, .ty false .str)]
abbrev cmpStr_outs : List Pat := [.ty false (.int .i64)]
set_option maxRecDepth 100000 in
theorem cmpStr_oc : OC Try.prog 176 cmpStr_ins cmpStr_outs cmpStr :=
  OC.of_t2 (cmpString_spec (h := 184) en_signV Try.func176 (by kernel_rfl) (by kernel_rfl) (by kernel_rfl) (by kernel_rfl) fun a b w => by
    rw [run_callFunc_extern Try.func184 (by kernel_rfl) (by kernel_rfl) (by kernel_rfl) (e := Extern.BytealgCompare.compare) (by kernel_rfl), Lib.run_compareString]
    rfl) fun xs y hy => ⟨rfl, (Option.some.inj hy).symm⟩
noncomputable def cx_cmpStr : Ctx := addO cx_signV 176 (ocOrc cmpStr_ins cmpStr_outs cmpStr)
theorem en_cmpStr : EnvFull Try.prog cx_cmpStr := env_add en_signV cmpStr_oc.callOk
end Go.Proofs.Ytnhiplibodkciaa
