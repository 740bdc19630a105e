/- The statements' own example comes out: copies, the schema and Match by contracts, all else in place. -/
import Derived.Test.YtiblijkhpmemeaaW11
namespace Go.Proofs.Ytiblijkhpmemeaa
set_option maxRecDepth 100000
open Go.PI Go
theorem OC.le {P : Program} {f : Nat} {ins : List (Bool × Pat)} {outs : List Pat} {F F' : PArgs ins → Option (POuts outs × PBack ins)} (h : OC P f ins outs F) (hle : ∀ x, OLe (F' x) (F x)) : OC P f ins outs F' := ⟨h.fn, fun w J a b xs vs B hp hn hb y hy => h.ok w J a b xs vs B hp hn hb y (hle xs y hy)⟩
def p60 : Par := { sh := fun _ => none, k := 60 }
theorem l60 : ∀ i, p60.lo i = none := fun _ => rfl
abbrev aValT : Ty := .st (.pair (.int .i64) (.pair (.int .i64) (.pair .str .bool)))
abbrev aEvtT : Ty := .st (.pair .str (.pair .str (.pair (.int .i64) (.pair (.int .i64) (.sl aValT)))))
abbrev aPairT : Ty := .st (.pair (.int .i64) (.int .i64))
noncomputable def aCl48 : ((List (Ty.T aEvtT)) × Unit) → Option ((List (Ty.T aEvtT)) × Unit) := fun x => bif bound (0 + List.length x.1) 72 then some (x.1, ()) else none
theorem acl48 : OC Try.prog 33 [(false, .ty false (.sl aEvtT))] [.ty false (.sl aEvtT)] aCl48 := OC.clone (k := true) (clone_specB (t := 53) (e := 52) (by_ := 24) (b2 := 72) en0 Try.func33 (by kernel_rfl) (by kernel_rfl) (by kernel_rfl) (by kernel_rfl) (by kernel_rfl) false rfl fun l => ⟨.c .bad, [1031, 1029, 1029], by kernel_rfl⟩)
noncomputable def aCl52 : ((List (Ty.T aPairT)) × Unit) → Option ((List (Ty.T aPairT)) × Unit) := fun x => bif bound (0 + List.length x.1) 16 then some (x.1, ()) else none
theorem acl52 : OC Try.prog 37 [(false, .ty true (.sl aPairT))] [.ty false (.sl aPairT)] aCl52 := OC.clone (k := false) (clone_specB (t := 22) (e := 24) (by_ := 24) (b2 := 16) en0 Try.func37 (by kernel_rfl) (by kernel_rfl) (by kernel_rfl) (by kernel_rfl) (by kernel_rfl) true rfl fun l => ⟨.c .bad, [1031, 1029, 1029], by kernel_rfl⟩)
theorem newS_oc2 : OC Try.prog 13 newS_ins newS_outs (newS_n 100) := OC.le newS_oc (newS_le 100)
theorem matchT_oc2 : OC Try.prog 15 matchT_ins matchT_outs (matchT_n 60) := OC.le matchT_oc (matchT_le 60)
noncomputable def ac0 : Ctx := withF (addO (addO (addO (addO cx0 13 (ocOrc newS_ins newS_outs (newS_n 100))) 15 (ocOrc matchT_ins matchT_outs (matchT_n 60))) 33 (ocOrc [(false, .ty false (.sl aEvtT))] [.ty false (.sl aEvtT)] aCl48)) 37 (ocOrc [(false, .ty true (.sl aPairT))] [.ty false (.sl aPairT)] aCl52)) [14]
theorem ae0 : EnvFull Try.prog ac0 := env_F (env_add (env_add (env_add (env_add en0 newS_oc2.callOk) matchT_oc2.callOk) acl48.callOk) acl52.callOk) [14]
noncomputable def afns : List (Nat × Func) := [(6, Try.f6), (14, Try.f14), (22, Try.f22), (23, Try.f23), (24, Try.f24), (4, Try.f4), (34, Try.f34), (35, Try.f35), (36, Try.f36), (38, Try.f38), (39, Try.f39), (40, Try.f40), (41, Try.f41), (9, Try.f9), (10, Try.f10), (11, Try.f11), (12, Try.f12), (50, Try.f50), (51, Try.f51), (52, Try.f52), (53, Try.f53), (62, Try.f62), (16, Try.f16), (17, Try.f17), (66, Try.f66)]
theorem afnsOk : FnsOk Try.prog afns := (fns_cons Try.func6 (by kernel_rfl) (fns_cons Try.func14 (by kernel_rfl) (fns_cons Try.func22 (by kernel_rfl) (fns_cons Try.func23 (by kernel_rfl) (fns_cons Try.func24 (by kernel_rfl) (fns_cons Try.func4 (by kernel_rfl) (fns_cons Try.func34 (by kernel_rfl) (fns_cons Try.func35 (by kernel_rfl) (fns_cons Try.func36 (by kernel_rfl) (fns_cons Try.func38 (by kernel_rfl) (fns_cons Try.func39 (by kernel_rfl) (fns_cons Try.func40 (by kernel_rfl) (fns_cons Try.func41 (by kernel_rfl) (fns_cons Try.func9 (by kernel_rfl) (fns_cons Try.func10 (by kernel_rfl) (fns_cons Try.func11 (by kernel_rfl) (fns_cons Try.func12 (by kernel_rfl) (fns_cons Try.func50 (by kernel_rfl) (fns_cons Try.func51 (by kernel_rfl) (fns_cons Try.func52 (by kernel_rfl) (fns_cons Try.func53 (by kernel_rfl) (fns_cons Try.func62 (by kernel_rfl) (fns_cons Try.func16 (by kernel_rfl) (fns_cons Try.func17 (by kernel_rfl) (fns_cons Try.func66 (by kernel_rfl) fns_nil)))))))))))))))))))))))))
noncomputable def ac9 : Ctx := autoC ac0 p60 afns 14
theorem ae9 : EnvFull Try.prog ac9 := env_auto ae0 l60 afnsOk 14
theorem awake20_eq : yes (inl ac9 p60 Try.f6 (bodyOf Try.f6) 0 [] []) = true := by kernel_rfl
theorem awake20_spec : TSpec Try.prog 6 [] [.bool] (fun _ => true) (fun _ => true) :=
 TSpec.of_yes ae9 Try.func6 (by kernel_rfl) (p := p60) (fun g _ => LoOk.none l60) fun _ _ => awake20_eq
theorem OC.of_t0 {P : Program} {f : Nat} {σ : Ty} {pre : Args [] → Bool} {F : Args [] → Res [σ]} (h : TSpec P f [] [σ] pre F) {G : PArgs [] → Option (POuts [.ty false σ] × PBack [])}
  (hG : ∀ y, G () = some y → pre () = true ∧ y = (F (), ())) : OC P f [] [.ty false σ] G := by
 refine ⟨h.fn, fun w J hJ hlt xs vs B hx hnd hB y hy => ?_⟩
 obtain ⟨h1, rfl⟩ := hG y hy
 obtain ⟨rfl, rfl⟩ := hx
 refine (h.ok w J hJ hlt () [] rfl h1).mono ?_
 rintro e w' ⟨u, rfl, r1, r2, r3, r4, r5, r6⟩
 refine ⟨u, fun b => J false b ∨ (w.heap.size ≤ b ∧ b < w'.heap.size), [], [], rfl, ⟨rfl, r1⟩, rfl, List.nodup_nil, fun b hb => by simp at hb, fun b hb => .inl hb, fun b hb => ?_, r2, r3, r4, r5, fun b hb _ => r6 b hb⟩
 rcases hb with hb | hb
 ·have := hlt b (hJ b hb)
  exact ⟨.inl hb, by omega⟩
 ·exact ⟨.inr (.inr hb.1), hb.2⟩
noncomputable def awake20 : Unit → Option (Bool × Unit) := fun _ => some (true, ())
abbrev awake20_ins : List (Bool × Pat) := []
abbrev awake20_outs : List Pat := [.ty false .bool]
theorem awake20_oc : OC Try.prog 6 awake20_ins awake20_outs awake20 := OC.of_t0 awake20_spec fun y hy => ⟨rfl, (Option.some.inj hy).symm⟩
theorem awake20_at : awake20 () = some (true, ()) := rfl
noncomputable def cx_awake20 : Ctx := addO cx_whyT 6 (ocOrc awake20_ins awake20_outs awake20)
theorem en_awake20 : EnvFull Try.prog cx_awake20 := env_add en_whyT awake20_oc.callOk
end Go.Proofs.Ytiblijkhpmemeaa
