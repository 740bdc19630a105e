/- The statements' own example comes out: copies, the schema and Match by contracts, all else in place. -/
import Derived.Test.YtiblijkhpmemeaaGreatW11
namespace Go.Proofs.YtiblijkhpmemeaaGreat
set_option maxRecDepth 100000
open Go.PI Go
theorem OC.le {P : Program} {f : Nat} {ins : List (Bool × Pat)} {outs : List Pat} {F F' : PArgs ins → Option (POuts outs × PBack ins)} (h : OC P f ins outs F) (hle : ∀ x, OLe (F' x) (F x)) : OC P f ins outs F' := ⟨h.fn, fun w J a b xs vs B hp hn hb y hy => h.ok w J a b xs vs B hp hn hb y (hle xs y hy)⟩
def p60 : Par := { sh := fun _ => none, k := 60 }
theorem l60 : ∀ i, p60.lo i = none := fun _ => rfl
abbrev aValT : Ty := .st (.pair (.int .i64) (.pair (.int .i64) (.pair .str .bool)))
abbrev aEvtT : Ty := .st (.pair .str (.pair .str (.pair (.int .i64) (.pair (.int .i64) (.sl aValT)))))
abbrev aPairT : Ty := .st (.pair (.int .i64) (.int .i64))
noncomputable def aCl48 : ((List (Ty.T aEvtT)) × Unit) → Option ((List (Ty.T aEvtT)) × Unit) := fun x => bif bound (0 + List.length x.1) 72 then some (x.1, ()) else none
theorem acl48 : OC Tryz.prog 48 [(false, .ty false (.sl aEvtT))] [.ty false (.sl aEvtT)] aCl48 := OC.clone (k := true) (clone_specB (t := 23) (e := 52) (by_ := 24) (b2 := 72) en0 Tryz.func48 (by kernel_rfl) (by kernel_rfl) (by kernel_rfl) (by kernel_rfl) (by kernel_rfl) false rfl fun l => ⟨.c .bad, [1031, 1029, 1029], by kernel_rfl⟩)
noncomputable def aCl52 : ((List (Ty.T aPairT)) × Unit) → Option ((List (Ty.T aPairT)) × Unit) := fun x => bif bound (0 + List.length x.1) 16 then some (x.1, ()) else none
theorem acl52 : OC Tryz.prog 52 [(false, .ty true (.sl aPairT))] [.ty false (.sl aPairT)] aCl52 := OC.clone (k := false) (clone_specB (t := 41) (e := 45) (by_ := 24) (b2 := 16) en0 Tryz.func52 (by kernel_rfl) (by kernel_rfl) (by kernel_rfl) (by kernel_rfl) (by kernel_rfl) true rfl fun l => ⟨.c .bad, [1031, 1029, 1029], by kernel_rfl⟩)
theorem newS_oc2 : OC Tryz.prog 6 newS_ins newS_outs (newS_n 100) := OC.le newS_oc (newS_le 100)
theorem matchT_oc2 : OC Tryz.prog 18 matchT_ins matchT_outs (matchT_n 60) := OC.le matchT_oc (matchT_le 60)
noncomputable def ac0 : Ctx := withF (addO (addO (addO (addO cx0 6 (ocOrc newS_ins newS_outs (newS_n 100))) 18 (ocOrc matchT_ins matchT_outs (matchT_n 60))) 48 (ocOrc [(false, .ty false (.sl aEvtT))] [.ty false (.sl aEvtT)] aCl48)) 52 (ocOrc [(false, .ty true (.sl aPairT))] [.ty false (.sl aPairT)] aCl52)) [12]
theorem ae0 : EnvFull Tryz.prog ac0 := env_F (env_add (env_add (env_add (env_add en0 newS_oc2.callOk) matchT_oc2.callOk) acl48.callOk) acl52.callOk) [12]
noncomputable def afns : List (Nat × Func) := [(10, Tryz.f10), (12, Tryz.f12), (28, Tryz.f28), (29, Tryz.f29), (30, Tryz.f30), (31, Tryz.f31), (49, Tryz.f49), (50, Tryz.f50), (51, Tryz.f51), (53, Tryz.f53), (54, Tryz.f54), (55, Tryz.f55), (56, Tryz.f56), (57, Tryz.f57), (58, Tryz.f58), (59, Tryz.f59), (60, Tryz.f60), (74, Tryz.f74), (75, Tryz.f75), (76, Tryz.f76), (77, Tryz.f77), (86, Tryz.f86), (87, Tryz.f87), (88, Tryz.f88), (94, Tryz.f94)]
theorem afnsOk : FnsOk Tryz.prog afns := (fns_cons Tryz.func10 (by kernel_rfl) (fns_cons Tryz.func12 (by kernel_rfl) (fns_cons Tryz.func28 (by kernel_rfl) (fns_cons Tryz.func29 (by kernel_rfl) (fns_cons Tryz.func30 (by kernel_rfl) (fns_cons Tryz.func31 (by kernel_rfl) (fns_cons Tryz.func49 (by kernel_rfl) (fns_cons Tryz.func50 (by kernel_rfl) (fns_cons Tryz.func51 (by kernel_rfl) (fns_cons Tryz.func53 (by kernel_rfl) (fns_cons Tryz.func54 (by kernel_rfl) (fns_cons Tryz.func55 (by kernel_rfl) (fns_cons Tryz.func56 (by kernel_rfl) (fns_cons Tryz.func57 (by kernel_rfl) (fns_cons Tryz.func58 (by kernel_rfl) (fns_cons Tryz.func59 (by kernel_rfl) (fns_cons Tryz.func60 (by kernel_rfl) (fns_cons Tryz.func74 (by kernel_rfl) (fns_cons Tryz.func75 (by kernel_rfl) (fns_cons Tryz.func76 (by kernel_rfl) (fns_cons Tryz.func77 (by kernel_rfl) (fns_cons Tryz.func86 (by kernel_rfl) (fns_cons Tryz.func87 (by kernel_rfl) (fns_cons Tryz.func88 (by kernel_rfl) (fns_cons Tryz.func94 (by kernel_rfl) fns_nil)))))))))))))))))))))))))
noncomputable def ac9 : Ctx := autoC ac0 p60 afns 14
theorem ae9 : EnvFull Tryz.prog ac9 := env_auto ae0 l60 afnsOk 14
theorem awake20_eq : yes (inl ac9 p60 Tryz.f10 (bodyOf Tryz.f10) 0 [] []) = true := by kernel_rfl
theorem awake20_spec : TSpec Tryz.prog 10 [] [.bool] (fun _ => true) (fun _ => true) :=
 TSpec.of_yes ae9 Tryz.func10 (by kernel_rfl) (p := p60) (fun g _ => LoOk.none l60) fun _ _ => awake20_eq
theorem OC.of_t0 {P : Program} {f : Nat} {σ : Ty} {pre : Args [] → Bool} {F : Args [] → Res [σ]} (h : TSpec P f [] [σ] pre F) {G : PArgs [] → Option (POuts [.ty false σ] × PBack [])}
  (hG : ∀ y, G () = some y → pre () = true ∧ y = (F (), ())) : OC P f [] [.ty false σ] G := by
 refine ⟨h.fn, fun w J hJ hlt xs vs B hx hnd hB y hy => ?_⟩
 obtain ⟨h1, rfl⟩ := hG y hy
 obtain ⟨rfl, rfl⟩ := hx
 refine (h.ok w J hJ hlt () [] rfl h1).mono ?_
 rintro e w' ⟨u, rfl, r1, r2, r3, r4, r5, r6⟩
 refine ⟨u, fun b => J false b ∨ (w.heap.size ≤ b ∧ b < w'.heap.size), [], [], rfl, ⟨rfl, r1⟩, rfl, List.nodup_nil, fun b hb => by simp at hb, fun b hb => .inl hb, fun b hb => ?_, r2, r3, r4, r5, fun b hb _ => r6 b hb⟩
 rcases hb with hb | hb
 ·have := hlt b (hJ b hb)
  exact ⟨.inl hb, by omega⟩
 ·exact ⟨.inr (.inr hb.1), hb.2⟩
noncomputable def awake20 : Unit → Option (Bool × Unit) := fun _ => some (true, ())
abbrev awake20_ins : List (Bool × Pat) := []
abbrev awake20_outs : List Pat := [.ty false .bool]
theorem awake20_oc : OC Tryz.prog 10 awake20_ins awake20_outs awake20 := OC.of_t0 awake20_spec fun y hy => ⟨rfl, (Option.some.inj hy).symm⟩
theorem awake20_at : awake20 () = some (true, ()) := rfl
noncomputable def cx_awake20 : Ctx := addO cx_whyT 10 (ocOrc awake20_ins awake20_outs awake20)
theorem en_awake20 : EnvFull Tryz.prog cx_awake20 := env_add en_whyT awake20_oc.callOk
end Go.Proofs.YtiblijkhpmemeaaGreat
