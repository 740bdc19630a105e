/- From typed contracts to rows: a statement that comes to true, and leaves all as it was. -/
import Derived.Test.YtnhiplibodkciaaPIx
import Derived.ProofKit
namespace Go.PI
open Go.ChangeShapes Go.WideShapes Go.ChangeAt Go.RowKit

theorem trodAll_stay {H : Type} {enc : TypeId × Value → H} {P : Program} (hl : laidOutB P = true) {W W' : World} (hb : Below W.heap.size W W') {sp : Nat → Bool} : ∀ {ts : List TypeId} {vs : List Value} {ds : List (DataW H)} {ps : List MemPlace},
    (ts.all fun t => P.readableRec t && decide (t < P.types.size)) = true → DataW.TrodAll enc P W 0 (fun _ => true) true ts vs ds ps → (∀ x ∈ ps, x.block < W.heap.size) → (∀ x ∈ ps, sp x.block = true) → DataW.TrodAll enc P W' 0 sp true ts vs ds ps
  | [], [], [], _, _, h, _, _ => h
  | t :: ts, v :: vs, d :: ds, _, hr, ⟨p, q, h1, h2, e⟩, hlt, hsp => by
    subst e
    simp only [List.all_cons, Bool.and_eq_true, decide_eq_true_eq] at hr
    exact ⟨p, q, WideElems.Trod_stays hl hr.1.1 hr.1.2 h1 (fun x hx => hb.same (hlt x (List.mem_append.2 (.inl hx)))) (fun x hx => hsp x (List.mem_append.2 (.inl hx))),
      trodAll_stay hl hb hr.2 h2 (fun x hx => hlt x (List.mem_append.2 (.inr hx))) (fun x hx => hsp x (List.mem_append.2 (.inr hx))), rfl⟩

/-- The call of a statement that comes to true. -/
theorem law_post {H : Type} {enc : TypeId × Value → H} {P : Program} {f : Func} {s : ChangeSpec} {W W' : World} {args : Array Value} {ds gs : List (DataW H)} {before : List MemPlace} {tb : TypeId}
    (hl : laidOutB P = true) (hr : (f.params.toList.all fun t => P.readableRec t && decide (t < P.types.size)) = true) (hb : P.underlying tb = some .bool) (ht : f.resultTypes = #[tb]) (hv : s.vars = [])
    (hW : DataW.Whole enc P f.params.toList s.vars false W args.toList ds gs before) (hA : DataW.TrodAll enc P W 0 (fun _ => true) true f.params.toList args.toList ds before)
    (hfn : s.fn H (ds ++ gs) = { results := [.lit (.bool true)], args := ds }) (hB : Below W.heap.size W W') :
    s.post enc P f false true false false W args (.bool true) W' := by
  have hold : ∀ x ∈ before, x.block < W.heap.size := fun x hx => by simpa using hW.lt x hx
  refine ⟨ds, gs, before, [], before, [], hW, ?_, ?_, ?_, hB.frame _, fun e => by cases e⟩
  · rw [ht, hfn]
    exact trodAll_mk1 (shut_bool hb true)
  · rw [hfn]
    exact trodAll_stay hl hB hr hA hold (fun x hx => by simpa using hold x hx)
  · rw [hfn, hv]
    exact rfl

theorem vk_int {J : Nat → Prop} {w : World} {k : IntKind} {n : Int} (h : (Lit.int k n).wf = true) : VK J w (.int k) n (.int k n) := by
  have h : InK k n := by simpa [Lit.wf, InK] using h
  exact ⟨fun e => (by cases e), fun _ => ⟨rfl, h⟩⟩

/-- A contract that comes to true, as a row wants it. -/
theorem law_call {P : Program} {f : Nat} {ins : List (Bool × Ty)} {xs : Args ins} (h : TSpec P f ins [.bool] (fun _ => true) (fun _ => true)) {W : World} {vs : List Value} (ha : ArgsK (fun _ b => b < W.heap.size) W ins xs vs) :
    Calls P f vs.toArray W fun e W' => e = .returned (.bool true) ∧ Below W.heap.size W W' := by
  refine (h.ok W (fun _ b => b < W.heap.size) (fun _ h => h) (fun _ h => h) xs vs ha rfl).mono ?_
  rintro e W' ⟨v, rfl, hv, h1, h2, h3, h4, h5⟩
  have hv : v = .bool true := by
    have := hv.2 rfl
    simpa [K] using this
  subst hv
  exact ⟨rfl, h1, h2, h3, h4, h5⟩

end Go.PI
