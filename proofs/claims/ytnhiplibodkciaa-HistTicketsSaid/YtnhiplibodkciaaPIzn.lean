/- A region that draws its order comes to what its text's order comes to. -/
import Derived.Test.YtnhiplibodkciaaPIzm
namespace Go.PI
open Go.RowKit

variable {P : Program} {c : Ctx} {g : Cfg} {s st : St} {a : Act} {w : World}

theorem steps_i {ops : Array Oper} : ∀ {R : List Nat} {s st : St} {l : List Rec}, StepsR c ops R s l st → l.map (·.i) = R
  | [], s, st, l, h => by
    obtain ⟨rfl, rfl⟩ := Prod.mk.inj (Option.some.inj h)
    rfl
  | i :: R, s, st, l, h => by
    obtain ⟨x, s1, l', h1, h2, rfl⟩ := steps_cons h
    obtain ⟨_, _, _, _, _, hx, _⟩ := step_eff h1
    rw [List.map_cons, hx, steps_i h2]

/-- What is listed is closed. -/
structure Listed (ops : Array Oper) (listed : Array Bool) : Prop where
  size : listed.size = ops.size
  closed : ∀ i o, ops[i]? = some o → listed.getD i false = true → ∀ e ∈ o.after.toList, Region.binds .any e = true → listed.getD e.on false = true

theorem ready_mem {ops : Array Oper} {listed : Array Bool} {i : Nat} (hL : Listed ops listed) : i ∈ Region.ready .any ops listed ↔ i ∈ leftOf ops.size listed ∧ ∃ o, ops[i]? = some o ∧ ∀ e ∈ o.after.toList, Region.binds .any e = true → listed.getD e.on false = true := by
  unfold Region.ready leftOf
  rw [List.mem_filter, List.mem_filter, Bool.and_eq_true, and_assoc]
  constructor
  · rintro ⟨h1, h2, h3⟩
    refine ⟨h1, h2, ?_⟩
    cases ho : ops[i]? with
    | none => rw [ho] at h3; cases h3
    | some o =>
      refine ⟨o, rfl, fun e he hb => ?_⟩
      rw [ho] at h3
      simp only [Option.map_some, Option.getD_some] at h3
      rw [← Array.all_toList, List.all_eq_true] at h3
      have := h3 e he
      rw [hb] at this
      simpa using this
  · rintro ⟨h1, h2, o, ho, h3⟩
    refine ⟨h1, h2, ?_⟩
    rw [ho]
    simp only [Option.map_some, Option.getD_some]
    rw [← Array.all_toList, List.all_eq_true]
    intro e he
    cases hb : Region.binds .any e with
    | false => rfl
    | true => rw [h3 e he hb]; rfl

theorem ready_some {ops : Array Oper} {listed : Array Bool} (hL : Listed ops listed) (ht : textB 0 ops.toList = true) : ∀ i, i ∈ leftOf ops.size listed → ∃ j, j ∈ Region.ready .any ops listed := by
  intro i
  induction i using Nat.strongRecOn with
  | _ i ih =>
    intro hi
    have hlt := ((leftOf_mem hL.size).1 hi).1
    have ho : ops[i]? = some ops[i] := Array.getElem?_eq_getElem hlt
    by_cases hall : ∀ e ∈ ops[i].after.toList, Region.binds .any e = true → listed.getD e.on false = true
    · exact ⟨i, (ready_mem hL).2 ⟨hi, _, ho, hall⟩⟩
    · simp only [Classical.not_forall] at hall
      obtain ⟨e, he, hb, hn⟩ := hall
      have hlt2 := textB_ok ht i ops[i] (by rw [Array.getElem?_toList]; exact ho) e he hb
      refine ih e.on (by omega) ((leftOf_mem hL.size).2 ⟨by omega, by simpa using hn⟩)

theorem listed_set {ops : Array Oper} {listed : Array Bool} {i : Nat} (hL : Listed ops listed) (hi : i ∈ Region.ready .any ops listed) : Listed ops (listed.setIfInBounds i true) := by
  obtain ⟨h1, o, ho, h2⟩ := (ready_mem hL).1 hi
  have hlt := ((leftOf_mem hL.size).1 h1).1
  have hsz := hL.size
  refine ⟨by simp [hsz], fun k o' hk hl e he hb => ?_⟩
  rw [getD_set (by omega)] at hl ⊢
  rw [Bool.or_eq_true] at hl ⊢
  rcases hl with hl | hl
  · obtain rfl := of_decide_eq_true hl
    rw [ho] at hk
    obtain rfl := Option.some.inj hk
    exact .inr (h2 e he hb)
  · exact .inr (hL.closed k o' hk hl e he hb)

theorem any_ok (he : EnvFull P c) {ops : Array Oper} (ht : textB 0 ops.toList = true) {stF : St} : ∀ (fuel : Nat) (listed : Array Bool) (a : Act) (w : World) (s : St) (l : List Rec) (st : St), Listed ops listed → (leftOf ops.size listed).length ≤ fuel → Ok g s a w → StepsR c ops (leftOf ops.size listed) s l st → pairsB ops (ancTab [] ops.toList) l = true → SEq stF st →
    wpAny P .any ops (fun y a' w' => y = .normal ∧ Ok g stF a' w') fuel listed a w := by
  have done : ∀ (listed : Array Bool) (a : Act) (w : World) (s : St) (l : List Rec) (st : St), leftOf ops.size listed = [] → Ok g s a w → StepsR c ops (leftOf ops.size listed) s l st → SEq stF st → Ok g stF a w := by
    intro listed a w s l st h0 hok hst hq
    rw [h0] at hst
    obtain ⟨_, e⟩ := Prod.mk.inj (Option.some.inj hst)
    subst e
    exact hq.symm.ok hok
  intro fuel
  induction fuel with
  | zero =>
    intro listed a w s l st hL hlen hok hst hp hq
    have h0 : leftOf ops.size listed = [] := List.length_eq_zero_iff.1 (Nat.le_zero.1 hlen)
    refine ⟨?_, rfl, done listed a w s l st h0 hok hst hq⟩
    apply List.eq_nil_iff_forall_not_mem.2
    intro i hi
    have := ((ready_mem hL).1 hi).1
    rw [h0] at this
    cases this
  | succ fuel ih =>
    intro listed a w s l st hL hlen hok hst hp hq
    refine ⟨fun hr => ?_, fun i hi => ?_⟩
    · have h0 : leftOf ops.size listed = [] := by
        apply List.eq_nil_iff_forall_not_mem.2
        intro i hi
        obtain ⟨j, hj⟩ := ready_some hL ht i hi
        rw [hr] at hj
        cases hj
      exact ⟨rfl, done listed a w s l st h0 hok hst hq⟩
    · obtain ⟨h1, o, ho, h2⟩ := (ready_mem hL).1 hi
      obtain ⟨pre, post, e1, e2⟩ := left_set hL.size h1
      have hii := steps_i hst
      rw [e1] at hst hii
      obtain ⟨lp, y, lq, rfl, hl, hb⟩ := bubble hst
      obtain ⟨p1, p2⟩ := pairs_mem hp
      rw [List.map_append, List.map_cons] at hii
      obtain ⟨q1, q2⟩ := List.append_inj hii (by simpa using hl)
      have hyi : y.i = i := (List.cons.inj q2).1
      have hind : ∀ x ∈ lp, indep ops x y = true := by
        intro x hx
        rcases p1 x hx with hm | hm
        · exfalso
          rw [hyi] at hm
          have hm := memb_iff.1 hm
          have hxl : x.i ∈ leftOf ops.size listed := by
            rw [e1]
            exact List.mem_append.2 (.inl (q1 ▸ List.mem_map.2 ⟨x, hx, rfl⟩))
          have hun := ((leftOf_mem hL.size).1 hxl).2
          have tab := ancTab_ok (all := ops.toList) (L := fun k => listed.getD k false = true) (fun i o hi hl e he hb => hL.closed i o (by rw [← Array.getElem?_toList]; exact hi) hl e he hb) (fun k hk => by
            have hsz := hL.size
            by_cases hlt : k < listed.size
            · simpa [← hsz] using hlt
            · simp [Array.getD, hlt] at hk) (r := ops.toList) (t := []) (fun j => by simp) (fun i o hi => by simp at hi)
          by_cases hlt : i < (ancTab [] ops.toList).length
          · have := tab i o hlt (by rw [Array.getElem?_toList]; exact ho) h2 x.i hm
            simp only at this
            rw [hun] at this
            cases this
          · rw [List.getD, List.getElem?_eq_none (Nat.not_lt.1 hlt)] at hm
            cases hm
        · exact hm
      obtain ⟨t1, st2, k1, k2, k3⟩ := hb hind
      refine step_ok he hok k1 fun a' w' hok' => ?_
      refine ih _ a' w' t1 (lp ++ lq) st2 (listed_set hL hi) ?_ hok' ?_ p2 (hq.trans k3)
      · rw [e2]; rw [e1] at hlen; simp only [List.length_append, List.length_cons] at hlen ⊢; omega
      · rw [e2]; exact k2

theorem BR.drawn {μ : Nm} {I : Bool → Nat → Prop} {sh : Sh} {mb : MB} {b q : Nat} (k : Nat) (h : BR μ I w sh mb b q) : BR μ I { w with drawn := k } sh mb b q := by
  have hs : ∀ t, Stays (I t) w { w with drawn := k } := fun _ _ _ => rfl
  obtain ⟨cur, e, h1, h2, h3⟩ := h
  refine ⟨cur, e, h1, h2, ?_⟩
  cases mb with
  | tv t τ x => exact K.mono (fun _ h => h) (hs t) h3
  | ar t e' τ xs =>
    obtain ⟨k1, cap, k2, k3, k4, k5⟩ := h3
    exact ⟨k1, cap, k2, k3, k4, k5.imp fun _ _ k => k.mono (fun _ h => h) (hs t)⟩
  | dv l => exact ⟨h3.1.imp fun _ _ _ k => k.same (fun _ _ h => h) hs fun _ _ => ⟨rfl, rfl⟩, h3.2⟩

theorem Ok.drawn (h : Ok g s a w) (k : Nat) : Ok g s a { w with drawn := k } := by
  have hs : ∀ (I : Bool → Nat → Prop) t, Stays (I t) w { w with drawn := k } := fun _ _ _ _ => rfl
  obtain ⟨μ, I, h⟩ := h
  refine ⟨μ, I, { mem := fun n mb hn => ?_, inj := h.inj, sep := h.sep, isub := h.isub, ilt := h.ilt, i0 := h.i0, inew := h.inew, live := h.live, os := h.os, tape := h.tape, output := h.output, size := h.size, keep := h.keep, tm := fun i => ?_, len := h.len, dfr := h.dfr, kept := h.kept }⟩
  · rcases h.mem n mb hn with ⟨b, q, h1, h2⟩ | h1
    · exact .inl ⟨b, q, h1, h2.drawn k⟩
    · exact .inr h1
  · exact (h.tm i).imp fun _ _ kk => kk.same (fun _ _ h => h) (hs I) fun _ _ => ⟨rfl, rfl⟩

/-- Regions that draw their order, where the order does not matter. -/
theorem draw_ok (he : EnvFull P c) (hm : P.follows .mixedOrders = true) {ops : Array Oper} {id : Nat} (hok : Ok g s a w) (hr : (evDraw c ops s).run = some st) : (Code.region id ops true).wp P (fun y a' w' => y = .normal ∧ Ok g st a' w') a w := by
  unfold evDraw at hr
  cases ht : textB 0 ops.toList with
  | false => rw [ht] at hr; cases hr
  | true =>
    rw [ht] at hr
    obtain ⟨⟨l, st'⟩, h1, h2⟩ := Br.bind_some hr
    simp only at h2
    cases hp : pairsB ops (ancTab [] ops.toList) l with
    | false => rw [hp] at h2; cases h2
    | true =>
      rw [hp] at h2
      obtain rfl := Option.some.inj h2
      have e0 : leftOf ops.size (Array.replicate ops.size false) = List.range ops.size := by
        unfold leftOf
        rw [List.filter_eq_self]
        intro k hk
        rw [List.mem_range] at hk
        simp [Array.getD, hk]
      refine wp_region_any hm (any_ok he ht ops.size _ a _ s l st' ⟨by simp, fun i o ho h => ?_⟩ ?_ (hok.drawn _) ?_ hp (SEq.refl _))
      · exfalso
        revert h
        by_cases hk : i < ops.size <;> simp [Array.getD, hk]
      · rw [e0]; simp
      · rw [e0]; exact h1

end Go.PI
