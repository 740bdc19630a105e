/- A contract by typed data serves callers. -/
import Derived.Test.YtnhiplibodkciaaPIu
namespace Go.PI
open Go.RowKit

variable {P : Program} {c : Ctx} {g : Cfg} {s st : St} {a : Act} {w : World} {μ : Nm} {I : Bool → Nat → Prop}

def namesKept : List (Bool × Ty) → List D → List Nat
  | (true, _) :: r, d :: l => d.names ++ namesKept r l
  | (false, _) :: r, _ :: l => namesKept r l
  | _, _ => []

def lend (m : Mem) : (ins : List (Bool × Ty)) → List D → Option (Args ins)
  | [], [] => some ()
  | p :: r, d :: l => match (bif p.1 then (match d.asTy p.2 with
      | some (t, x) => bif t && p.2.hasP then none else some x
      | none => none) else (d.outp m p.2).map (·.2)), lend m r l with
    | some x, some xs => some (x, xs)
    | _, _ => none
  | _, _ => none

/-- What is said of a function by typed data, for its callers. -/
def typedOrc (ins : List (Bool × Ty)) (outs : List Ty) (pre : Args ins → Bool) (F : Args ins → Res outs) : Orc := fun _ args m =>
  let s := (freezeAll (namesKept ins args) (⟨args, m, []⟩, .c .bad)).1
  match lend s.m ins s.t with
  | some xs => .cond (pre xs) (.ret (resDD outs (F xs), s.m, s.k)) .no
  | none => .no

theorem MRel.after {m m' : Mem} {I' : Bool → Nat → Prop} {w' : World} (h : MRel (cfgOf w I m μ) m' w μ I') (hos : w'.os = w.os) (htape : w'.tape = w.tape) (hout : w'.output = w.output) (hsz : w.heap.size ≤ w'.heap.size) (hold : ∀ b, b < w.heap.size → w'.heap[b]? = w.heap[b]?) :
    MRel (cfgOf w I m μ) m' w' μ (fun t b => I' t b ∨ (w.heap.size ≤ b ∧ b < w'.heap.size)) := by
  have hst : ∀ t, Stays (I' t) w w' := fun t b hb => hold b (by cases t; exact h.ilt b (h.isub b hb); exact h.ilt b hb)
  refine { mem := ?_, inj := h.inj, sep := ?_, isub := fun b hb => hb.imp (h.isub b) id, ilt := ?_, i0 := fun t b hb => .inl (h.i0 t b hb), inew := ?_, live := h.live, os := hos.trans h.os, tape := htape.trans h.tape, output := hout.trans h.output, size := hsz, keep := ?_ }
  · intro n mb hn
    rcases h.mem n mb hn with ⟨b, q, e, hb⟩ | r
    · refine .inl ⟨b, q, e, ?_⟩
      have := hb.map (φ := id) (μ' := μ) (I' := fun t b => I' t b ∨ (w.heap.size ≤ b ∧ b < w'.heap.size)) (w' := w') (sh' := shp m') (fun x v hx => hx.same (fun _ _ k => .inl k) hst (fun k _ => ⟨rfl, rfl⟩)) (fun _ _ k => .inl k) hst (hold b hb.lt)
      have eid : mb.mapC id = mb := by cases mb <;> simp [MB.mapC]
      rwa [eid] at this
    · exact .inr r
  · rintro n b q hn hμ (hi | ⟨hi, _⟩)
    · exact h.sep n b q hn hμ hi
    · have := h.live_lt hn hμ
      omega
  · rintro b (hb | ⟨_, hb⟩)
    · have := h.ilt b hb
      omega
    · exact hb
  · rintro t b (hb | ⟨hb, _⟩)
    · exact h.inew t b hb
    · exact .inr (.inr hb)
  · intro b hb hL
    rw [hold b hb]
    exact h.keep b hb hL

theorem lend_ok {m : Mem} (hm : MRel g m w μ I) : ∀ {ins : List (Bool × Ty)} {l : List D} {xs : Args ins}, lend m ins l = some xs → ∀ {vs : List Value}, RDs μ I w (shp m) l vs → ArgsK (fun t b => I t b ∨ (t = true ∧ Live m μ b)) w ins xs vs
  | [], [], _, _, vs, hl => List.length_eq_zero_iff.1 hl.1.symm
  | p :: r, d :: l, xs, h, vs, hl => by
    simp only [lend] at h
    split at h
    · rename_i x ys h1 h2
      obtain rfl := Option.some.inj h
      cases vs with
      | nil => have := hl.1; simp at this
      | cons v vs =>
        refine ⟨v, vs, rfl, ?_, lend_ok hm h2 ⟨by have := hl.1; simpa using this, fun j d' v' hd hv => hl.2 (j + 1) d' v' (by simpa using hd) (by simpa using hv)⟩⟩
        have hd := hl.2 0 d v rfl rfl
        cases hp : p.1 with
        | true =>
          rw [hp] at h1
          simp only [cond_true] at h1
          split at h1
          · rename_i t y hy
            cases ht : t && p.2.hasP with
            | true => rw [ht] at h1; cases h1
            | false =>
              rw [ht] at h1
              obtain rfl := Option.some.inj h1
              have k := asTy_ok hm.isub hy hd
              cases hq : p.2.hasP with
              | false => exact k.noP hq
              | true =>
                rw [hq, Bool.and_true] at ht
                subst ht
                exact k.mono (fun b hb => .inl hb) (stays_refl _ _)
          · cases h1
        | false =>
          rw [hp] at h1
          simp only [cond_false] at h1
          obtain ⟨⟨t, y⟩, hy, rfl⟩ := Option.map_eq_some_iff.1 h1
          have k := outp_ok hm (J := fun t b => I t b ∨ Live m μ b) (fun _ _ k => .inl k) (fun b k => k.imp (hm.isub b) id) (fun _ _ k => .inr k) hy hd
          refine k.mono (fun b hb => ?_) (stays_refl _ _)
          rcases hb with hb | hb
          · cases t with
            | true => exact .inl hb
            | false => exact .inl (hm.isub b hb)
          · exact .inr ⟨rfl, hb⟩
    · cases h
  | [], _ :: _, _, h, _, _ => by simp [lend] at h
  | _ :: _, [], _, h, _, _ => by simp [lend] at h

theorem resL_ok {J : Bool → Nat → Prop} {sh : Sh} : ∀ {outs : List Ty} {x : Res outs} {vs : List Value}, ResL (J false) w outs x vs → RL μ J w sh (resL outs x) vs
  | [], _, vs, h => by rw [show vs = [] from h]; exact RL.nil
  | [τ], x, vs, ⟨v, e, h⟩ => by subst e; exact RL.mk_cons h RL.nil
  | τ :: σ :: r, x, vs, ⟨v, l, e, h1, h2⟩ => by subst e; exact RL.mk_cons h1 (resL_ok h2)

theorem resDD_ok {J : Bool → Nat → Prop} {sh : Sh} {outs : List Ty} {x : Res outs} {v : Value} (h : ResK (J false) w outs x v) : RD μ J w sh (resDD outs x) v := by
  cases outs with
  | nil => exact ⟨[], h, RL.nil⟩
  | cons τ r =>
    cases r with
    | nil => exact h
    | cons σ r => obtain ⟨vs, h1, h2⟩ := h; exact ⟨vs, h1, resL_ok h2⟩

theorem ResL.up {J1 J2 : Nat → Prop} (hJ : ∀ b, J1 b → J2 b) : ∀ {outs : List Ty} {x : Res outs} {vs : List Value}, ResL J1 w outs x vs → ResL J2 w outs x vs
  | [], _, _, h => h
  | [_], _, _, ⟨v, h1, h2⟩ => ⟨v, h1, h2.mono hJ (stays_refl _ _)⟩
  | _ :: _ :: _, _, _, ⟨v, l, h1, h2, h3⟩ => ⟨v, l, h1, h2.mono hJ (stays_refl _ _), ResL.up hJ h3⟩
theorem ResK.up {J1 J2 : Nat → Prop} (hJ : ∀ b, J1 b → J2 b) {outs : List Ty} {x : Res outs} {v : Value} (h : ResK J1 w outs x v) : ResK J2 w outs x v := by
  cases outs with
  | nil => exact h
  | cons τ r =>
    cases r with
    | nil => exact VK.mono hJ (stays_refl _ _) h
    | cons σ r => obtain ⟨vs, h1, h2⟩ := h; exact ⟨vs, h1, h2.up hJ⟩

theorem TSpec.callOk {f : Nat} {ins : List (Bool × Ty)} {outs : List Ty} {pre : Args ins → Bool} {F : Args ins → Res outs} (h : TSpec P f ins outs pre F) : CallOk P f (typedOrc ins outs pre F) := by
  refine ⟨h.fn, fun w μ I m nm args vs d m' ks hm ha hr => ?_⟩
  have h0 : Rel (cfgOf w I m μ) ⟨args, m, []⟩ { tmps := vs.toArray, defers := [] } w μ I := by
    have := entry_rel hm ha 0
    simpa using this
  obtain ⟨I1, h1, _⟩ := freezeAll_ok (namesKept ins args) h0 (d := .c .bad) (v := undef) trivial
  unfold typedOrc at hr
  simp only at hr
  generalize (freezeAll (namesKept ins args) (⟨args, m, []⟩, .c .bad)).1 = s at hr h1
  split at hr
  · rename_i xs hxs
    rw [Br.run_cond] at hr
    split at hr
    · rename_i hpre
      obtain ⟨rfl, e⟩ := Prod.mk.inj (Option.some.inj hr)
      obtain ⟨rfl, rfl⟩ := Prod.mk.inj e
      have hM := h1.toMRel
      have hlen : s.t.length = vs.length := by have := h1.len; simpa using this
      have hargs : RDs μ I1 w (shp s.m) s.t vs := by
        refine ⟨hlen, fun j d v hd hv => ?_⟩
        have hj := h1.tm j
        have e1 : s.t.getD j (.c .bad) = d := by simp [List.getD, hd]
        have e2 : (vs.toArray).getD j undef = v := by simp [Array.getD_eq_getD_getElem?, hv]
        rw [e1] at hj
        have hj : RD μ I1 w (shp s.m) d ((vs.toArray).getD j undef) := hj
        rw [e2] at hj
        exact hj
      have hK := lend_ok hM hxs hargs
      have hJ1 : ∀ b, (I1 false b ∨ (false = true ∧ Live s.m μ b)) → (I1 true b ∨ (true = true ∧ Live s.m μ b)) := by
        rintro b (hb | ⟨e, _⟩)
        · exact .inl (h1.isub b hb)
        · cases e
      have hJ2 : ∀ b, (I1 true b ∨ (true = true ∧ Live s.m μ b)) → b < w.heap.size := by
        rintro b (hb | ⟨_, n, q, hn, hμ⟩)
        · exact hM.ilt b hb
        · exact hM.live_lt hn hμ
      refine (h.ok w _ hJ1 hJ2 xs vs hK hpre).mono ?_
      rintro e w' ⟨v, rfl, r1, r2, r3, r4, r5, r6⟩
      refine ⟨v, μ, _, rfl, hM.after r2 r3 r4 r5 r6, ?_, fun n a1 a2 => h1.kept n a1 a2, resDD_ok (r1.up ?_)⟩
      · exact fun t b hb => .inl (h1.i0 t b hb)
      · rintro b ((hb | ⟨e, _⟩) | hb)
        · exact .inl hb
        · cases e
        · exact .inr hb
    · cases hr
  · cases hr

end Go.PI
