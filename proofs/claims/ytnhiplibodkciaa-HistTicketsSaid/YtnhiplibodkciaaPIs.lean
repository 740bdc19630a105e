/- Regions and code; the rules by which pieces of code are put together; a callee gone through in place. -/
import Derived.Test.YtnhiplibodkciaaPIzn
namespace Go.PI
open Go.RowKit

variable {P : Program} {c : Ctx} {g : Cfg} {s st : St} {a : Act} {w : World} {μ : Nm} {I : Bool → Nat → Prop}

theorem evOps_ok (he : EnvFull P c) (ops : Array Oper) : ∀ (l : List Nat) {s st : St} {a : Act} {w : World}, Ok g s a w → (evOps c ops l s).run = some st → wpOps P ops (fun y a' w' => y = .normal ∧ Ok g st a' w') l a w
  | [], s, st, a, w, h, hr => by
    obtain rfl := Option.some.inj hr
    exact ⟨rfl, h⟩
  | i :: r, s, st, a, w, h, hr => by
    simp only [wpOps]
    simp only [evOps] at hr
    cases ho : ops[i]? with
    | none =>
      simp only [ho] at hr
      exact evOps_ok he ops r h hr
    | some o =>
      simp only [ho] at hr
      -- the operation runs
      have runs : ∀ {s : St}, Ok g s a w → Region.wanted o (yielded ops a.tmps) = true → ((evOper c s o).bind (evOps c ops r)).run = some st →
          (if Region.wanted o (yielded ops a.tmps) = true then o.wp P a w (wpOps P ops (fun y a' w' => y = .normal ∧ Ok g st a' w') r) (fun y a' w' => y = .normal ∧ Ok g st a' w') ∨ (o.asks P a w ∧ LetsOut fun y a' w' => y = .normal ∧ Ok g st a' w') else wpOps P ops (fun y a' w' => y = .normal ∧ Ok g st a' w') r (a.put o.dst undef) w) := by
        intro s h hw hr
        rw [if_pos hw]
        obtain ⟨s1, h1, h2⟩ := Br.bind_some hr
        exact .inl (oper_ok he o g s s1 a w _ _ h h1 fun a' w' h' => evOps_ok he ops r h' h2)
      -- it is passed by
      have passes : ∀ {s : St}, Ok g s a w → Region.wanted o (yielded ops a.tmps) = false → (evOps c ops r (s.putd o.dst (.tup []))).run = some st →
          (if Region.wanted o (yielded ops a.tmps) = true then o.wp P a w (wpOps P ops (fun y a' w' => y = .normal ∧ Ok g st a' w') r) (fun y a' w' => y = .normal ∧ Ok g st a' w') ∨ (o.asks P a w ∧ LetsOut fun y a' w' => y = .normal ∧ Ok g st a' w') else wpOps P ops (fun y a' w' => y = .normal ∧ Ok g st a' w') r (a.put o.dst undef) w) := by
        intro s h hw hr
        rw [if_neg (by rw [hw]; simp)]
        obtain ⟨μ, I, h⟩ := h
        exact evOps_ok he ops r ⟨μ, I, h.putd (d := .tup []) (v := undef) undefD⟩ hr
      cases hg : o.guard with
      | none =>
        simp only [hg] at hr
        exact runs h (by simp [Region.wanted, hg]) hr
      | some jw =>
        obtain ⟨j, want⟩ := jw
        simp only [hg] at hr
        split at hr
        · rename_i k hk
          obtain ⟨μ, I, h⟩ := h
          have htm := h.tm k
          split at hr
          · rename_i hd
            rw [hd] at htm
            have hy := yield_of (a := a) hk (b := true) htm
            cases want with
            | true => exact runs ⟨μ, I, h⟩ (by simp [Region.wanted, hg, hy]) (by simpa using hr)
            | false => exact passes ⟨μ, I, h⟩ (by simp [Region.wanted, hg, hy]) (by simpa using hr)
          · rename_i hd
            rw [hd] at htm
            have hy := yield_of (a := a) hk (b := false) htm
            cases want with
            | true => exact passes ⟨μ, I, h⟩ (by simp [Region.wanted, hg, hy]) (by simpa using hr)
            | false => exact runs ⟨μ, I, h⟩ (by simp [Region.wanted, hg, hy]) (by simpa using hr)
          · rename_i hd
            rw [hd] at htm
            obtain ⟨vs, hv, hl⟩ := htm
            have hvs : vs = [] := List.length_eq_zero_iff.1 hl.1.symm
            subst hvs
            have hy := yield_undef (a := a) hk hv
            exact passes ⟨μ, I, h⟩ (by simp [Region.wanted, hg, hy]) hr
          · rename_i t b hd
            rw [hd] at htm
            have hb := RD.bool htm
            have hy := yield_of (a := a) hk hb
            have hT : b = true → Ok g ⟨s.t.set k (.c .tt), s.m, s.k⟩ a w := fun e => ⟨μ, I, h.retell (d := .c .tt) (by rw [hb, e]; exact rfl)⟩
            have hF : b = false → Ok g ⟨s.t.set k (.c .ff), s.m, s.k⟩ a w := fun e => ⟨μ, I, h.retell (d := .c .ff) (by rw [hb, e]; exact rfl)⟩
            cases b with
            | true =>
              simp only [Br.run, cond_true] at hr
              cases want with
              | true => exact runs (hT rfl) (by simp [Region.wanted, hg, hy]) (by simpa using hr)
              | false => exact passes (hT rfl) (by simp [Region.wanted, hg, hy]) (by simpa using hr)
            | false =>
              simp only [Br.run, cond_false] at hr
              cases want with
              | true => exact passes (hF rfl) (by simp [Region.wanted, hg, hy]) (by simpa using hr)
              | false => exact runs (hF rfl) (by simp [Region.wanted, hg, hy]) (by simpa using hr)
          · cases hr
        · cases hr

/-- What a piece of code comes to. -/
def Tri (P : Program) (g : Cfg) (code : Code) (s : St) (Q : Exit → St → Prop) : Prop := ∀ a w, Ok g s a w → code.wp P (fun y a' w' => ∃ st, Q y st ∧ Ok g st a' w') a w

theorem wp_loop_ghost {b : Code} {Q : Exit → Act → World → Prop} (Inv : Nat → Act → World → Prop) {n : Nat} (h0 : Inv n a w)
    (round : ∀ n a w, Inv n a w → b.wp P (Exit.then (fun a' w' => ∃ m, m < n ∧ Inv m a' w') Q) a w) : (Code.loop b).wp P Q a w := by
  intro bf k cs
  have key : ∀ n a w, Inv n a w → ∃ e a' w', Q e a' w' ∧ Arrives P (lone (bf.at a (.code b :: .inLoop b :: k)) cs w) bf k cs e a' w' := by
    intro n
    induction n using Nat.strongRecOn with
    | _ n ih =>
      intro a w hI
      obtain ⟨e, a₁, w₁, hq, harr⟩ := round n a w hI bf (.inLoop b :: k) cs
      cases e with
      | normal =>
        obtain ⟨m, hlt, hI₁⟩ := hq
        obtain ⟨e₂, a₂, w₂, hq₂, harr₂⟩ := ih m hlt a₁ w₁ hI₁
        exact ⟨e₂, a₂, w₂, hq₂, .of_steps (Steps.trans harr (.one step_inLoop)) harr₂⟩
      | exit id => exact ⟨_, a₁, w₁, hq, .pass (x := .inLoop b) rfl (fun _ _ => .inl (by simp)) harr⟩
      | goto l => exact ⟨_, a₁, w₁, hq, .pass (x := .inLoop b) rfl (fun _ _ => .inl (by simp)) harr⟩
      | ret => exact ⟨_, a₁, w₁, hq, .pass (x := .inLoop b) rfl (fun _ _ => .inl (by simp)) harr⟩
      | panic ch => exact ⟨_, a₁, w₁, hq, .pass (x := .inLoop b) rfl (fun _ _ => .inl (by simp)) harr⟩
      | outgrown => exact ⟨_, a₁, w₁, hq, .pass (x := .inLoop b) rfl (fun _ _ => .inl (by simp)) harr⟩
  obtain ⟨e, a', w', hq, harr⟩ := key n a w h0
  exact ⟨e, a', w', hq, .of_steps (.one step_loop) harr⟩

/-- What is said of a loop is so. -/
def LoopOk (P : Program) (g : Cfg) (o : St → Br (Exit × St)) (a : Code) : Prop := ∀ s y st, (o s).run = some (y, st) → Tri P g (.loop a) s fun e s' => e = y ∧ s' = st

def loopsOf : Code → List Code
  | .seq a b => loopsOf a ++ loopsOf b
  | .cond _ a b => loopsOf a ++ loopsOf b
  | .block _ a => loopsOf a
  | .loop a => a :: loopsOf a
  | _ => []
/-- What is said of the loops of a piece of code is so. -/
def LoOk (P : Program) (g : Cfg) (p : Par) (code : Code) : Prop := ∀ a ∈ loopsOf code, ∀ o, loOf p a = some o → LoopOk P g o a

theorem LoOk.left {p : Par} {a b : Code} (h : LoOk P g p (.seq a b)) : LoOk P g p a := fun x hx => h x (List.mem_append.2 (.inl hx))
theorem LoOk.right {p : Par} {a b : Code} (h : LoOk P g p (.seq a b)) : LoOk P g p b := fun x hx => h x (List.mem_append.2 (.inr hx))
theorem LoOk.tail {p : Par} {a : Code} (h : LoOk P g p (.loop a)) : LoOk P g p a := fun x hx => h x (List.mem_cons_of_mem _ hx)
theorem LoOk.none {p : Par} {a : Code} (h : ∀ i, p.lo i = none) : LoOk P g p a := fun x _ o hl => by
  unfold loOf at hl
  split at hl
  · rw [h] at hl; cases hl
  · cases hl

namespace Tri
variable {Q Q' : Exit → St → Prop}

theorem mono {code : Code} (h : Tri P g code s Q) (hq : ∀ y st, Q y st → Q' y st) : Tri P g code s Q' :=
  fun a w hok => wp_mono (h a w hok) fun _ _ _ ⟨st, h1, h2⟩ => ⟨st, hq _ _ h1, h2⟩

theorem skip (h : Q .normal s) : Tri P g .skip s Q := fun _ _ hok => wp_skip ⟨s, h, hok⟩
theorem ret (h : Q .ret s) : Tri P g .ret s Q := fun _ _ hok => wp_ret ⟨s, h, hok⟩
theorem exit {j : Nat} (h : Q (.exit j) s) : Tri P g (.exit j) s Q := fun _ _ hok => wp_exit ⟨s, h, hok⟩

theorem seq {x y : Code} {M : St → Prop} (hx : Tri P g x s fun e st => match e with | .normal => M st | e => Q e st) (hy : ∀ st, M st → Tri P g y st Q) : Tri P g (.seq x y) s Q := by
  intro a w hok
  refine wp_seq (wp_mono (hx a w hok) ?_)
  rintro e a' w' ⟨st, h1, h2⟩
  cases e with
  | normal => exact hy st h1 a' w' h2
  | exit j => exact ⟨st, h1, h2⟩
  | goto l => exact ⟨st, h1, h2⟩
  | ret => exact ⟨st, h1, h2⟩
  | panic ch => exact ⟨st, h1, h2⟩
  | outgrown => exact ⟨st, h1, h2⟩

theorem block {id : Nat} {x : Code} (hx : Tri P g x s fun e st => match e with | .exit j => if j = id then Q .normal st else Q (.exit j) st | e => Q e st) : Tri P g (.block id x) s Q := by
  intro a w hok
  refine wp_block (wp_mono (hx a w hok) ?_)
  rintro e a' w' ⟨st, h1, h2⟩
  cases e with
  | exit j =>
    simp only at h1
    unfold Exit.inBlock
    by_cases hj : j = id
    · subst hj
      simp only [if_true] at h1
      simpa using ⟨st, h1, h2⟩
    · rw [if_neg hj] at h1
      simpa [hj] using ⟨st, h1, h2⟩
  | normal => exact ⟨st, h1, h2⟩
  | goto l => exact ⟨st, h1, h2⟩
  | ret => exact ⟨st, h1, h2⟩
  | panic ch => exact ⟨st, h1, h2⟩
  | outgrown => exact ⟨st, h1, h2⟩

theorem loop {x : Code} (Inv : Nat → St → Prop) {n : Nat} (h0 : Inv n s) (round : ∀ n s, Inv n s → Tri P g x s fun e st => match e with | .normal => ∃ m, m < n ∧ Inv m st | e => Q e st) : Tri P g (.loop x) s Q := by
  intro a w hok
  refine wp_loop_ghost (fun n a w => ∃ s, Inv n s ∧ Ok g s a w) ⟨s, h0, hok⟩ ?_
  rintro n a w ⟨s, hi, hok⟩
  refine wp_mono (round n s hi a w hok) ?_
  rintro e a' w' ⟨st, h1, h2⟩
  cases e with
  | normal => obtain ⟨m, hm, hi'⟩ := h1; exact ⟨m, hm, st, hi', h2⟩
  | exit j => exact ⟨st, h1, h2⟩
  | goto l => exact ⟨st, h1, h2⟩
  | ret => exact ⟨st, h1, h2⟩
  | panic ch => exact ⟨st, h1, h2⟩
  | outgrown => exact ⟨st, h1, h2⟩

theorem onB {x : Operand} {p q : Code} {r : Exit × St} {u v : Br (Exit × St)} (hr : (Go.PI.onB (opd s x) u v).run = some r) (hp : u.run = some r → Tri P g p s Q) (hq : v.run = some r → Tri P g q s Q) : Tri P g (.cond x p q) s Q := by
  rintro a w ⟨μ, I, h⟩
  obtain ⟨b, hb, hr⟩ := onB_run (eval_opd h x) hr
  refine wp_cond hb ?_
  cases b with
  | true => exact hp hr a w ⟨μ, I, h⟩
  | false => exact hq hr a w ⟨μ, I, h⟩

/-- A condition whose truth is told. -/
theorem cond {x : Operand} {p q : Code} (b : Bool) (hb : ∀ a w, Ok g s a w → a.eval x = .bool b) (h : Tri P g (if b = true then p else q) s Q) : Tri P g (.cond x p q) s Q :=
  fun a w hok => wp_cond (hb a w hok) (h a w hok)

theorem weaken {code : Code} {s' : St} (h : ∀ a w, Ok g s a w → Ok g s' a w) (ht : Tri P g code s' Q) : Tri P g code s Q := fun a w hok => ht a w (h a w hok)

theorem region {id : Nat} {ops : Array Oper} {draw : Bool} (he : EnvFull P c) (hr : (bif draw then evDraw c ops s else evOps c ops (List.range ops.size) s).run = some st) : Tri P g (.region id ops draw) s fun y s' => y = .normal ∧ s' = st := by
  intro a w hok
  cases draw with
  | false => exact wp_mono (wp_region (evOps_ok he ops _ hok hr)) fun y a' w' ⟨h1, h2⟩ => ⟨st, ⟨h1, rfl⟩, h2⟩
  | true => exact wp_mono (draw_ok he he.mixed hok hr) fun y a' w' ⟨h1, h2⟩ => ⟨st, ⟨h1, rfl⟩, h2⟩

/-- What the interpreter says of a piece of code is so. -/
theorem ev_ok (he : EnvFull P c) (p : Par) : ∀ (code : Code), LoOk P g p code → ∀ {s st : St} {y : Exit}, (ev c p code s).run = some (y, st) → Tri P g code s fun e s' => e = y ∧ s' = st
  | .skip, _, s, st, y, h => by
    obtain ⟨rfl, rfl⟩ := Prod.mk.inj (Option.some.inj h)
    exact Tri.skip ⟨rfl, rfl⟩
  | .region id ops draw, _, s, st, y, h => by
    simp only [ev] at h
    obtain ⟨s1, h1, h2⟩ := Br.bind_some h
    obtain ⟨rfl, rfl⟩ := Prod.mk.inj (Option.some.inj h2)
    exact Tri.region he h1
  | .seq a b, hlo, s, st, y, h => by
    simp only [ev] at h
    obtain ⟨⟨e, s1⟩, h1, h2⟩ := Br.bind_some h
    have ih := ev_ok he p a hlo.left h1
    cases e with
    | normal => exact Tri.seq (M := fun st' => st' = s1) (ih.mono fun e' s' ⟨e1, e2⟩ => by subst e1 e2; rfl) fun s' hs => by subst hs; exact ev_ok he p b hlo.right h2
    | _ =>
      obtain ⟨rfl, rfl⟩ := Prod.mk.inj (Option.some.inj h2)
      exact Tri.seq (M := fun _ => False) (ih.mono fun e' s' ⟨e1, e2⟩ => by subst e1 e2; exact ⟨rfl, rfl⟩) fun s' hs => hs.elim
  | .cond x a b, hlo, s, st, y, h => by
    simp only [ev] at h
    exact Tri.onB h (fun h => ev_ok he p a (LoOk.left hlo) h) (fun h => ev_ok he p b (LoOk.right hlo) h)
  | .block id a, hlo, s, st, y, h => by
    simp only [ev] at h
    obtain ⟨⟨e, s1⟩, h1, h2⟩ := Br.bind_some h
    have ih := ev_ok he p a hlo h1
    cases e with
    | exit j =>
      obtain ⟨h3, rfl⟩ := Prod.mk.inj (Option.some.inj h2)
      refine Tri.block (ih.mono fun e' s' ⟨e1, e2⟩ => ?_)
      subst e1 e2
      simp only
      split at h3
      · rename_i hj; rw [if_pos hj]; exact ⟨h3, trivial⟩
      · rename_i hj; rw [if_neg hj]; exact ⟨h3, trivial⟩
    | _ =>
      obtain ⟨rfl, rfl⟩ := Prod.mk.inj (Option.some.inj h2)
      exact Tri.block (ih.mono fun e' s' ⟨e1, e2⟩ => by subst e1 e2; exact ⟨rfl, rfl⟩)
  | .loop a, hlo, s, st, y, h => by
    simp only [ev] at h
    cases hl : loOf p a with
    | some o =>
      rw [hl] at h
      exact hlo a List.mem_cons_self o hl s y st h
    | none =>
    rw [hl] at h
    simp only at h
    refine Tri.loop (fun n s => (iter (fun s => ev c p a (shapeOf c.base p a s)) n s).run = some (y, st)) h ?_
    intro n s h
    cases n with
    | zero => cases h
    | succ n =>
      simp only [iter] at h
      obtain ⟨⟨e, s1⟩, h1, h2⟩ := Br.bind_some h
      refine Tri.weaken (fun a' w' hok => shapeOf_ok hok c.base p a) ?_
      have ih := ev_ok he p a hlo.tail h1
      cases e with
      | normal => exact ih.mono fun e' s' ⟨e1, e2⟩ => by subst e1 e2; exact ⟨n, by omega, h2⟩
      | _ =>
        obtain ⟨rfl, rfl⟩ := Prod.mk.inj (Option.some.inj h2)
        exact ih.mono fun e' s' ⟨e1, e2⟩ => by subst e1 e2; exact ⟨rfl, rfl⟩
  | .exit j, _, s, st, y, h => by
    obtain ⟨rfl, rfl⟩ := Prod.mk.inj (Option.some.inj h)
    exact Tri.exit ⟨rfl, rfl⟩
  | .ret, _, s, st, y, h => by
    obtain ⟨rfl, rfl⟩ := Prod.mk.inj (Option.some.inj h)
    exact Tri.ret ⟨rfl, rfl⟩
  | .rangeFunc .., _, s, st, y, h => by cases h
  | .scope _, _, s, st, y, h => by cases h
  | .label _, _, s, st, y, h => by cases h
  | .goto _, _, s, st, y, h => by cases h
  | .refuse _, _, s, st, y, h => by cases h

theorem run (he : EnvFull P c) (p : Par) {code : Code} (hlo : LoOk P g p code) {y : Exit} (h : (ev c p code s).run = some (y, st)) (hq : Q y st) : Tri P g code s Q :=
  (ev_ok he p code hlo h).mono fun _ _ ⟨e1, e2⟩ => by subst e1 e2; exact hq
end Tri

end Go.PI
