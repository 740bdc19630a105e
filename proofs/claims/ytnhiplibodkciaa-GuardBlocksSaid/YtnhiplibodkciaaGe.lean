/- Regions and code; the rules by which pieces of code are put together; a callee gone through in place. What a call is told and tells, as typed data. A function's contract out of what the interpreter says of its code: by its own memory, and by typed data. A contract by typed data serves callers. A table of types, looked at by one reckoning; a struct type that may be compared likewise. -/
import Derived.Test.YtnhiplibodkciaaGd
import Derived.Laws.Sem
namespace Go.PI
open Go.RowKit

variable {P : Program} {c : Ctx} {g : Cfg} {s st : St} {a : Act} {w : World} {μ : Nm} {I : Bool → Nat → Prop}

theorem evOps_ok (he : EnvFull P c) (ops : Array Oper) : ∀ (l : List Nat) {s st : St} {a : Act} {w : World}, Ok g s a w → (evOps c ops l s).run = some st → wpOps P ops (fun y a' w' => y = .normal ∧ Ok g st a' w') l a w
  | [], s, st, a, w, h, hr => by
    obtain rfl := Option.some.inj hr
    exact ⟨rfl, h⟩
  | i :: r, s, st, a, w, h, hr => by
    simp only [wpOps]
    simp only [evOps] at hr
    cases ho : ops[i]? with
    | none =>
      simp only [ho] at hr
      exact evOps_ok he ops r h hr
    | some o =>
      simp only [ho] at hr
      -- the operation runs
      have runs : ∀ {s : St}, Ok g s a w → Region.wanted o (yielded ops a.tmps) = true → ((evOper c s o).bind (evOps c ops r)).run = some st →
          (if Region.wanted o (yielded ops a.tmps) = true then o.wp P a w (wpOps P ops (fun y a' w' => y = .normal ∧ Ok g st a' w') r) (fun y a' w' => y = .normal ∧ Ok g st a' w') ∨ (o.asks P a w ∧ LetsOut fun y a' w' => y = .normal ∧ Ok g st a' w') else wpOps P ops (fun y a' w' => y = .normal ∧ Ok g st a' w') r (a.put o.dst undef) w) := by
        intro s h hw hr
        rw [if_pos hw]
        obtain ⟨s1, h1, h2⟩ := Br.bind_some hr
        exact .inl (oper_ok he o g s s1 a w _ _ h h1 fun a' w' h' => evOps_ok he ops r h' h2)
      -- it is passed by
      have passes : ∀ {s : St}, Ok g s a w → Region.wanted o (yielded ops a.tmps) = false → (evOps c ops r (s.putd o.dst (.tup []))).run = some st →
          (if Region.wanted o (yielded ops a.tmps) = true then o.wp P a w (wpOps P ops (fun y a' w' => y = .normal ∧ Ok g st a' w') r) (fun y a' w' => y = .normal ∧ Ok g st a' w') ∨ (o.asks P a w ∧ LetsOut fun y a' w' => y = .normal ∧ Ok g st a' w') else wpOps P ops (fun y a' w' => y = .normal ∧ Ok g st a' w') r (a.put o.dst undef) w) := by
        intro s h hw hr
        rw [if_neg (by rw [hw]; simp)]
        obtain ⟨μ, I, h⟩ := h
        exact evOps_ok he ops r ⟨μ, I, h.putd (d := .tup []) (v := undef) undefD⟩ hr
      cases hg : o.guard with
      | none =>
        simp only [hg] at hr
        exact runs h (by simp [Region.wanted, hg]) hr
      | some jw =>
        obtain ⟨j, want⟩ := jw
        simp only [hg] at hr
        split at hr
        · rename_i k hk
          obtain ⟨μ, I, h⟩ := h
          have htm := h.tm k
          split at hr
          · rename_i hd
            rw [hd] at htm
            have hy := yield_of (a := a) hk (b := true) htm
            cases want with
            | true => exact runs ⟨μ, I, h⟩ (by simp [Region.wanted, hg, hy]) (by simpa using hr)
            | false => exact passes ⟨μ, I, h⟩ (by simp [Region.wanted, hg, hy]) (by simpa using hr)
          · rename_i hd
            rw [hd] at htm
            have hy := yield_of (a := a) hk (b := false) htm
            cases want with
            | true => exact passes ⟨μ, I, h⟩ (by simp [Region.wanted, hg, hy]) (by simpa using hr)
            | false => exact runs ⟨μ, I, h⟩ (by simp [Region.wanted, hg, hy]) (by simpa using hr)
          · rename_i hd
            rw [hd] at htm
            obtain ⟨vs, hv, hl⟩ := htm
            have hvs : vs = [] := List.length_eq_zero_iff.1 hl.1.symm
            subst hvs
            have hy := yield_undef (a := a) hk hv
            exact passes ⟨μ, I, h⟩ (by simp [Region.wanted, hg, hy]) hr
          · rename_i t b hd
            rw [hd] at htm
            have hb := RD.bool htm
            have hy := yield_of (a := a) hk hb
            have hT : b = true → Ok g ⟨s.t.set k (.c .tt), s.m, s.k⟩ a w := fun e => ⟨μ, I, h.retell (d := .c .tt) (by rw [hb, e]; exact rfl)⟩
            have hF : b = false → Ok g ⟨s.t.set k (.c .ff), s.m, s.k⟩ a w := fun e => ⟨μ, I, h.retell (d := .c .ff) (by rw [hb, e]; exact rfl)⟩
            cases b with
            | true =>
              simp only [Br.run, cond_true] at hr
              cases want with
              | true => exact runs (hT rfl) (by simp [Region.wanted, hg, hy]) (by simpa using hr)
              | false => exact passes (hT rfl) (by simp [Region.wanted, hg, hy]) (by simpa using hr)
            | false =>
              simp only [Br.run, cond_false] at hr
              cases want with
              | true => exact passes (hF rfl) (by simp [Region.wanted, hg, hy]) (by simpa using hr)
              | false => exact runs (hF rfl) (by simp [Region.wanted, hg, hy]) (by simpa using hr)
          · cases hr
        · cases hr

/-- What a piece of code comes to. -/
def Tri (P : Program) (g : Cfg) (code : Code) (s : St) (Q : Exit → St → Prop) : Prop := ∀ a w, Ok g s a w → code.wp P (fun y a' w' => ∃ st, Q y st ∧ Ok g st a' w') a w

theorem wp_loop_ghost {b : Code} {Q : Exit → Act → World → Prop} (Inv : Nat → Act → World → Prop) {n : Nat} (h0 : Inv n a w)
    (round : ∀ n a w, Inv n a w → b.wp P (Exit.then (fun a' w' => ∃ m, m < n ∧ Inv m a' w') Q) a w) : (Code.loop b).wp P Q a w := by
  intro bf k cs
  have key : ∀ n a w, Inv n a w → ∃ e a' w', Q e a' w' ∧ Arrives P (lone (bf.at a (.code b :: .inLoop b :: k)) cs w) bf k cs e a' w' := by
    intro n
    induction n using Nat.strongRecOn with
    | _ n ih =>
      intro a w hI
      obtain ⟨e, a₁, w₁, hq, harr⟩ := round n a w hI bf (.inLoop b :: k) cs
      cases e with
      | normal =>
        obtain ⟨m, hlt, hI₁⟩ := hq
        obtain ⟨e₂, a₂, w₂, hq₂, harr₂⟩ := ih m hlt a₁ w₁ hI₁
        exact ⟨e₂, a₂, w₂, hq₂, .of_steps (Steps.trans harr (.one step_inLoop)) harr₂⟩
      | exit id => exact ⟨_, a₁, w₁, hq, .pass (x := .inLoop b) rfl (fun _ _ => .inl (by simp)) harr⟩
      | goto l => exact ⟨_, a₁, w₁, hq, .pass (x := .inLoop b) rfl (fun _ _ => .inl (by simp)) harr⟩
      | ret => exact ⟨_, a₁, w₁, hq, .pass (x := .inLoop b) rfl (fun _ _ => .inl (by simp)) harr⟩
      | panic ch => exact ⟨_, a₁, w₁, hq, .pass (x := .inLoop b) rfl (fun _ _ => .inl (by simp)) harr⟩
      | outgrown => exact ⟨_, a₁, w₁, hq, .pass (x := .inLoop b) rfl (fun _ _ => .inl (by simp)) harr⟩
  obtain ⟨e, a', w', hq, harr⟩ := key n a w h0
  exact ⟨e, a', w', hq, .of_steps (.one step_loop) harr⟩

/-- What is said of a loop is so. -/
def LoopOk (P : Program) (g : Cfg) (o : St → Br (Exit × St)) (a : Code) : Prop := ∀ s y st, (o s).run = some (y, st) → Tri P g (.loop a) s fun e s' => e = y ∧ s' = st

def loopsOf : Code → List Code
  | .seq a b => loopsOf a ++ loopsOf b
  | .cond _ a b => loopsOf a ++ loopsOf b
  | .block _ a => loopsOf a
  | .loop a => a :: loopsOf a
  | _ => []
/-- What is said of the loops of a piece of code is so. -/
def LoOk (P : Program) (g : Cfg) (p : Par) (code : Code) : Prop := ∀ a ∈ loopsOf code, ∀ o, loOf p a = some o → LoopOk P g o a

theorem LoOk.left {p : Par} {a b : Code} (h : LoOk P g p (.seq a b)) : LoOk P g p a := fun x hx => h x (List.mem_append.2 (.inl hx))
theorem LoOk.right {p : Par} {a b : Code} (h : LoOk P g p (.seq a b)) : LoOk P g p b := fun x hx => h x (List.mem_append.2 (.inr hx))
theorem LoOk.tail {p : Par} {a : Code} (h : LoOk P g p (.loop a)) : LoOk P g p a := fun x hx => h x (List.mem_cons_of_mem _ hx)
theorem LoOk.none {p : Par} {a : Code} (h : ∀ i, p.lo i = none) : LoOk P g p a := fun x _ o hl => by
  unfold loOf at hl
  split at hl
  · rw [h] at hl; cases hl
  · cases hl

namespace Tri
variable {Q Q' : Exit → St → Prop}

theorem mono {code : Code} (h : Tri P g code s Q) (hq : ∀ y st, Q y st → Q' y st) : Tri P g code s Q' :=
  fun a w hok => wp_mono (h a w hok) fun _ _ _ ⟨st, h1, h2⟩ => ⟨st, hq _ _ h1, h2⟩

theorem skip (h : Q .normal s) : Tri P g .skip s Q := fun _ _ hok => wp_skip ⟨s, h, hok⟩
theorem ret (h : Q .ret s) : Tri P g .ret s Q := fun _ _ hok => wp_ret ⟨s, h, hok⟩
theorem exit {j : Nat} (h : Q (.exit j) s) : Tri P g (.exit j) s Q := fun _ _ hok => wp_exit ⟨s, h, hok⟩

theorem seq {x y : Code} {M : St → Prop} (hx : Tri P g x s fun e st => match e with | .normal => M st | e => Q e st) (hy : ∀ st, M st → Tri P g y st Q) : Tri P g (.seq x y) s Q := by
  intro a w hok
  refine wp_seq (wp_mono (hx a w hok) ?_)
  rintro e a' w' ⟨st, h1, h2⟩
  cases e with
  | normal => exact hy st h1 a' w' h2
  | exit j => exact ⟨st, h1, h2⟩
  | goto l => exact ⟨st, h1, h2⟩
  | ret => exact ⟨st, h1, h2⟩
  | panic ch => exact ⟨st, h1, h2⟩
  | outgrown => exact ⟨st, h1, h2⟩

theorem block {id : Nat} {x : Code} (hx : Tri P g x s fun e st => match e with | .exit j => if j = id then Q .normal st else Q (.exit j) st | e => Q e st) : Tri P g (.block id x) s Q := by
  intro a w hok
  refine wp_block (wp_mono (hx a w hok) ?_)
  rintro e a' w' ⟨st, h1, h2⟩
  cases e with
  | exit j =>
    simp only at h1
    unfold Exit.inBlock
    by_cases hj : j = id
    · subst hj
      simp only [if_true] at h1
      simpa using ⟨st, h1, h2⟩
    · rw [if_neg hj] at h1
      simpa [hj] using ⟨st, h1, h2⟩
  | normal => exact ⟨st, h1, h2⟩
  | goto l => exact ⟨st, h1, h2⟩
  | ret => exact ⟨st, h1, h2⟩
  | panic ch => exact ⟨st, h1, h2⟩
  | outgrown => exact ⟨st, h1, h2⟩

theorem loop {x : Code} (Inv : Nat → St → Prop) {n : Nat} (h0 : Inv n s) (round : ∀ n s, Inv n s → Tri P g x s fun e st => match e with | .normal => ∃ m, m < n ∧ Inv m st | e => Q e st) : Tri P g (.loop x) s Q := by
  intro a w hok
  refine wp_loop_ghost (fun n a w => ∃ s, Inv n s ∧ Ok g s a w) ⟨s, h0, hok⟩ ?_
  rintro n a w ⟨s, hi, hok⟩
  refine wp_mono (round n s hi a w hok) ?_
  rintro e a' w' ⟨st, h1, h2⟩
  cases e with
  | normal => obtain ⟨m, hm, hi'⟩ := h1; exact ⟨m, hm, st, hi', h2⟩
  | exit j => exact ⟨st, h1, h2⟩
  | goto l => exact ⟨st, h1, h2⟩
  | ret => exact ⟨st, h1, h2⟩
  | panic ch => exact ⟨st, h1, h2⟩
  | outgrown => exact ⟨st, h1, h2⟩

theorem onB {x : Operand} {p q : Code} {r : Exit × St} {u v : Br (Exit × St)} (hr : (Go.PI.onB (opd s x) u v).run = some r) (hp : u.run = some r → Tri P g p s Q) (hq : v.run = some r → Tri P g q s Q) : Tri P g (.cond x p q) s Q := by
  rintro a w ⟨μ, I, h⟩
  obtain ⟨b, hb, hr⟩ := onB_run (eval_opd h x) hr
  refine wp_cond hb ?_
  cases b with
  | true => exact hp hr a w ⟨μ, I, h⟩
  | false => exact hq hr a w ⟨μ, I, h⟩

/-- A condition whose truth is told. -/
theorem cond {x : Operand} {p q : Code} (b : Bool) (hb : ∀ a w, Ok g s a w → a.eval x = .bool b) (h : Tri P g (if b = true then p else q) s Q) : Tri P g (.cond x p q) s Q :=
  fun a w hok => wp_cond (hb a w hok) (h a w hok)

theorem weaken {code : Code} {s' : St} (h : ∀ a w, Ok g s a w → Ok g s' a w) (ht : Tri P g code s' Q) : Tri P g code s Q := fun a w hok => ht a w (h a w hok)

theorem region {id : Nat} {ops : Array Oper} {draw : Bool} (he : EnvFull P c) (hr : (bif draw then evDraw c ops s else evOps c ops (List.range ops.size) s).run = some st) : Tri P g (.region id ops draw) s fun y s' => y = .normal ∧ s' = st := by
  intro a w hok
  cases draw with
  | false => exact wp_mono (wp_region (evOps_ok he ops _ hok hr)) fun y a' w' ⟨h1, h2⟩ => ⟨st, ⟨h1, rfl⟩, h2⟩
  | true => exact wp_mono (draw_ok he he.mixed hok hr) fun y a' w' ⟨h1, h2⟩ => ⟨st, ⟨h1, rfl⟩, h2⟩

/-- What the interpreter says of a piece of code is so. -/
theorem ev_ok (he : EnvFull P c) (p : Par) : ∀ (code : Code), LoOk P g p code → ∀ {s st : St} {y : Exit}, (ev c p code s).run = some (y, st) → Tri P g code s fun e s' => e = y ∧ s' = st
  | .skip, _, s, st, y, h => by
    obtain ⟨rfl, rfl⟩ := Prod.mk.inj (Option.some.inj h)
    exact Tri.skip ⟨rfl, rfl⟩
  | .region id ops draw, _, s, st, y, h => by
    simp only [ev] at h
    obtain ⟨s1, h1, h2⟩ := Br.bind_some h
    obtain ⟨rfl, rfl⟩ := Prod.mk.inj (Option.some.inj h2)
    exact Tri.region he h1
  | .seq a b, hlo, s, st, y, h => by
    simp only [ev] at h
    obtain ⟨⟨e, s1⟩, h1, h2⟩ := Br.bind_some h
    have ih := ev_ok he p a hlo.left h1
    cases e with
    | normal => exact Tri.seq (M := fun st' => st' = s1) (ih.mono fun e' s' ⟨e1, e2⟩ => by subst e1 e2; rfl) fun s' hs => by subst hs; exact ev_ok he p b hlo.right h2
    | _ =>
      obtain ⟨rfl, rfl⟩ := Prod.mk.inj (Option.some.inj h2)
      exact Tri.seq (M := fun _ => False) (ih.mono fun e' s' ⟨e1, e2⟩ => by subst e1 e2; exact ⟨rfl, rfl⟩) fun s' hs => hs.elim
  | .cond x a b, hlo, s, st, y, h => by
    simp only [ev] at h
    exact Tri.onB h (fun h => ev_ok he p a (LoOk.left hlo) h) (fun h => ev_ok he p b (LoOk.right hlo) h)
  | .block id a, hlo, s, st, y, h => by
    simp only [ev] at h
    obtain ⟨⟨e, s1⟩, h1, h2⟩ := Br.bind_some h
    have ih := ev_ok he p a hlo h1
    cases e with
    | exit j =>
      obtain ⟨h3, rfl⟩ := Prod.mk.inj (Option.some.inj h2)
      refine Tri.block (ih.mono fun e' s' ⟨e1, e2⟩ => ?_)
      subst e1 e2
      simp only
      split at h3
      · rename_i hj; rw [if_pos hj]; exact ⟨h3, trivial⟩
      · rename_i hj; rw [if_neg hj]; exact ⟨h3, trivial⟩
    | _ =>
      obtain ⟨rfl, rfl⟩ := Prod.mk.inj (Option.some.inj h2)
      exact Tri.block (ih.mono fun e' s' ⟨e1, e2⟩ => by subst e1 e2; exact ⟨rfl, rfl⟩)
  | .loop a, hlo, s, st, y, h => by
    simp only [ev] at h
    cases hl : loOf p a with
    | some o =>
      rw [hl] at h
      exact hlo a List.mem_cons_self o hl s y st h
    | none =>
    rw [hl] at h
    simp only at h
    refine Tri.loop (fun n s => (iter (fun s => ev c p a (shapeOf c.base p a s)) n s).run = some (y, st)) h ?_
    intro n s h
    cases n with
    | zero => cases h
    | succ n =>
      simp only [iter] at h
      obtain ⟨⟨e, s1⟩, h1, h2⟩ := Br.bind_some h
      refine Tri.weaken (fun a' w' hok => shapeOf_ok hok c.base p a) ?_
      have ih := ev_ok he p a hlo.tail h1
      cases e with
      | normal => exact ih.mono fun e' s' ⟨e1, e2⟩ => by subst e1 e2; exact ⟨n, by omega, h2⟩
      | _ =>
        obtain ⟨rfl, rfl⟩ := Prod.mk.inj (Option.some.inj h2)
        exact ih.mono fun e' s' ⟨e1, e2⟩ => by subst e1 e2; exact ⟨rfl, rfl⟩
  | .exit j, _, s, st, y, h => by
    obtain ⟨rfl, rfl⟩ := Prod.mk.inj (Option.some.inj h)
    exact Tri.exit ⟨rfl, rfl⟩
  | .ret, _, s, st, y, h => by
    obtain ⟨rfl, rfl⟩ := Prod.mk.inj (Option.some.inj h)
    exact Tri.ret ⟨rfl, rfl⟩
  | .rangeFunc .., _, s, st, y, h => by cases h
  | .scope _, _, s, st, y, h => by cases h
  | .label _, _, s, st, y, h => by cases h
  | .goto _, _, s, st, y, h => by cases h
  | .refuse _, _, s, st, y, h => by cases h

theorem run (he : EnvFull P c) (p : Par) {code : Code} (hlo : LoOk P g p code) {y : Exit} (h : (ev c p code s).run = some (y, st)) (hq : Q y st) : Tri P g code s Q :=
  (ev_ok he p code hlo h).mono fun _ _ ⟨e1, e2⟩ => by subst e1 e2; exact hq
end Tri

end Go.PI

namespace Go.PI
open Go.RowKit

/-- A cell's typed worth, one's own blocks being told by what they hold. -/
def outL (m : Mem) : (σ : Ty) → List C → Option ((Bool × σ.T) × List C)
  | .unit, l => some ((false, ()), l)
  | .pair a b, l => match outL m a l with
    | some ((t, x), l) => match outL m b l with
      | some ((u, y), l) => some ((t || u, x, y), l)
      | none => none
    | none => none
  | .st a, l => outL m a l
  | .arr n a, l => manyRe (outL m a) n l
  | .sl a, c :: l => match c.asTy (.sl a) with
    | some q => some (q, l)
    | none => match c with
      | .mfull n => match look n m with
        | some (.ar t _ τ xs) => if h : τ = a then some ((t && τ.hasP, cast (congrArg (fun s => List (Ty.T s)) h) xs), l) else none
        | _ => none
      | .msl n s k _ => match look n m with
        | some (.ar t _ τ xs) => if h : τ = a then some ((t && τ.hasP, ((cast (congrArg (fun s => List (Ty.T s)) h) xs).drop s).take k), l) else none
        | _ => none
      | _ => none
  | .ptr a, c :: l => match c.asTy (.ptr a) with
    | some q => some (q, l)
    | none => match c with
      | .ref n 0 0 => match look n m with
        | some (.tv t τ x) => if h : τ = a then some ((t, some (cast (congrArg Ty.T h) x)), l) else none
        | some (.dv l') => match outL m a l' with
          | some ((t, x), []) => some ((t, some x), l)
          | _ => none
        | _ => none
      | .eref t τ (x :: _) 0 0 => if h : τ = a then some ((t, some (cast (congrArg Ty.T h) x)), l) else none
      | _ => none
  | σ, c :: l => match c.asTy σ with
    | some q => some (q, l)
    | none => none
  | _, [] => none

def D.out (m : Mem) (σ : Ty) : D → Option (Bool × σ.T)
  | .c (.ty b τ x) => if h : τ = σ then some (b, cast (congrArg Ty.T h) x) else none
  | .c x => bif σ.isAgg then none else (match outL m σ [x] with
    | some (q, []) => some q
    | _ => none)
  | .agg l => bif σ.isAgg then (match outL m σ l with
    | some (q, []) => some q
    | _ => none) else none
  | _ => none

variable {P : Program} {c : Ctx} {g : Cfg} {s st : St} {a : Act} {w : World} {μ : Nm} {I : Bool → Nat → Prop}

theorem outL_ok {m : Mem} (hm : MRel g m w μ I) {J : Bool → Nat → Prop} (hIJ : ∀ t b, I t b → J t b) (hJ : ∀ b, J false b → J true b) (hL : ∀ t b, Live m μ b → J t b) :
    ∀ {σ : Ty} {l rest : List C} {t : Bool} {x : σ.T}, outL m σ l = some ((t, x), rest) → ∀ {vs : List Value}, RL μ I w (shp m) l vs → ∃ v1 v2, vs = v1 ++ v2 ∧ K (J t) w σ x v1 ∧ RL μ I w (shp m) rest v2
  | .unit, l, rest, b, x, h, vs, hl => by
    simp only [outL] at h
    obtain ⟨h1, rfl⟩ := Prod.mk.inj (Option.some.inj h)
    exact ⟨[], vs, rfl, rfl, hl⟩
  | .pair p q, l, rest, b, x, h, vs, hl => by
    simp only [outL] at h
    split at h
    · rename_i t y l1 h1
      split at h
      · rename_i u z l2 h2
        obtain ⟨h3, rfl⟩ := Prod.mk.inj (Option.some.inj h)
        obtain ⟨rfl, rfl⟩ := Prod.mk.inj h3
        obtain ⟨v1, v2, rfl, k1, r1⟩ := outL_ok hm hIJ hJ hL h1 hl
        obtain ⟨v3, v4, rfl, k2, r2⟩ := outL_ok hm hIJ hJ hL h2 r1
        exact ⟨v1 ++ v3, v4, by simp, ⟨v1, v3, rfl, k1.up (or_mono hJ t u).1, k2.up (or_mono hJ t u).2⟩, r2⟩
      · cases h
    · cases h
  | .st p, l, rest, b, x, h, vs, hl => outL_ok (σ := p) hm hIJ hJ hL h hl
  | .arr n p, l, rest, b, x, h, vs, hl => by
    simp only [outL] at h
    have main : ∀ (n : Nat) (l rest : List C) (b : Bool) (x : List p.T) (vs : List Value), manyRe (outL m p) n l = some ((b, x), rest) → RL μ I w (shp m) l vs → ∃ v1 v2, vs = v1 ++ v2 ∧ (x.length = n ∧ Row (K (J b) w p) p.sz x v1) ∧ RL μ I w (shp m) rest v2 := by
      intro n
      induction n with
      | zero =>
        intro l rest b x vs h hl
        simp only [manyRe] at h
        obtain ⟨h3, rfl⟩ := Prod.mk.inj (Option.some.inj h)
        obtain ⟨rfl, rfl⟩ := Prod.mk.inj h3
        exact ⟨[], vs, rfl, ⟨rfl, Row.nil _ _⟩, hl⟩
      | succ n ih =>
        intro l rest b x vs h hl
        simp only [manyRe] at h
        split at h
        · rename_i t y l1 h1
          split at h
          · rename_i u z l2 h2
            obtain ⟨h3, rfl⟩ := Prod.mk.inj (Option.some.inj h)
            obtain ⟨rfl, rfl⟩ := Prod.mk.inj h3
            obtain ⟨v1, v2, rfl, k1, r1⟩ := outL_ok hm hIJ hJ hL h1 hl
            obtain ⟨v3, v4, rfl, ⟨k2, k3⟩, r2⟩ := ih _ _ _ _ _ h2 r1
            refine ⟨v1 ++ v3, v4, by simp, ⟨by simp [k2], Row.cons k1.length (k1.up (or_mono hJ t u).1) (k3.imp fun _ _ k => k.up (or_mono hJ t u).2)⟩, r2⟩
          · cases h
        · cases h
    exact main n l rest b x vs h hl
  | .sl p, c :: l, rest, b, x, h, vs, hl => by
    obtain ⟨v, r, rfl, hc, hr⟩ := hl.cons
    simp only [outL] at h
    split at h
    · rename_i q hq
      obtain ⟨rfl, rfl⟩ := Prod.mk.inj (Option.some.inj h)
      exact ⟨[v], r, rfl, ((asTyC_ok hc hq).2 rfl).mono (hIJ b) (stays_refl _ _), hr⟩
    · split at h
      · rename_i n hno
        split at h
        · rename_i t el τ xs hlk
          split at h
          · rename_i hτ
            subst hτ
            obtain ⟨h3, rfl⟩ := Prod.mk.inj (Option.some.inj h)
            obtain ⟨rfl, hx⟩ := Prod.mk.inj h3
            have hx : xs = x := hx
            subst hx
            have hs : sliceOf m τ (.c (.mfull n)) = some (t, xs) := by simp [sliceOf, hlk]
            exact ⟨[v], r, rfl, own_K hm hIJ hL (y := .c (.mfull n)) hc hs (.inl ⟨n, rfl⟩), hr⟩
          · cases h
        · cases h
      · rename_i n sx k cp hno
        split at h
        · rename_i t el τ xs hlk
          split at h
          · rename_i hτ
            subst hτ
            obtain ⟨h3, rfl⟩ := Prod.mk.inj (Option.some.inj h)
            obtain ⟨rfl, hx⟩ := Prod.mk.inj h3
            have hx : (xs.drop sx).take k = x := hx
            subst hx
            have hs : sliceOf m τ (.c (.msl n sx k cp)) = some (t, (xs.drop sx).take k) := by simp [sliceOf, hlk]
            exact ⟨[v], r, rfl, own_K hm hIJ hL (y := .c (.msl n sx k cp)) hc hs (.inr ⟨n, sx, k, cp, rfl⟩), hr⟩
          · cases h
        · cases h
      · cases h
  | .ptr p, c :: l, rest, b, x, h, vs, hl => by
    obtain ⟨v, r, rfl, hc, hr⟩ := hl.cons
    simp only [outL] at h
    split at h
    · rename_i q hq
      obtain ⟨rfl, rfl⟩ := Prod.mk.inj (Option.some.inj h)
      exact ⟨[v], r, rfl, ((asTyC_ok hc hq).2 rfl).mono (hIJ b) (stays_refl _ _), hr⟩
    · split at h
      · rename_i n hno
        obtain ⟨bb, qq, len, z, e1, e2, hi, rfl⟩ := hc
        split at h
        · rename_i t τ y hlk
          split at h
          · rename_i hτ
            subst hτ
            obtain ⟨h3, rfl⟩ := Prod.mk.inj (Option.some.inj h)
            obtain ⟨rfl, hx⟩ := Prod.mk.inj h3
            have hx : some y = x := hx
            subst hx
            rcases hm.mem n _ hlk with ⟨b', q', e3, cur, el, hh, hq, hk⟩ | ⟨_, _, _, _, e3⟩
            · rw [e1] at e3
              obtain ⟨rfl, rfl⟩ := Prod.mk.inj (Option.some.inj e3)
              refine ⟨[_], r, rfl, ⟨⟨bb, 0, none⟩, cur.toList, by simp, hL _ _ ⟨n, _, by rw [hlk]; simp, e1⟩, ⟨rfl, fun j u hu => by rw [Nat.zero_add, cell_cur hh]; exact hu⟩, hk.mono (hIJ t) (stays_refl _ _)⟩, hr⟩
            · cases e3
          · cases h
        · rename_i l' hlk
          split at h
          · rename_i t y hy
            obtain ⟨h3, rfl⟩ := Prod.mk.inj (Option.some.inj h)
            obtain ⟨rfl, rfl⟩ := Prod.mk.inj h3
            rcases hm.mem n _ hlk with ⟨b', q', e3, cur, el, hh, hq, hk, _⟩ | ⟨_, _, _, _, e3⟩
            · rw [e1] at e3
              obtain ⟨rfl, rfl⟩ := Prod.mk.inj (Option.some.inj e3)
              obtain ⟨v1, v2, ev, k1, r1⟩ := outL_ok hm hIJ hJ hL hy hk
              have hv2 : v2 = [] := by have := r1.1; simpa using this.symm
              rw [hv2, List.append_nil] at ev
              rw [← ev] at k1
              refine ⟨[_], r, rfl, ⟨⟨bb, 0, none⟩, cur.toList, by simp, hL _ _ ⟨n, _, by rw [hlk]; simp, e1⟩, ⟨rfl, fun j u hu => by rw [Nat.zero_add, cell_cur hh]; exact hu⟩, k1⟩, hr⟩
            · cases e3
          · cases h
        · cases h
      · rename_i t τ y ys hno
        split at h
        · rename_i hτ
          subst hτ
          obtain ⟨h3, rfl⟩ := Prod.mk.inj (Option.some.inj h)
          obtain ⟨rfl, hx⟩ := Prod.mk.inj h3
          have hx : some y = x := hx
          subst hx
          obtain ⟨ad, cells, rfl, hi, hI, hcc, hrow⟩ := hc
          obtain ⟨ab, ao, asp⟩ := ad
          obtain rfl : asp = none := hcc.1
          have hp := row_piece hrow τ.zero hi
          refine ⟨[_], r, rfl, ⟨⟨ab, ao, none⟩, piece τ.sz cells 0, by simp, hIJ _ _ hI, ⟨rfl, fun j u hu => ?_⟩, hp.mono (hIJ t) (stays_refl _ _)⟩, hr⟩
          unfold piece at hu
          rw [List.getElem?_take] at hu
          split at hu
          · rw [Nat.zero_mul, List.drop_zero] at hu
            exact hcc.2 j u hu
          · cases hu
        · cases h
      · cases h
  | .bool, c :: l, rest, b, x, h, vs, hl => leaf .bool rfl rfl h hl
  | .int k, c :: l, rest, b, x, h, vs, hl => leaf (.int k) rfl rfl h hl
  | .str, c :: l, rest, b, x, h, vs, hl => leaf .str rfl rfl h hl
  | .chain p, c :: l, rest, b, x, h, vs, hl => leaf (.chain p) rfl rfl h hl
  | .bool, [], _, _, _, h, _, _ => by simp [outL] at h
  | .int _, [], _, _, _, h, _, _ => by simp [outL] at h
  | .str, [], _, _, _, h, _, _ => by simp [outL] at h
  | .sl _, [], _, _, _, h, _, _ => by simp [outL] at h
  | .ptr _, [], _, _, _, h, _, _ => by simp [outL] at h
  | .chain _, [], _, _, _, h, _, _ => by simp [outL] at h
  where
  leaf (σ : Ty) (ha : σ.isAgg = false) (hr : ∀ {c : C} {l : List C}, outL m σ (c :: l) = match c.asTy σ with | some q => some (q, l) | none => none) {c : C} {l rest : List C} {b : Bool} {x : σ.T} (h : outL m σ (c :: l) = some ((b, x), rest)) {vs : List Value} (hl : RL μ I w (shp m) (c :: l) vs) :
      ∃ v1 v2, vs = v1 ++ v2 ∧ K (J b) w σ x v1 ∧ RL μ I w (shp m) rest v2 := by
    rw [hr] at h
    split at h
    · rename_i q hq
      obtain ⟨rfl, rfl⟩ := Prod.mk.inj (Option.some.inj h)
      obtain ⟨v, r, rfl, hc, hr⟩ := hl.cons
      exact ⟨[v], r, rfl, ((asTyC_ok hc hq).2 ha).mono (hIJ b) (stays_refl _ _), hr⟩
    · cases h
  own_K {m : Mem} (hm : MRel g m w μ I) {J : Bool → Nat → Prop} (hIJ : ∀ t b, I t b → J t b) (hL : ∀ t b, Live m μ b → J t b) {τ : Ty} {y : D} {v : Value} (hy : RD μ I w (shp m) y v) {t : Bool} {ys : List τ.T} (h : sliceOf m τ y = some (t, ys)) (hf : (∃ n, y = .c (.mfull n)) ∨ (∃ n s k cp, y = .c (.msl n s k cp))) : K (J (t && τ.hasP)) w (.sl τ) ys [v] := by
    obtain ⟨A, cap, rfl, hcells⟩ := src_ok hm hy h
    have hcap : ys.length ≤ cap ∧ cap ≤ Mx := by
      rcases hf with ⟨n, rfl⟩ | ⟨n, s, k, cp, rfl⟩
      · obtain ⟨len, z, A', cap', e1, e2, h2, h3, _⟩ := hy
        injection e2 with _ e3 e4
        subst e3 e4
        exact ⟨h2, h3⟩
      · obtain ⟨A', cap', e2, h2, h3, _⟩ := hy
        injection e2 with _ e3 e4
        subst e4
        exact ⟨by omega, h3⟩
    refine ⟨A, cap, rfl, hcap.1, hcap.2, fun hne => ?_⟩
    rcases hcells with e | ⟨b', o, cells, rfl, hc, hr⟩
    · exact absurd e hne
    · have hlive : Live m μ b' := by
        rcases hf with ⟨n, rfl⟩ | ⟨n, s, k, cp, rfl⟩
        · obtain ⟨len, z, A', cap', e1, e2, h2, h3, h4⟩ := hy
          injection e2 with e5 e3 e4
          subst e5
          rcases h4 with ⟨e6, _⟩ | ⟨b2, q, len', z', e7, _, e8, _⟩
          · cases e6
          · injection e8 with e8
            injection e8 with e8
            subst e8
            exact ⟨n, q, fun e => by simp [shp, e] at e1, e7⟩
        · obtain ⟨A', cap', e2, h2, h3, _, ⟨len, z, e1, _, h6⟩, _⟩ := hy
          injection e2 with e5 e3 e4
          subst e5
          have hpos : 0 < k := by
            rw [← e3]
            exact List.length_pos_iff.2 hne
          obtain ⟨b2, q, e7, e8⟩ := h6 hpos
          injection e8 with e8
          injection e8 with e8
          subst e8
          exact ⟨n, q, fun e => by simp [shp, e] at e1, e7⟩
      exact ⟨⟨b', o, none⟩, cells, rfl, hL _ _ hlive, ⟨rfl, hc⟩, hr.imp fun _ _ k => by
        cases h : τ.hasP with
        | false => exact k.noP h
        | true => rw [Bool.and_true]; exact k.mono (hIJ t) (stays_refl _ _)⟩

theorem out_ok {m : Mem} (hm : MRel g m w μ I) {J : Bool → Nat → Prop} (hIJ : ∀ t b, I t b → J t b) (hJ : ∀ b, J false b → J true b) (hL : ∀ t b, Live m μ b → J t b) {σ : Ty} {d : D} {t : Bool} {x : σ.T} (h : d.out m σ = some (t, x)) {v : Value} (hd : RD μ I w (shp m) d v) : VK (J t) w σ x v := by
  unfold D.out at h
  split at h
  · split at h
    · rename_i hτ
      obtain ⟨rfl, rfl⟩ := Prod.mk.inj (Option.some.inj h)
      exact cast_VK hτ (VK.mono (hIJ _) (stays_refl _ _) hd)
    · cases h
  · rename_i y hy
    cases ha : σ.isAgg with
    | true => simp only [ha, cond_true] at h; cases h
    | false =>
      simp only [ha, cond_false] at h
      split at h
      · rename_i q hq
        obtain rfl := Option.some.inj h
        obtain ⟨v1, v2, ev, k1, r1⟩ := outL_ok hm hIJ hJ hL hq (RL.mk_cons (v := v) hd RL.nil)
        have hv2 : v2 = [] := by have := r1.1; simpa using this.symm
        rw [hv2, List.append_nil] at ev
        rw [← ev] at k1
        exact ⟨(fun e => by rw [ha] at e; exact absurd e (by decide)), fun _ => k1⟩
      · cases h
  · rename_i l
    cases ha : σ.isAgg with
    | false => simp only [ha, cond_false] at h; cases h
    | true =>
      simp only [ha, cond_true] at h
      split at h
      · rename_i q hq
        obtain rfl := Option.some.inj h
        obtain ⟨vs, rfl, hl, _⟩ := hd
        obtain ⟨v1, v2, ev, k1, r1⟩ := outL_ok hm hIJ hJ hL hq hl
        have hv2 : v2 = [] := by have := r1.1; simpa using this.symm
        rw [hv2, List.append_nil] at ev
        rw [← ev] at k1
        exact ⟨fun _ => ⟨vs, rfl, k1⟩, fun e => (by rw [ha] at e; exact absurd e (by decide))⟩
      · cases h
  · cases h

end Go.PI

namespace Go.PI
open Go.RowKit

variable {P : Program} {c : Ctx} {g : Cfg} {s st : St} {a : Act} {w : World} {μ : Nm} {I : Bool → Nat → Prop}

/-- A result variable's value. -/
def readVar (tmps : Array Value) : ResultVar → Sem Value
  | .tmp t => pure (tmps.getD t undef)
  | .cell a t => do loadVar t (← asAddr (tmps.getD a undef))

theorem resD_ok (he : EnvOk P c) (h : Rel g s a w μ I) {x : ResultVar} {d : D} (hd : resD c s x = some d) : ∃ v, (readVar a.tmps x).run P w = .ok v w ∧ RD μ I w (shp s.m) d v := by
  cases x with
  | tmp t =>
    obtain rfl := Option.some.inj hd
    exact ⟨_, rfl, h.tm t⟩
  | cell t ty =>
    simp only [resD] at hd
    split at hd
    · rename_i ti p ht hp
      have hv := h.tm t
      rw [hp] at hv
      obtain ⟨v', h1, h2⟩ := load_ok h.toMRel (he.tb _ _ ht) hv hd
      refine ⟨v', ?_, h2⟩
      show (do loadVar ty (← asAddr (a.tmps.getD t undef)) : Sem Value).run P w = .ok v' w
      generalize a.tmps.getD t undef = u at h1
      unfold Instr.loadAt at h1
      cases u with
      | pointer o =>
        cases o with
        | some ad => simpa [Instr.sureAddr, asAddr, Sem.run_bind, Sem.run_pure] using h1
        | none => simp [Instr.sureAddr, Sem.run_bind, stuck] at h1
      | _ => simp [Instr.sureAddr, Sem.run_bind, stuck] at h1
    · cases hd

theorem asRes_ok (hs : ∀ b, I false b → I true b) {sh : Sh} {t : Option Nat} {d : D} {y : C} (h : asRes c t d = some y) {v : Value} (hd : RD μ I w sh d v) : RC μ I w sh y v := by
  unfold asRes at h
  split at h
  · obtain rfl := Option.some.inj h
    exact hd
  · split at h
    · split at h
      · split at h
        · rename_i b x hx
          obtain rfl := Option.some.inj h
          exact asTy_ok hs hx hd
        · cases h
      · cases h
    · cases h

theorem resC_ok (he : EnvOk P c) (h : Rel g s a w μ I) : ∀ {ts : List Nat} {l : List ResultVar} {r : List C}, resC c s ts l = some r → ∃ vs, (l.mapM (readVar a.tmps)).run P w = .ok vs w ∧ RL μ I w (shp s.m) r vs
  | _, [], r, hr => by
    obtain rfl := Option.some.inj hr
    exact ⟨[], rfl, RL.nil⟩
  | ts, x :: l, r, hr => by
    simp only [resC] at hr
    split at hr
    · rename_i d hx
      split at hr
      · rename_i y r' hy hl
        obtain rfl := Option.some.inj hr
        obtain ⟨v, h1, h2⟩ := resD_ok he h hx
        obtain ⟨vs, h3, h4⟩ := resC_ok he h hl
        refine ⟨v :: vs, ?_, RL.mk_cons (asRes_ok h.isub hy h2) h4⟩
        simp only [List.mapM_cons, Sem.run_bind, h1, Result.andThen_ok, h3, Sem.run_pure]
      · cases hr
    · cases hr

theorem results_eq (fn : Func) (tmps : Array Value) : results fn tmps = (do let vs ← fn.results.toList.mapM (readVar tmps); pure (if h : vs.length = 1 then vs[0] else .tuple vs.toArray)) := by
  unfold results
  have : (fun x : ResultVar => match x with
    | .tmp t => (pure (tmps.getD t undef) : Sem Value)
    | .cell a t => do loadVar t (← asAddr (tmps.getD a undef))) = readVar tmps := by
    funext x; cases x <;> rfl
  rw [Array.mapM_eq_mapM_toList]
  simp only [map_eq_pure_bind, bind_assoc, pure_bind]
  congr 1

theorem resultsD_ok (he : EnvOk P c) (h : Rel g s a w μ I) {fn : Func} {ts : List Nat} {d : D} (hd : resultsD c s ts fn.results.toList = some d) : ∃ v, (results fn a.tmps).run P w = .ok v w ∧ RD μ I w (shp s.m) d v := by
  rw [results_eq]
  unfold resultsD at hd
  split at hd
  · rename_i x hx
    obtain ⟨v, h1, h2⟩ := resD_ok he h hd
    refine ⟨v, ?_, h2⟩
    rw [hx]
    simp [Sem.run_bind, h1]
  · rename_i l hl
    obtain ⟨r, hr, rfl⟩ := Option.map_eq_some_iff.1 hd
    obtain ⟨vs, h1, h2⟩ := resC_ok he h hr
    have hne : vs.length ≠ 1 := by
      intro e
      have hlen : ∀ {l : List ResultVar} {ts : List Nat} {r : List C}, resC c s ts l = some r → r.length = l.length := by
        intro l
        induction l with
        | nil => intro ts r hr; obtain rfl := Option.some.inj hr; rfl
        | cons x l ih =>
          intro ts r hr
          simp only [resC] at hr
          split at hr
          · split at hr
            · rename_i y r' _ hl'
              obtain rfl := Option.some.inj hr
              simp [ih hl']
            · cases hr
          · cases hr
      have := hlen hr
      have h3 := h2.1
      rw [e] at h3
      rw [h3] at this
      obtain ⟨x, hx⟩ := List.length_eq_one_iff.1 this.symm
      exact hl x hx
    refine ⟨.tuple vs.toArray, ?_, vs, rfl, h2⟩
    simp only [Sem.run_bind, h1, Result.andThen_ok, dif_neg hne, Sem.run_pure]

theorem settle_ok (h : Rel g s a w μ I) (l : List ResultVar) : ∃ I', Rel g (settle c s l) a w μ I' := by
  unfold settle
  split
  · exact ⟨I, h⟩
  · obtain ⟨I', h', _⟩ := freezeAll_ok (aggOf c s l) h (d := .c .bad) (v := undef) trivial
    exact ⟨I', h'⟩

/-- A callee's first state. -/
theorem entry_rel {m : Mem} (h : MRel (cfgOf w I m μ) m w μ I) {args : List D} {vs : List Value} (ha : RDs μ I w (shp m) args vs) (k : Nat) : Rel (cfgOf w I m μ) ⟨args ++ List.replicate (k - args.length) (.c .bad), m, []⟩ { tmps := vs.toArray ++ Array.replicate (k - vs.toArray.size) undef, defers := [] } w μ I := by
  refine { toMRel := h, tm := ?_, len := by simp [ha.1], dfr := rfl, kept := fun n _ _ => ⟨rfl, rfl⟩ }
  intro i
  by_cases hi : i < args.length
  · have hi' : i < vs.length := ha.1 ▸ hi
    have := ha.2 i _ _ (List.getElem?_eq_getElem hi) (List.getElem?_eq_getElem hi')
    simpa [List.getD, List.getElem?_append_left hi, List.getElem?_eq_getElem hi, Array.getD_eq_getD_getElem?, Array.getElem?_append, hi'] using this
  · have : (args ++ List.replicate (k - args.length) (D.c .bad)).getD i (.c .bad) = .c .bad := by
      simp only [List.getD, List.getElem?_append_right (Nat.not_lt.1 hi), List.getElem?_replicate]
      split <;> rfl
    simp only [this]
    exact trivial

/-- A function does what the interpreter says of its code. -/
theorem inl_calls (he : EnvFull P c) {f : Nat} {fn : Func} {code : Code} (hf : P.funcs[f]? = some fn) (hb : fn.body = some code) {m : Mem} (hm : MRel (cfgOf w I m μ) m w μ I) {args : List D} {vs : List Value} (ha : RDs μ I w (shp m) args vs)
    {p : Par} (hlo : LoOk P (cfgOf w I m μ) p code) {nm : Nat} {d : D} {m' : Mem} {ks : List Nat} (hr : (inl c p fn code nm args m).run = some (d, m', ks)) :
    Calls P f vs.toArray w fun e w' => ∃ v μ' I', e = .returned v ∧ MRel (cfgOf w I m μ) m' w' μ' I' ∧ (∀ t b, I t b → I' t b) ∧ (∀ n, look n m ≠ none → n ∉ ks → μ' n = μ n ∧ shp m' n = shp m n) ∧ RD μ' I' w' (shp m') d v := by
  let c' : Ctx := { c with base := (nm + 1) * 1024 }
  have he' : EnvFull P c' := { tb := he.tb, eqs := he.eqs, orc := he.orc, mixed := he.mixed }
  unfold inl at hr
  obtain ⟨⟨y, st⟩, h1, h2⟩ := Br.bind_some hr
  have hcode := Tri.ev_ok (g := cfgOf w I m μ) he' p code hlo h1 _ w ⟨μ, I, entry_rel hm ha fn.ntmps⟩
  refine calls_of_wp hf hb (wp_mono hcode ?_)
  rintro e a' w' ⟨s', ⟨rfl, rfl⟩, μ', I', h⟩
  have key : (resultsOf c' fn s').run = some (d, m', ks) → a'.defers = [] ∧ ∃ v, (results fn a'.tmps).run P w' = .ok v w' ∧ ∃ v_1 μ' I', Ending.returned v = .returned v_1 ∧ MRel (cfgOf w I m μ) m' w' μ' I' ∧ (∀ t b, I t b → I' t b) ∧ (∀ n, look n m ≠ none → n ∉ ks → μ' n = μ n ∧ shp m' n = shp m n) ∧ RD μ' I' w' (shp m') d v_1 := by
    intro h3
    obtain ⟨I', h⟩ := settle_ok (c := c') h fn.results.toList
    obtain ⟨d1, hd, e1⟩ := Option.map_eq_some_iff.1 (ofOpt_run h3)
    obtain ⟨rfl, e2⟩ := Prod.mk.inj e1
    obtain ⟨rfl, rfl⟩ := Prod.mk.inj e2
    obtain ⟨v, hv, hrd⟩ := resultsD_ok he'.toEnvOk h hd
    exact ⟨h.dfr, v, hv, v, μ', I', rfl, h.toMRel, h.i0, fun n h1 h2 => h.kept n h1 h2, hrd⟩
  cases e with
  | normal => exact key h2
  | ret => exact key h2
  | _ => cases h2

theorem CallOk.of_run (he : EnvFull P c) {f : Nat} {fn : Func} {code : Code} {o : Orc} (hf : P.funcs[f]? = some fn) (hn : (fn.name == "runtime.NumGoroutine") = false) (hb : fn.body = some code)
    (h : ∀ nm args m r, (o nm args m).run = some r → ∃ p, (∀ i, p.lo i = none) ∧ (inl c p fn code nm args m).run = some r) : CallOk P f o := by
  refine ⟨⟨fn, hf, hn, by rw [hb]; rfl⟩, fun w μ I m nm args vs d m' ks hm ha hr => ?_⟩
  obtain ⟨p, hl, hp⟩ := h _ _ _ _ hr
  exact inl_calls he hf hb hm ha (LoOk.none hl) hp

/-- A callee that is gone through in place. -/
theorem CallOk.inl (he : EnvFull P c) (p : Par) (hl : ∀ i, p.lo i = none) {f : Nat} {fn : Func} {code : Code} (hf : P.funcs[f]? = some fn) (hn : (fn.name == "runtime.NumGoroutine") = false) (hb : fn.body = some code) : CallOk P f (inl c p fn code) :=
  .of_run he hf hn hb fun _ _ _ _ hr => ⟨p, hl, hr⟩

/-! ### typed data in, typed data out -/

@[reducible] def Args : List (Bool × Ty) → Type
  | [] => Unit
  | p :: r => p.2.T × Args r

@[reducible] def Res : List Ty → Type
  | [] => Unit
  | [τ] => τ.T
  | τ :: σ :: r => τ.T × Res (σ :: r)

/-- Arguments: what is kept, and what is only lent. -/
def ArgsK (J : Bool → Nat → Prop) (w : World) : (ins : List (Bool × Ty)) → Args ins → List Value → Prop
  | [], _, vs => vs = []
  | p :: r, x, vs => ∃ v l, vs = v :: l ∧ VK (J !p.1) w p.2 x.1 v ∧ ArgsK J w r x.2 l

def ResL (J : Nat → Prop) (w : World) : (outs : List Ty) → Res outs → List Value → Prop
  | [], _, vs => vs = []
  | [τ], x, vs => ∃ v, vs = [v] ∧ VK J w τ x v
  | τ :: σ :: r, x, vs => ∃ v l, vs = v :: l ∧ VK J w τ x.1 v ∧ ResL J w (σ :: r) x.2 l

def ResK (J : Nat → Prop) (w : World) : (outs : List Ty) → Res outs → Value → Prop
  | [], _, v => v = .tuple #[]
  | [τ], x, v => VK J w τ x v
  | τ :: σ :: r, x, v => ∃ vs : List Value, v = .tuple vs.toArray ∧ ResL J w (τ :: σ :: r) x vs

def argsD : (ins : List (Bool × Ty)) → Args ins → List D
  | [], _ => []
  | p :: r, x => .c (.ty (!p.1) p.2 x.1) :: argsD r x.2

def resL : (outs : List Ty) → Res outs → List C
  | [], _ => []
  | [τ], x => [.ty false τ x]
  | τ :: σ :: r, x => .ty false τ x.1 :: resL (σ :: r) x.2
def resDD : (outs : List Ty) → Res outs → D
  | [], _ => .tup []
  | [τ], x => .c (.ty false τ x)
  | τ :: σ :: r, x => .tup (resL (τ :: σ :: r) x)

/-- What is told of a value, where it holds no pointers, is free. -/
def D.outp (m : Mem) (σ : Ty) (d : D) : Option (Bool × σ.T) := match d.out m σ with
  | some (t, x) => some (t && σ.hasP, x)
  | none => none

def outsL (m : Mem) : (outs : List Ty) → List C → Option (Bool × Res outs)
  | [], [] => some (false, ())
  | [τ], [x] => (D.c x).outp m τ
  | τ :: σ :: r, x :: l => match (D.c x).outp m τ, outsL m (σ :: r) l with
    | some (t, y), some (u, ys) => some (t || u, (y, ys))
    | _, _ => none
  | _, _ => none
def outsD (m : Mem) : (outs : List Ty) → D → Option (Bool × Res outs)
  | [], .tup [] => some (false, ())
  | [τ], d => d.outp m τ
  | τ :: σ :: r, .tup l => outsL m (τ :: σ :: r) l
  | _, _ => none

theorem outp_ok {m : Mem} (hm : MRel g m w μ I) {J : Bool → Nat → Prop} (hIJ : ∀ t b, I t b → J t b) (hJ : ∀ b, J false b → J true b) (hL : ∀ t b, Live m μ b → J t b) {σ : Ty} {d : D} {t : Bool} {x : σ.T} (h : d.outp m σ = some (t, x)) {v : Value} (hd : RD μ I w (shp m) d v) : VK (J t) w σ x v := by
  unfold D.outp at h
  split at h
  · rename_i t' x' h1
    obtain ⟨rfl, rfl⟩ := Prod.mk.inj (Option.some.inj h)
    have := out_ok hm hIJ hJ hL h1 hd
    cases hp : σ.hasP with
    | true => rw [Bool.and_true]; exact this
    | false => exact this.noP hp
  · cases h

theorem outsL_ok {m : Mem} (hm : MRel g m w μ I) {J : Bool → Nat → Prop} (hIJ : ∀ t b, I t b → J t b) (hJ : ∀ b, J false b → J true b) (hL : ∀ t b, Live m μ b → J t b) : ∀ {outs : List Ty} {l : List C} {x : Res outs}, outsL m outs l = some (false, x) → ∀ {vs : List Value}, RL μ I w (shp m) l vs → ResL (J false) w outs x vs
  | [], [], _, h, vs, hl => by
    have := hl.1
    exact List.length_eq_zero_iff.1 this.symm
  | [τ], [y], x, h, vs, hl => by
    obtain ⟨v, r, rfl, h1, h2⟩ := hl.cons
    have hr : r = [] := List.length_eq_zero_iff.1 h2.1.symm
    subst hr
    exact ⟨v, rfl, outp_ok hm hIJ hJ hL (d := .c y) h h1⟩
  | τ :: σ :: r, y :: l, x, h, vs, hl => by
    simp only [outsL] at h
    split at h
    · rename_i t y' u ys h1 h2
      obtain ⟨e, rfl⟩ := Prod.mk.inj (Option.some.inj h)
      simp only [Bool.or_eq_false_iff] at e
      obtain ⟨rfl, rfl⟩ := e
      obtain ⟨v, r', rfl, h3, h4⟩ := hl.cons
      exact ⟨v, r', rfl, outp_ok hm hIJ hJ hL (d := .c y) h1 h3, outsL_ok hm hIJ hJ hL h2 h4⟩
    · cases h
  | [], _ :: _, _, h, _, _ => by simp [outsL] at h
  | [_], [], _, h, _, _ => by simp [outsL] at h
  | [_], _ :: _ :: _, _, h, _, _ => by simp [outsL] at h
  | _ :: _ :: _, [], _, h, _, _ => by simp [outsL] at h

theorem outsD_ok {m : Mem} (hm : MRel g m w μ I) {J : Bool → Nat → Prop} (hIJ : ∀ t b, I t b → J t b) (hJ : ∀ b, J false b → J true b) (hL : ∀ t b, Live m μ b → J t b) {outs : List Ty} {d : D} {x : Res outs} (h : outsD m outs d = some (false, x)) {v : Value} (hd : RD μ I w (shp m) d v) : ResK (J false) w outs x v := by
  unfold outsD at h
  split at h
  · obtain ⟨vs, rfl, h1⟩ := hd
    have : vs = [] := List.length_eq_zero_iff.1 h1.1.symm
    rw [this]
    rfl
  · exact outp_ok hm hIJ hJ hL h hd
  · obtain ⟨vs, rfl, h1⟩ := hd
    exact ⟨vs, rfl, outsL_ok hm hIJ hJ hL h h1⟩
  · cases h

/-- What a function comes to, by typed data. -/
structure TSpec (P : Program) (f : Nat) (ins : List (Bool × Ty)) (outs : List Ty) (pre : Args ins → Bool) (F : Args ins → Res outs) : Prop where
  fn : ∃ fn, P.funcs[f]? = some fn ∧ (fn.name == "runtime.NumGoroutine") = false ∧ fn.body.isNone = false
  ok : ∀ (w : World) (J : Bool → Nat → Prop), (∀ b, J false b → J true b) → (∀ b, J true b → b < w.heap.size) → ∀ (xs : Args ins) (vs : List Value), ArgsK J w ins xs vs → pre xs = true →
    Calls P f vs.toArray w fun e w' => ∃ v, e = .returned v ∧ ResK (fun b => J false b ∨ (w.heap.size ≤ b ∧ b < w'.heap.size)) w' outs (F xs) v ∧
      w'.os = w.os ∧ w'.tape = w.tape ∧ w'.output = w.output ∧ w.heap.size ≤ w'.heap.size ∧ ∀ b, b < w.heap.size → w'.heap[b]? = w.heap[b]?

theorem argsD_ok {μ : Nm} {J : Bool → Nat → Prop} {sh : Sh} : ∀ {ins : List (Bool × Ty)} {xs : Args ins} {vs : List Value}, ArgsK J w ins xs vs → (argsD ins xs).length = vs.length ∧ ∀ (j : Nat) (d : D) (v : Value), (argsD ins xs)[j]? = some d → vs[j]? = some v → RD μ J w sh d v
  | [], _, vs, h => by
    rw [show vs = [] from h]
    exact ⟨rfl, fun j d v hd => by simp [argsD] at hd⟩
  | p :: r, x, vs, ⟨v, l, e, h1, h2⟩ => by
    subst e
    obtain ⟨h3, h4⟩ := argsD_ok (μ := μ) (sh := sh) h2
    refine ⟨by simp [argsD, h3], fun j d u hd hu => ?_⟩
    cases j with
    | zero =>
      simp only [argsD, List.getElem?_cons_zero, Option.some.injEq] at hd hu
      subst hd hu
      exact h1
    | succ j =>
      simp only [argsD, List.getElem?_cons_succ] at hd hu
      exact h4 j d u hd hu

theorem TSpec.of_run (he : EnvFull P c) {f : Nat} {fn : Func} {code : Code} (hf : P.funcs[f]? = some fn) (hn : (fn.name == "runtime.NumGoroutine") = false) (hb : fn.body = some code)
    {ins : List (Bool × Ty)} {outs : List Ty} {pre : Args ins → Bool} {F : Args ins → Res outs}
    (h : ∀ xs, pre xs = true → ∃ p d m ks, (∀ g, g.m0 = [] → LoOk P g p code) ∧ (inl c p fn code 0 (argsD ins xs) []).run = some (d, m, ks) ∧ outsD m outs d = some (false, F xs)) : TSpec P f ins outs pre F := by
  refine ⟨⟨fn, hf, hn, by rw [hb]; rfl⟩, fun w J hJ hlt xs vs hx hp => ?_⟩
  obtain ⟨p, d, m, ks, hlo, hr, ho⟩ := h xs hp
  let μ : Nm := fun _ => none
  have hm : MRel (cfgOf w J [] μ) [] w μ J := { mem := fun n mb h => by simp [look] at h, inj := fun n n' b q q' h => (by cases h), sep := fun n b q h => absurd rfl h, isub := hJ, ilt := hlt, i0 := fun t b h => h, inew := fun t b h => .inl h, live := fun n b q h => absurd rfl h, os := rfl, tape := rfl, output := rfl, size := Nat.le_refl _, keep := fun _ _ _ => rfl }
  refine (inl_calls he hf hb hm (args := argsD ins xs) (vs := vs) (argsD_ok hx) (hlo _ rfl) hr).mono ?_
  rintro e w' ⟨v, μ', I', rfl, h1, h2, h3, h4⟩
  refine ⟨v, rfl, ?_, h1.os, h1.tape, h1.output, h1.size, fun b hb => h1.keep b hb (fun ⟨n, q, hn, _⟩ => hn rfl)⟩
  have hnew : ∀ b, (I' false b ∨ Live m μ' b) → J false b ∨ (w.heap.size ≤ b ∧ b < w'.heap.size) := by
    rintro b (hb | ⟨n, q, hn, hμ⟩)
    · rcases h1.inew false b hb with k | ⟨n, q, hn, _⟩ | k
      · exact .inl k
      · exact absurd rfl hn
      · exact .inr ⟨k, h1.ilt b (h1.isub b hb)⟩
    · rcases h1.live n b q hn hμ with ⟨n', q', hn', _⟩ | k
      · exact absurd rfl hn'
      · exact .inr ⟨k, h1.live_lt hn hμ⟩
  have := outsD_ok h1 (J := fun t b => I' t b ∨ Live m μ' b) (fun _ _ k => .inl k) (fun b k => k.imp (h1.isub b) id) (fun _ _ k => .inr k) ho h4
  have up : ∀ {J1 J2 : Nat → Prop} (hJ : ∀ b, J1 b → J2 b) {outs : List Ty} {x : Res outs} {vs : List Value}, ResL J1 w' outs x vs → ResL J2 w' outs x vs := by
    intro J1 J2 hJ outs
    induction outs with
    | nil => intro x vs h; exact h
    | cons τ r ih =>
      intro x vs h
      cases r with
      | nil => obtain ⟨v, h1, h2⟩ := h; exact ⟨v, h1, h2.mono hJ (stays_refl _ _)⟩
      | cons σ r => obtain ⟨v, l, h1, h2, h3⟩ := h; exact ⟨v, l, h1, h2.mono hJ (stays_refl _ _), ih h3⟩
  have upK : ∀ {J1 J2 : Nat → Prop} (hJ : ∀ b, J1 b → J2 b) {outs : List Ty} {x : Res outs} {v : Value}, ResK J1 w' outs x v → ResK J2 w' outs x v := by
    intro J1 J2 hJ outs x v h
    cases outs with
    | nil => exact h
    | cons τ r =>
      cases r with
      | nil => exact VK.mono hJ (stays_refl _ _) h
      | cons σ r => obtain ⟨vs, h1, h2⟩ := h; exact ⟨vs, h1, up hJ h2⟩
  exact upK hnew this

end Go.PI

namespace Go.PI
open Go.RowKit

variable {P : Program} {c : Ctx} {g : Cfg} {s st : St} {a : Act} {w : World} {μ : Nm} {I : Bool → Nat → Prop}

def namesKept : List (Bool × Ty) → List D → List Nat
  | (true, _) :: r, d :: l => d.names ++ namesKept r l
  | (false, _) :: r, _ :: l => namesKept r l
  | _, _ => []

def lend (m : Mem) : (ins : List (Bool × Ty)) → List D → Option (Args ins)
  | [], [] => some ()
  | p :: r, d :: l => match (bif p.1 then (match d.asTy p.2 with
      | some (t, x) => bif t && p.2.hasP then none else some x
      | none => none) else (d.outp m p.2).map (·.2)), lend m r l with
    | some x, some xs => some (x, xs)
    | _, _ => none
  | _, _ => none

/-- What is said of a function by typed data, for its callers. -/
def typedOrc (ins : List (Bool × Ty)) (outs : List Ty) (pre : Args ins → Bool) (F : Args ins → Res outs) : Orc := fun _ args m =>
  let s := (freezeAll (namesKept ins args) (⟨args, m, []⟩, .c .bad)).1
  match lend s.m ins s.t with
  | some xs => .cond (pre xs) (.ret (resDD outs (F xs), s.m, s.k)) .no
  | none => .no

theorem MRel.after {m m' : Mem} {I' : Bool → Nat → Prop} {w' : World} (h : MRel (cfgOf w I m μ) m' w μ I') (hos : w'.os = w.os) (htape : w'.tape = w.tape) (hout : w'.output = w.output) (hsz : w.heap.size ≤ w'.heap.size) (hold : ∀ b, b < w.heap.size → w'.heap[b]? = w.heap[b]?) :
    MRel (cfgOf w I m μ) m' w' μ (fun t b => I' t b ∨ (w.heap.size ≤ b ∧ b < w'.heap.size)) := by
  have hst : ∀ t, Stays (I' t) w w' := fun t b hb => hold b (by cases t; exact h.ilt b (h.isub b hb); exact h.ilt b hb)
  refine { mem := ?_, inj := h.inj, sep := ?_, isub := fun b hb => hb.imp (h.isub b) id, ilt := ?_, i0 := fun t b hb => .inl (h.i0 t b hb), inew := ?_, live := h.live, os := hos.trans h.os, tape := htape.trans h.tape, output := hout.trans h.output, size := hsz, keep := ?_ }
  · intro n mb hn
    rcases h.mem n mb hn with ⟨b, q, e, hb⟩ | r
    · refine .inl ⟨b, q, e, ?_⟩
      have := hb.map (φ := id) (μ' := μ) (I' := fun t b => I' t b ∨ (w.heap.size ≤ b ∧ b < w'.heap.size)) (w' := w') (sh' := shp m') (fun x v hx => hx.same (fun _ _ k => .inl k) hst (fun k _ => ⟨rfl, rfl⟩)) (fun _ _ k => .inl k) hst (hold b hb.lt)
      have eid : mb.mapC id = mb := by cases mb <;> simp [MB.mapC]
      rwa [eid] at this
    · exact .inr r
  · rintro n b q hn hμ (hi | ⟨hi, _⟩)
    · exact h.sep n b q hn hμ hi
    · have := h.live_lt hn hμ
      omega
  · rintro b (hb | ⟨_, hb⟩)
    · have := h.ilt b hb
      omega
    · exact hb
  · rintro t b (hb | ⟨hb, _⟩)
    · exact h.inew t b hb
    · exact .inr (.inr hb)
  · intro b hb hL
    rw [hold b hb]
    exact h.keep b hb hL

theorem lend_ok {m : Mem} (hm : MRel g m w μ I) : ∀ {ins : List (Bool × Ty)} {l : List D} {xs : Args ins}, lend m ins l = some xs → ∀ {vs : List Value}, RDs μ I w (shp m) l vs → ArgsK (fun t b => I t b ∨ (t = true ∧ Live m μ b)) w ins xs vs
  | [], [], _, _, vs, hl => List.length_eq_zero_iff.1 hl.1.symm
  | p :: r, d :: l, xs, h, vs, hl => by
    simp only [lend] at h
    split at h
    · rename_i x ys h1 h2
      obtain rfl := Option.some.inj h
      cases vs with
      | nil => have := hl.1; simp at this
      | cons v vs =>
        refine ⟨v, vs, rfl, ?_, lend_ok hm h2 ⟨by have := hl.1; simpa using this, fun j d' v' hd hv => hl.2 (j + 1) d' v' (by simpa using hd) (by simpa using hv)⟩⟩
        have hd := hl.2 0 d v rfl rfl
        cases hp : p.1 with
        | true =>
          rw [hp] at h1
          simp only [cond_true] at h1
          split at h1
          · rename_i t y hy
            cases ht : t && p.2.hasP with
            | true => rw [ht] at h1; cases h1
            | false =>
              rw [ht] at h1
              obtain rfl := Option.some.inj h1
              have k := asTy_ok hm.isub hy hd
              cases hq : p.2.hasP with
              | false => exact k.noP hq
              | true =>
                rw [hq, Bool.and_true] at ht
                subst ht
                exact k.mono (fun b hb => .inl hb) (stays_refl _ _)
          · cases h1
        | false =>
          rw [hp] at h1
          simp only [cond_false] at h1
          obtain ⟨⟨t, y⟩, hy, rfl⟩ := Option.map_eq_some_iff.1 h1
          have k := outp_ok hm (J := fun t b => I t b ∨ Live m μ b) (fun _ _ k => .inl k) (fun b k => k.imp (hm.isub b) id) (fun _ _ k => .inr k) hy hd
          refine k.mono (fun b hb => ?_) (stays_refl _ _)
          rcases hb with hb | hb
          · cases t with
            | true => exact .inl hb
            | false => exact .inl (hm.isub b hb)
          · exact .inr ⟨rfl, hb⟩
    · cases h
  | [], _ :: _, _, h, _, _ => by simp [lend] at h
  | _ :: _, [], _, h, _, _ => by simp [lend] at h

theorem resL_ok {J : Bool → Nat → Prop} {sh : Sh} : ∀ {outs : List Ty} {x : Res outs} {vs : List Value}, ResL (J false) w outs x vs → RL μ J w sh (resL outs x) vs
  | [], _, vs, h => by rw [show vs = [] from h]; exact RL.nil
  | [τ], x, vs, ⟨v, e, h⟩ => by subst e; exact RL.mk_cons h RL.nil
  | τ :: σ :: r, x, vs, ⟨v, l, e, h1, h2⟩ => by subst e; exact RL.mk_cons h1 (resL_ok h2)

theorem resDD_ok {J : Bool → Nat → Prop} {sh : Sh} {outs : List Ty} {x : Res outs} {v : Value} (h : ResK (J false) w outs x v) : RD μ J w sh (resDD outs x) v := by
  cases outs with
  | nil => exact ⟨[], h, RL.nil⟩
  | cons τ r =>
    cases r with
    | nil => exact h
    | cons σ r => obtain ⟨vs, h1, h2⟩ := h; exact ⟨vs, h1, resL_ok h2⟩

theorem ResL.up {J1 J2 : Nat → Prop} (hJ : ∀ b, J1 b → J2 b) : ∀ {outs : List Ty} {x : Res outs} {vs : List Value}, ResL J1 w outs x vs → ResL J2 w outs x vs
  | [], _, _, h => h
  | [_], _, _, ⟨v, h1, h2⟩ => ⟨v, h1, h2.mono hJ (stays_refl _ _)⟩
  | _ :: _ :: _, _, _, ⟨v, l, h1, h2, h3⟩ => ⟨v, l, h1, h2.mono hJ (stays_refl _ _), ResL.up hJ h3⟩
theorem ResK.up {J1 J2 : Nat → Prop} (hJ : ∀ b, J1 b → J2 b) {outs : List Ty} {x : Res outs} {v : Value} (h : ResK J1 w outs x v) : ResK J2 w outs x v := by
  cases outs with
  | nil => exact h
  | cons τ r =>
    cases r with
    | nil => exact VK.mono hJ (stays_refl _ _) h
    | cons σ r => obtain ⟨vs, h1, h2⟩ := h; exact ⟨vs, h1, h2.up hJ⟩

theorem TSpec.callOk {f : Nat} {ins : List (Bool × Ty)} {outs : List Ty} {pre : Args ins → Bool} {F : Args ins → Res outs} (h : TSpec P f ins outs pre F) : CallOk P f (typedOrc ins outs pre F) := by
  refine ⟨h.fn, fun w μ I m nm args vs d m' ks hm ha hr => ?_⟩
  have h0 : Rel (cfgOf w I m μ) ⟨args, m, []⟩ { tmps := vs.toArray, defers := [] } w μ I := by
    have := entry_rel hm ha 0
    simpa using this
  obtain ⟨I1, h1, _⟩ := freezeAll_ok (namesKept ins args) h0 (d := .c .bad) (v := undef) trivial
  unfold typedOrc at hr
  simp only at hr
  generalize (freezeAll (namesKept ins args) (⟨args, m, []⟩, .c .bad)).1 = s at hr h1
  split at hr
  · rename_i xs hxs
    rw [Br.run_cond] at hr
    split at hr
    · rename_i hpre
      obtain ⟨rfl, e⟩ := Prod.mk.inj (Option.some.inj hr)
      obtain ⟨rfl, rfl⟩ := Prod.mk.inj e
      have hM := h1.toMRel
      have hlen : s.t.length = vs.length := by have := h1.len; simpa using this
      have hargs : RDs μ I1 w (shp s.m) s.t vs := by
        refine ⟨hlen, fun j d v hd hv => ?_⟩
        have hj := h1.tm j
        have e1 : s.t.getD j (.c .bad) = d := by simp [List.getD, hd]
        have e2 : (vs.toArray).getD j undef = v := by simp [Array.getD_eq_getD_getElem?, hv]
        rw [e1] at hj
        have hj : RD μ I1 w (shp s.m) d ((vs.toArray).getD j undef) := hj
        rw [e2] at hj
        exact hj
      have hK := lend_ok hM hxs hargs
      have hJ1 : ∀ b, (I1 false b ∨ (false = true ∧ Live s.m μ b)) → (I1 true b ∨ (true = true ∧ Live s.m μ b)) := by
        rintro b (hb | ⟨e, _⟩)
        · exact .inl (h1.isub b hb)
        · cases e
      have hJ2 : ∀ b, (I1 true b ∨ (true = true ∧ Live s.m μ b)) → b < w.heap.size := by
        rintro b (hb | ⟨_, n, q, hn, hμ⟩)
        · exact hM.ilt b hb
        · exact hM.live_lt hn hμ
      refine (h.ok w _ hJ1 hJ2 xs vs hK hpre).mono ?_
      rintro e w' ⟨v, rfl, r1, r2, r3, r4, r5, r6⟩
      refine ⟨v, μ, _, rfl, hM.after r2 r3 r4 r5 r6, ?_, fun n a1 a2 => h1.kept n a1 a2, resDD_ok (r1.up ?_)⟩
      · exact fun t b hb => .inl (h1.i0 t b hb)
      · rintro b ((hb | ⟨e, _⟩) | hb)
        · exact .inl hb
        · cases e
        · exact .inr hb
    · cases hr
  · cases hr

end Go.PI

namespace Go.PI
open Go.RowKit

/-- Two zero cells are one. -/
def zeroB : Value → Value → Bool
  | .bool a, .bool b => a == b
  | .int k n, .int k' n' => decide (k = k') && decide (n = n')
  | .string s, .string s' => Nat.beq s.size 0 && Nat.beq s'.size 0
  | .slice none 0 0, .slice none 0 0 => true
  | .pointer none, .pointer none => true
  | _, _ => false

theorem zeroB_ok {u v : Value} (h : zeroB u v = true) : u = v := by
  unfold zeroB at h
  split at h
  · simp at h; rw [h]
  · simp only [Bool.and_eq_true, decide_eq_true_eq] at h; rw [h.1, h.2]
  · simp only [Bool.and_eq_true] at h
    have e : ∀ x : ByteArray, Nat.beq x.size 0 = true → x = ByteArray.empty := fun x hx => by
      have hx := Nat.eq_of_beq_eq_true hx
      cases x with
      | mk a =>
        have : a.size = 0 := hx
        rw [Array.size_eq_zero_iff.1 this]
        rfl
    rw [e _ h.1, e _ h.2]
  · rfl
  · rfl
  · cases h

def zerosB : List Value → List Value → Bool
  | [], [] => true
  | u :: l, v :: r => zeroB u v && zerosB l r
  | _, _ => false
theorem zerosB_ok : ∀ {l r : List Value}, zerosB l r = true → l = r
  | [], [], _ => rfl
  | u :: l, v :: r, h => by
    simp only [zerosB, Bool.and_eq_true] at h
    rw [zeroB_ok h.1, zerosB_ok h.2]
  | [], _ :: _, h => by cases h
  | _ :: _, [], h => by cases h

def zvB (τ : Ty) (v : Value) : Bool :=
  bif τ.isAgg then (match v with
    | .agg a => zerosB a.toList (zeroV τ)
    | _ => false) else (match zeroV τ with
    | [u] => zeroB v u
    | _ => false)
theorem zvB_ok {τ : Ty} {v : Value} (h : zvB τ v = true) : v = valOf τ (zeroV τ) := by
  unfold zvB at h
  unfold valOf
  cases e : τ.isAgg with
  | true =>
    rw [e] at h
    simp only [cond_true] at h ⊢
    split at h
    · rename_i a
      rw [← zerosB_ok h]
    · cases h
  | false =>
    rw [e] at h
    simp only [cond_false] at h ⊢
    split at h
    · rename_i u hu
      rw [hu]
      exact zeroB_ok h
    · cases h

def fieldsB (P : Program) : List Field → List (Nat × Nat) → Bool
  | [], [] => true
  | f :: r, (o, t) :: l => Nat.beq f.offset o && Nat.beq f.type t && (P.info? f.type).isSome && fieldsB P r l
  | _, _ => false
theorem fieldsB_ok {P : Program} : ∀ {fs : List Field} {l : List (Nat × Nat)}, fieldsB P fs l = true → fs.map (fun f => (f.offset, f.type)) = l ∧ (fs.mapM (fun f => (P.info? f.type).map fun i => (f.offset, i.size))).isSome = true
  | [], [], _ => ⟨rfl, rfl⟩
  | f :: r, (o, t) :: l, h => by
    simp only [fieldsB, Bool.and_eq_true] at h
    obtain ⟨⟨⟨h1, h2⟩, h3⟩, h4⟩ := h
    obtain ⟨k1, k2⟩ := fieldsB_ok h4
    obtain ⟨i, hi⟩ := Option.isSome_iff_exists.1 h3
    obtain ⟨ys, hys⟩ := Option.isSome_iff_exists.1 k2
    refine ⟨by simp [k1, Nat.eq_of_beq_eq_true h1, Nat.eq_of_beq_eq_true h2], ?_⟩
    simp [List.mapM_cons, hi, hys]
  | [], _ :: _, h => by cases h
  | _ :: _, [], h => by cases h

def tdB (P : Program) : TD → TypeDesc → Bool
  | .sl e, .slice e' => Nat.beq e' e
  | .st l, .struct fs => fieldsB P fs.toList l
  | .ar n e, .array n' e' => Nat.beq n' n && Nat.beq e' e
  | .pt e, .pointer e' => Nat.beq e' e
  | .oth, _ => true
  | _, _ => false
def tyB : Ty → TypeDesc → Bool
  | .bool, .bool => true
  | .int k, .int k' => decide (k' = k)
  | .str, .string => true
  | .bool, _ => false
  | .int _, _ => false
  | .str, _ => false
  | _, _ => true

def tokB (P : Program) (t : Nat) (ti : TI) : Bool := match P.info? t, P.underlying t with
  | some info, some d => Nat.beq info.size ti.ty.sz && Nat.beq info.bytes ti.bytes && (match info.zero with
      | some v => zvB ti.ty v
      | none => false) && (aggD d == ti.ty.isAgg) && tyB ti.ty d && tdB P ti.d d
  | _, _ => false

theorem tokB_ok {P : Program} {t : Nat} {ti : TI} (h : tokB P t ti = true) : TOk P t ti := by
  unfold tokB at h
  split at h
  · rename_i info d hi hd
    simp only [Bool.and_eq_true] at h
    obtain ⟨⟨⟨⟨⟨h1, h2⟩, h3⟩, h4⟩, h5⟩, h6⟩ := h
    refine ⟨info, d, hi, hd, Nat.eq_of_beq_eq_true h1, Nat.eq_of_beq_eq_true h2, ?_, by simpa using h4, ?_, ?_⟩
    · split at h3
      · rename_i v hv; rw [hv, zvB_ok h3]
      · cases h3
    · cases e : ti.ty <;> rw [e] at h5 <;> simp only <;> cases d <;> simp_all [tyB]
    · cases e : ti.d with
      | sl el => rw [e] at h6; cases d <;> simp_all [tdB] <;> exact Nat.eq_of_beq_eq_true h6
      | st l =>
        rw [e] at h6
        cases d with
        | struct fs => exact ⟨fs, rfl, fieldsB_ok h6⟩
        | _ => cases h6
      | ar n el =>
        rw [e] at h6
        cases d with
        | array n' el' =>
          simp only [tdB, Bool.and_eq_true] at h6
          simp only [Nat.eq_of_beq_eq_true h6.1, Nat.eq_of_beq_eq_true h6.2]
        | _ => cases h6
      | pt el => rw [e] at h6; cases d <;> simp_all [tdB] <;> exact Nat.eq_of_beq_eq_true h6
      | oth => trivial
  · cases h

def lookT (n : Nat) : List (Nat × TI) → Option TI
  | [] => none
  | (k, b) :: r => bif Nat.beq k n then some b else lookT n r
def tblB (P : Program) : List (Nat × TI) → Bool
  | [] => true
  | (k, b) :: r => tokB P k b && tblB P r
theorem tblB_ok {P : Program} : ∀ {l : List (Nat × TI)}, tblB P l = true → TbOk P (fun n => lookT n l)
  | [], _, t, ti, h => by cases h
  | (k, b) :: r, hb, t, ti, h => by
    simp only [tblB, Bool.and_eq_true] at hb
    simp only [lookT] at h
    cases e : Nat.beq k t with
    | true =>
      rw [e] at h
      obtain rfl := Option.some.inj h
      rw [← Nat.eq_of_beq_eq_true e]
      exact tokB_ok hb.1
    | false => rw [e] at h; exact tblB_ok hb.2 t ti h

/-- A function that is gone through in place is there. -/
def fnB (P : Program) (f : Nat) (name : String) : Bool := match P.funcs[f]? with
  | some fn => (fn.name == name) && fn.body.isSome
  | none => false

end Go.PI
namespace Go.PI

def lookO (n : Nat) : List (Nat × Orc) → Option Orc
  | [] => none
  | (k, b) :: r => bif Nat.beq k n then some b else lookO n r

/-- Types, callees, struct types that may be compared. -/
def mkC (tb : Nat → Option TI) (l : List (Nat × Orc)) : Ctx := ⟨tb, fun n => lookO n l, fun _ => false, 0⟩

theorem env_nil {P : Program} {tb : Nat → Option TI} (hm : P.follows .mixedOrders = true) (h : TbOk P tb) : EnvFull P (mkC tb []) :=
  { tb := h, mixed := hm, eqs := fun _ _ e => (by cases e), orc := fun _ _ e => (by cases e) }

theorem env_cons {P : Program} {tb : Nat → Option TI} {l : List (Nat × Orc)} {f : Nat} {o : Orc} (h : EnvFull P (mkC tb l)) (ho : CallOk P f o) : EnvFull P (mkC tb ((f, o) :: l)) :=
  { tb := h.tb, mixed := h.mixed, eqs := fun _ _ e => (by cases e), orc := fun k o' e => by
      have e : lookO k ((f, o) :: l) = some o' := e
      simp only [lookO] at e
      cases hk : Nat.beq f k with
      | true =>
        rw [hk] at e
        obtain rfl := Option.some.inj e
        rw [← Nat.eq_of_beq_eq_true hk]
        exact ho
      | false => rw [hk] at e; exact h.orc k o' e }

/-- A function's code. -/
def bodyOf (f : Func) : Code := f.body.getD .skip
theorem bodyOf_ok {f : Func} (h : f.body.isSome = true) : f.body = some (bodyOf f) := by
  unfold bodyOf
  cases e : f.body with
  | none => rw [e] at h; cases h
  | some c => rfl

theorem CallOk.inl' {P : Program} {c : Ctx} (he : EnvFull P c) (p : Par) (hl : ∀ i, p.lo i = none) {f : Nat} {fn : Func} (hf : P.funcs[f]? = some fn) (h : (!(fn.name == "runtime.NumGoroutine") && fn.body.isSome) = true) : CallOk P f (Go.PI.inl c p fn (bodyOf fn)) := by
  simp only [Bool.and_eq_true, Bool.not_eq_true'] at h
  exact CallOk.inl he p hl hf h.1 (bodyOf_ok h.2)

/-- A truth that is told, in every branch. -/
noncomputable def yes : Br (D × Mem × List Nat) → Bool
  | .ret (d, m, _) => match outsD m [.bool] d with
    | some (false, b) => b
    | _ => false
  | .cond b x y => bif b then yes x else yes y
  | .no => false
  | .opt o k => match o with
    | some b => yes (k b)
    | none => false
  | .sum z k l => match z with
    | .inl b => yes (k b)
    | .inr b => yes (l b)
theorem yes_ok : ∀ {t : Br (D × Mem × List Nat)}, yes t = true → ∃ d m ks, t.run = some (d, m, ks) ∧ outsD m [.bool] d = some (false, true)
  | .ret (d, m, ks), h => by
    simp only [yes] at h
    split at h
    · rename_i b hb
      subst h
      exact ⟨d, m, ks, rfl, hb⟩
    · cases h
  | .cond b x y, h => by
    cases b with
    | true => exact yes_ok (t := x) h
    | false => exact yes_ok (t := y) h
  | .no, h => by cases h
  | .opt o k, h => by
    cases o with
    | some b => exact yes_ok (t := k b) h
    | none => cases h
  | .sum z k l, h => by
    cases z with
    | inl b => exact yes_ok (t := k b) h
    | inr b => exact yes_ok (t := l b) h

theorem TSpec.of_yes {P : Program} {c : Ctx} (he : EnvFull P c) {f : Nat} {fn : Func} (hf : P.funcs[f]? = some fn) (h : (!(fn.name == "runtime.NumGoroutine") && fn.body.isSome) = true) {p : Par} (hlo : ∀ g, g.m0 = [] → LoOk P g p (bodyOf fn))
    {ins : List (Bool × Ty)} {pre : Args ins → Bool} (hy : ∀ xs, pre xs = true → yes (Go.PI.inl c p fn (bodyOf fn) 0 (argsD ins xs) []) = true) : TSpec P f ins [.bool] pre (fun _ => true) := by
  simp only [Bool.and_eq_true, Bool.not_eq_true'] at h
  refine TSpec.of_run he hf h.1 (bodyOf_ok h.2) fun xs hx => ?_
  obtain ⟨d, m, ks, h1, h2⟩ := yes_ok (hy xs hx)
  exact ⟨p, d, m, ks, hlo, h1, h2⟩

/-- A typed result that is told, in every branch. -/
theorem TSpec.of_outs {P : Program} {c : Ctx} (he : EnvFull P c) {f : Nat} {fn : Func} (hf : P.funcs[f]? = some fn) (h : (!(fn.name == "runtime.NumGoroutine") && fn.body.isSome) = true) {p : Par} (hlo : ∀ g, g.m0 = [] → LoOk P g p (bodyOf fn))
    {ins : List (Bool × Ty)} {outs : List Ty} {pre : Args ins → Bool} {F : Args ins → Res outs} (hy : ∀ xs, pre xs = true → ((Go.PI.inl c p fn (bodyOf fn) 0 (argsD ins xs) []).bind fun r => .ofOpt (outsD r.2.1 outs r.1)).run = some (false, F xs)) : TSpec P f ins outs pre F := by
  simp only [Bool.and_eq_true, Bool.not_eq_true'] at h
  refine TSpec.of_run he hf h.1 (bodyOf_ok h.2) fun xs hx => ?_
  obtain ⟨⟨d, m, ks⟩, h1, h2⟩ := Br.bind_some (hy xs hx)
  exact ⟨p, d, m, ks, hlo, h1, ofOpt_run h2⟩

end Go.PI
