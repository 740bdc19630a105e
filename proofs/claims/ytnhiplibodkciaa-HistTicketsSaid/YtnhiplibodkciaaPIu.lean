/- A function's contract out of what the interpreter says of its code: by its own memory, and by typed data. -/
import Derived.Test.YtnhiplibodkciaaPIt
import Derived.Laws.Sem
namespace Go.PI
open Go.RowKit

variable {P : Program} {c : Ctx} {g : Cfg} {s st : St} {a : Act} {w : World} {μ : Nm} {I : Bool → Nat → Prop}

/-- A result variable's value. -/
def readVar (tmps : Array Value) : ResultVar → Sem Value
  | .tmp t => pure (tmps.getD t undef)
  | .cell a t => do loadVar t (← asAddr (tmps.getD a undef))

theorem resD_ok (he : EnvOk P c) (h : Rel g s a w μ I) {x : ResultVar} {d : D} (hd : resD c s x = some d) : ∃ v, (readVar a.tmps x).run P w = .ok v w ∧ RD μ I w (shp s.m) d v := by
  cases x with
  | tmp t =>
    obtain rfl := Option.some.inj hd
    exact ⟨_, rfl, h.tm t⟩
  | cell t ty =>
    simp only [resD] at hd
    split at hd
    · rename_i ti p ht hp
      have hv := h.tm t
      rw [hp] at hv
      obtain ⟨v', h1, h2⟩ := load_ok h.toMRel (he.tb _ _ ht) hv hd
      refine ⟨v', ?_, h2⟩
      show (do loadVar ty (← asAddr (a.tmps.getD t undef)) : Sem Value).run P w = .ok v' w
      generalize a.tmps.getD t undef = u at h1
      unfold Instr.loadAt at h1
      cases u with
      | pointer o =>
        cases o with
        | some ad => simpa [Instr.sureAddr, asAddr, Sem.run_bind, Sem.run_pure] using h1
        | none => simp [Instr.sureAddr, Sem.run_bind, stuck] at h1
      | _ => simp [Instr.sureAddr, Sem.run_bind, stuck] at h1
    · cases hd

theorem resC_ok (he : EnvOk P c) (h : Rel g s a w μ I) : ∀ {l : List ResultVar} {r : List C}, resC c s l = some r → ∃ vs, (l.mapM (readVar a.tmps)).run P w = .ok vs w ∧ RL μ I w (shp s.m) r vs
  | [], r, hr => by
    obtain rfl := Option.some.inj hr
    exact ⟨[], rfl, RL.nil⟩
  | x :: l, r, hr => by
    simp only [resC] at hr
    split at hr
    · rename_i y r' hx hl
      obtain rfl := Option.some.inj hr
      obtain ⟨v, h1, h2⟩ := resD_ok he h hx
      obtain ⟨vs, h3, h4⟩ := resC_ok he h hl
      refine ⟨v :: vs, ?_, RL.mk_cons h2 h4⟩
      simp only [List.mapM_cons, Sem.run_bind, h1, Result.andThen_ok, h3, Sem.run_pure]
    · cases hr

theorem results_eq (fn : Func) (tmps : Array Value) : results fn tmps = (do let vs ← fn.results.toList.mapM (readVar tmps); pure (if h : vs.length = 1 then vs[0] else .tuple vs.toArray)) := by
  unfold results
  have : (fun x : ResultVar => match x with
    | .tmp t => (pure (tmps.getD t undef) : Sem Value)
    | .cell a t => do loadVar t (← asAddr (tmps.getD a undef))) = readVar tmps := by
    funext x; cases x <;> rfl
  rw [Array.mapM_eq_mapM_toList]
  simp only [map_eq_pure_bind, bind_assoc, pure_bind]
  congr 1

theorem resultsD_ok (he : EnvOk P c) (h : Rel g s a w μ I) {fn : Func} {d : D} (hd : resultsD c s fn.results.toList = some d) : ∃ v, (results fn a.tmps).run P w = .ok v w ∧ RD μ I w (shp s.m) d v := by
  rw [results_eq]
  unfold resultsD at hd
  split at hd
  · rename_i x hx
    obtain ⟨v, h1, h2⟩ := resD_ok he h hd
    refine ⟨v, ?_, h2⟩
    rw [hx]
    simp [Sem.run_bind, h1]
  · rename_i l hl
    obtain ⟨r, hr, rfl⟩ := Option.map_eq_some_iff.1 hd
    obtain ⟨vs, h1, h2⟩ := resC_ok he h hr
    have hne : vs.length ≠ 1 := by
      intro e
      have hlen : ∀ {l : List ResultVar} {r : List C}, resC c s l = some r → r.length = l.length := by
        intro l
        induction l with
        | nil => intro r hr; obtain rfl := Option.some.inj hr; rfl
        | cons x l ih =>
          intro r hr
          simp only [resC] at hr
          split at hr
          · rename_i y r' _ hl'
            obtain rfl := Option.some.inj hr
            simp [ih hl']
          · cases hr
      have := hlen hr
      have h3 := h2.1
      rw [e] at h3
      rw [h3] at this
      obtain ⟨x, hx⟩ := List.length_eq_one_iff.1 this.symm
      exact hl x hx
    refine ⟨.tuple vs.toArray, ?_, vs, rfl, h2⟩
    simp only [Sem.run_bind, h1, Result.andThen_ok, dif_neg hne, Sem.run_pure]

/-- A callee's first state. -/
theorem entry_rel {m : Mem} (h : MRel (cfgOf w I m μ) m w μ I) {args : List D} {vs : List Value} (ha : RDs μ I w (shp m) args vs) (k : Nat) : Rel (cfgOf w I m μ) ⟨args ++ List.replicate (k - args.length) (.c .bad), m, []⟩ { tmps := vs.toArray ++ Array.replicate (k - vs.toArray.size) undef, defers := [] } w μ I := by
  refine { toMRel := h, tm := ?_, len := by simp [ha.1], dfr := rfl, kept := fun n _ _ => ⟨rfl, rfl⟩ }
  intro i
  by_cases hi : i < args.length
  · have hi' : i < vs.length := ha.1 ▸ hi
    have := ha.2 i _ _ (List.getElem?_eq_getElem hi) (List.getElem?_eq_getElem hi')
    simpa [List.getD, List.getElem?_append_left hi, List.getElem?_eq_getElem hi, Array.getD_eq_getD_getElem?, Array.getElem?_append, hi'] using this
  · have : (args ++ List.replicate (k - args.length) (D.c .bad)).getD i (.c .bad) = .c .bad := by
      simp only [List.getD, List.getElem?_append_right (Nat.not_lt.1 hi), List.getElem?_replicate]
      split <;> rfl
    simp only [this]
    exact trivial

/-- A function does what the interpreter says of its code. -/
theorem inl_calls (he : EnvFull P c) {f : Nat} {fn : Func} {code : Code} (hf : P.funcs[f]? = some fn) (hb : fn.body = some code) {m : Mem} (hm : MRel (cfgOf w I m μ) m w μ I) {args : List D} {vs : List Value} (ha : RDs μ I w (shp m) args vs)
    {p : Par} (hlo : LoOk P (cfgOf w I m μ) p code) {nm : Nat} {d : D} {m' : Mem} {ks : List Nat} (hr : (inl c p fn code nm args m).run = some (d, m', ks)) :
    Calls P f vs.toArray w fun e w' => ∃ v μ' I', e = .returned v ∧ MRel (cfgOf w I m μ) m' w' μ' I' ∧ (∀ t b, I t b → I' t b) ∧ (∀ n, look n m ≠ none → n ∉ ks → μ' n = μ n ∧ shp m' n = shp m n) ∧ RD μ' I' w' (shp m') d v := by
  let c' : Ctx := { c with base := (nm + 1) * 1024 }
  have he' : EnvFull P c' := { tb := he.tb, eqs := he.eqs, orc := he.orc, mixed := he.mixed }
  unfold inl at hr
  obtain ⟨⟨y, st⟩, h1, h2⟩ := Br.bind_some hr
  have hcode := Tri.ev_ok (g := cfgOf w I m μ) he' p code hlo h1 _ w ⟨μ, I, entry_rel hm ha fn.ntmps⟩
  refine calls_of_wp hf hb (wp_mono hcode ?_)
  rintro e a' w' ⟨s', ⟨rfl, rfl⟩, μ', I', h⟩
  have key : ((resultsD c s' fn.results.toList).map fun d => (d, s'.m, s'.k)) = some (d, m', ks) → a'.defers = [] ∧ ∃ v, (results fn a'.tmps).run P w' = .ok v w' ∧ ∃ v_1 μ' I', Ending.returned v = .returned v_1 ∧ MRel (cfgOf w I m μ) m' w' μ' I' ∧ (∀ t b, I t b → I' t b) ∧ (∀ n, look n m ≠ none → n ∉ ks → μ' n = μ n ∧ shp m' n = shp m n) ∧ RD μ' I' w' (shp m') d v_1 := by
    intro h3
    obtain ⟨d1, hd, e1⟩ := Option.map_eq_some_iff.1 h3
    obtain ⟨rfl, e2⟩ := Prod.mk.inj e1
    obtain ⟨rfl, rfl⟩ := Prod.mk.inj e2
    obtain ⟨v, hv, hrd⟩ := resultsD_ok he.toEnvOk h hd
    exact ⟨h.dfr, v, hv, v, μ', I', rfl, h.toMRel, h.i0, fun n h1 h2 => h.kept n h1 h2, hrd⟩
  cases e with
  | normal => exact key (ofOpt_run h2)
  | ret => exact key (ofOpt_run h2)
  | _ => cases h2

theorem CallOk.of_run (he : EnvFull P c) {f : Nat} {fn : Func} {code : Code} {o : Orc} (hf : P.funcs[f]? = some fn) (hn : (fn.name == "runtime.NumGoroutine") = false) (hb : fn.body = some code)
    (h : ∀ nm args m r, (o nm args m).run = some r → ∃ p, (∀ i, p.lo i = none) ∧ (inl c p fn code nm args m).run = some r) : CallOk P f o := by
  refine ⟨⟨fn, hf, hn, by rw [hb]; rfl⟩, fun w μ I m nm args vs d m' ks hm ha hr => ?_⟩
  obtain ⟨p, hl, hp⟩ := h _ _ _ _ hr
  exact inl_calls he hf hb hm ha (LoOk.none hl) hp

/-- A callee that is gone through in place. -/
theorem CallOk.inl (he : EnvFull P c) (p : Par) (hl : ∀ i, p.lo i = none) {f : Nat} {fn : Func} {code : Code} (hf : P.funcs[f]? = some fn) (hn : (fn.name == "runtime.NumGoroutine") = false) (hb : fn.body = some code) : CallOk P f (inl c p fn code) :=
  .of_run he hf hn hb fun _ _ _ _ hr => ⟨p, hl, hr⟩

/-! ### typed data in, typed data out -/

@[reducible] def Args : List (Bool × Ty) → Type
  | [] => Unit
  | p :: r => p.2.T × Args r

@[reducible] def Res : List Ty → Type
  | [] => Unit
  | [τ] => τ.T
  | τ :: σ :: r => τ.T × Res (σ :: r)

/-- Arguments: what is kept, and what is only lent. -/
def ArgsK (J : Bool → Nat → Prop) (w : World) : (ins : List (Bool × Ty)) → Args ins → List Value → Prop
  | [], _, vs => vs = []
  | p :: r, x, vs => ∃ v l, vs = v :: l ∧ VK (J !p.1) w p.2 x.1 v ∧ ArgsK J w r x.2 l

def ResL (J : Nat → Prop) (w : World) : (outs : List Ty) → Res outs → List Value → Prop
  | [], _, vs => vs = []
  | [τ], x, vs => ∃ v, vs = [v] ∧ VK J w τ x v
  | τ :: σ :: r, x, vs => ∃ v l, vs = v :: l ∧ VK J w τ x.1 v ∧ ResL J w (σ :: r) x.2 l

def ResK (J : Nat → Prop) (w : World) : (outs : List Ty) → Res outs → Value → Prop
  | [], _, v => v = .tuple #[]
  | [τ], x, v => VK J w τ x v
  | τ :: σ :: r, x, v => ∃ vs : List Value, v = .tuple vs.toArray ∧ ResL J w (τ :: σ :: r) x vs

def argsD : (ins : List (Bool × Ty)) → Args ins → List D
  | [], _ => []
  | p :: r, x => .c (.ty (!p.1) p.2 x.1) :: argsD r x.2

def resL : (outs : List Ty) → Res outs → List C
  | [], _ => []
  | [τ], x => [.ty false τ x]
  | τ :: σ :: r, x => .ty false τ x.1 :: resL (σ :: r) x.2
def resDD : (outs : List Ty) → Res outs → D
  | [], _ => .tup []
  | [τ], x => .c (.ty false τ x)
  | τ :: σ :: r, x => .tup (resL (τ :: σ :: r) x)

/-- What is told of a value, where it holds no pointers, is free. -/
def D.outp (m : Mem) (σ : Ty) (d : D) : Option (Bool × σ.T) := match d.out m σ with
  | some (t, x) => some (t && σ.hasP, x)
  | none => none

def outsL (m : Mem) : (outs : List Ty) → List C → Option (Bool × Res outs)
  | [], [] => some (false, ())
  | [τ], [x] => (D.c x).outp m τ
  | τ :: σ :: r, x :: l => match (D.c x).outp m τ, outsL m (σ :: r) l with
    | some (t, y), some (u, ys) => some (t || u, (y, ys))
    | _, _ => none
  | _, _ => none
def outsD (m : Mem) : (outs : List Ty) → D → Option (Bool × Res outs)
  | [], .tup [] => some (false, ())
  | [τ], d => d.outp m τ
  | τ :: σ :: r, .tup l => outsL m (τ :: σ :: r) l
  | _, _ => none

theorem outp_ok {m : Mem} (hm : MRel g m w μ I) {J : Bool → Nat → Prop} (hIJ : ∀ t b, I t b → J t b) (hJ : ∀ b, J false b → J true b) (hL : ∀ t b, Live m μ b → J t b) {σ : Ty} {d : D} {t : Bool} {x : σ.T} (h : d.outp m σ = some (t, x)) {v : Value} (hd : RD μ I w (shp m) d v) : VK (J t) w σ x v := by
  unfold D.outp at h
  split at h
  · rename_i t' x' h1
    obtain ⟨rfl, rfl⟩ := Prod.mk.inj (Option.some.inj h)
    have := out_ok hm hIJ hJ hL h1 hd
    cases hp : σ.hasP with
    | true => rw [Bool.and_true]; exact this
    | false => exact this.noP hp
  · cases h

theorem outsL_ok {m : Mem} (hm : MRel g m w μ I) {J : Bool → Nat → Prop} (hIJ : ∀ t b, I t b → J t b) (hJ : ∀ b, J false b → J true b) (hL : ∀ t b, Live m μ b → J t b) : ∀ {outs : List Ty} {l : List C} {x : Res outs}, outsL m outs l = some (false, x) → ∀ {vs : List Value}, RL μ I w (shp m) l vs → ResL (J false) w outs x vs
  | [], [], _, h, vs, hl => by
    have := hl.1
    exact List.length_eq_zero_iff.1 this.symm
  | [τ], [y], x, h, vs, hl => by
    obtain ⟨v, r, rfl, h1, h2⟩ := hl.cons
    have hr : r = [] := List.length_eq_zero_iff.1 h2.1.symm
    subst hr
    exact ⟨v, rfl, outp_ok hm hIJ hJ hL (d := .c y) h h1⟩
  | τ :: σ :: r, y :: l, x, h, vs, hl => by
    simp only [outsL] at h
    split at h
    · rename_i t y' u ys h1 h2
      obtain ⟨e, rfl⟩ := Prod.mk.inj (Option.some.inj h)
      simp only [Bool.or_eq_false_iff] at e
      obtain ⟨rfl, rfl⟩ := e
      obtain ⟨v, r', rfl, h3, h4⟩ := hl.cons
      exact ⟨v, r', rfl, outp_ok hm hIJ hJ hL (d := .c y) h1 h3, outsL_ok hm hIJ hJ hL h2 h4⟩
    · cases h
  | [], _ :: _, _, h, _, _ => by simp [outsL] at h
  | [_], [], _, h, _, _ => by simp [outsL] at h
  | [_], _ :: _ :: _, _, h, _, _ => by simp [outsL] at h
  | _ :: _ :: _, [], _, h, _, _ => by simp [outsL] at h

theorem outsD_ok {m : Mem} (hm : MRel g m w μ I) {J : Bool → Nat → Prop} (hIJ : ∀ t b, I t b → J t b) (hJ : ∀ b, J false b → J true b) (hL : ∀ t b, Live m μ b → J t b) {outs : List Ty} {d : D} {x : Res outs} (h : outsD m outs d = some (false, x)) {v : Value} (hd : RD μ I w (shp m) d v) : ResK (J false) w outs x v := by
  unfold outsD at h
  split at h
  · obtain ⟨vs, rfl, h1⟩ := hd
    have : vs = [] := List.length_eq_zero_iff.1 h1.1.symm
    rw [this]
    rfl
  · exact outp_ok hm hIJ hJ hL h hd
  · obtain ⟨vs, rfl, h1⟩ := hd
    exact ⟨vs, rfl, outsL_ok hm hIJ hJ hL h h1⟩
  · cases h

/-- What a function comes to, by typed data. -/
structure TSpec (P : Program) (f : Nat) (ins : List (Bool × Ty)) (outs : List Ty) (pre : Args ins → Bool) (F : Args ins → Res outs) : Prop where
  fn : ∃ fn, P.funcs[f]? = some fn ∧ (fn.name == "runtime.NumGoroutine") = false ∧ fn.body.isNone = false
  ok : ∀ (w : World) (J : Bool → Nat → Prop), (∀ b, J false b → J true b) → (∀ b, J true b → b < w.heap.size) → ∀ (xs : Args ins) (vs : List Value), ArgsK J w ins xs vs → pre xs = true →
    Calls P f vs.toArray w fun e w' => ∃ v, e = .returned v ∧ ResK (fun b => J false b ∨ (w.heap.size ≤ b ∧ b < w'.heap.size)) w' outs (F xs) v ∧
      w'.os = w.os ∧ w'.tape = w.tape ∧ w'.output = w.output ∧ w.heap.size ≤ w'.heap.size ∧ ∀ b, b < w.heap.size → w'.heap[b]? = w.heap[b]?

theorem argsD_ok {μ : Nm} {J : Bool → Nat → Prop} {sh : Sh} : ∀ {ins : List (Bool × Ty)} {xs : Args ins} {vs : List Value}, ArgsK J w ins xs vs → (argsD ins xs).length = vs.length ∧ ∀ (j : Nat) (d : D) (v : Value), (argsD ins xs)[j]? = some d → vs[j]? = some v → RD μ J w sh d v
  | [], _, vs, h => by
    rw [show vs = [] from h]
    exact ⟨rfl, fun j d v hd => by simp [argsD] at hd⟩
  | p :: r, x, vs, ⟨v, l, e, h1, h2⟩ => by
    subst e
    obtain ⟨h3, h4⟩ := argsD_ok (μ := μ) (sh := sh) h2
    refine ⟨by simp [argsD, h3], fun j d u hd hu => ?_⟩
    cases j with
    | zero =>
      simp only [argsD, List.getElem?_cons_zero, Option.some.injEq] at hd hu
      subst hd hu
      exact h1
    | succ j =>
      simp only [argsD, List.getElem?_cons_succ] at hd hu
      exact h4 j d u hd hu

theorem TSpec.of_run (he : EnvFull P c) {f : Nat} {fn : Func} {code : Code} (hf : P.funcs[f]? = some fn) (hn : (fn.name == "runtime.NumGoroutine") = false) (hb : fn.body = some code)
    {ins : List (Bool × Ty)} {outs : List Ty} {pre : Args ins → Bool} {F : Args ins → Res outs}
    (h : ∀ xs, pre xs = true → ∃ p d m ks, (∀ g, g.m0 = [] → LoOk P g p code) ∧ (inl c p fn code 0 (argsD ins xs) []).run = some (d, m, ks) ∧ outsD m outs d = some (false, F xs)) : TSpec P f ins outs pre F := by
  refine ⟨⟨fn, hf, hn, by rw [hb]; rfl⟩, fun w J hJ hlt xs vs hx hp => ?_⟩
  obtain ⟨p, d, m, ks, hlo, hr, ho⟩ := h xs hp
  let μ : Nm := fun _ => none
  have hm : MRel (cfgOf w J [] μ) [] w μ J := { mem := fun n mb h => by simp [look] at h, inj := fun n n' b q q' h => (by cases h), sep := fun n b q h => absurd rfl h, isub := hJ, ilt := hlt, i0 := fun t b h => h, inew := fun t b h => .inl h, live := fun n b q h => absurd rfl h, os := rfl, tape := rfl, output := rfl, size := Nat.le_refl _, keep := fun _ _ _ => rfl }
  refine (inl_calls he hf hb hm (args := argsD ins xs) (vs := vs) (argsD_ok hx) (hlo _ rfl) hr).mono ?_
  rintro e w' ⟨v, μ', I', rfl, h1, h2, h3, h4⟩
  refine ⟨v, rfl, ?_, h1.os, h1.tape, h1.output, h1.size, fun b hb => h1.keep b hb (fun ⟨n, q, hn, _⟩ => hn rfl)⟩
  have hnew : ∀ b, (I' false b ∨ Live m μ' b) → J false b ∨ (w.heap.size ≤ b ∧ b < w'.heap.size) := by
    rintro b (hb | ⟨n, q, hn, hμ⟩)
    · rcases h1.inew false b hb with k | ⟨n, q, hn, _⟩ | k
      · exact .inl k
      · exact absurd rfl hn
      · exact .inr ⟨k, h1.ilt b (h1.isub b hb)⟩
    · rcases h1.live n b q hn hμ with ⟨n', q', hn', _⟩ | k
      · exact absurd rfl hn'
      · exact .inr ⟨k, h1.live_lt hn hμ⟩
  have := outsD_ok h1 (J := fun t b => I' t b ∨ Live m μ' b) (fun _ _ k => .inl k) (fun b k => k.imp (h1.isub b) id) (fun _ _ k => .inr k) ho h4
  have up : ∀ {J1 J2 : Nat → Prop} (hJ : ∀ b, J1 b → J2 b) {outs : List Ty} {x : Res outs} {vs : List Value}, ResL J1 w' outs x vs → ResL J2 w' outs x vs := by
    intro J1 J2 hJ outs
    induction outs with
    | nil => intro x vs h; exact h
    | cons τ r ih =>
      intro x vs h
      cases r with
      | nil => obtain ⟨v, h1, h2⟩ := h; exact ⟨v, h1, h2.mono hJ (stays_refl _ _)⟩
      | cons σ r => obtain ⟨v, l, h1, h2, h3⟩ := h; exact ⟨v, l, h1, h2.mono hJ (stays_refl _ _), ih h3⟩
  have upK : ∀ {J1 J2 : Nat → Prop} (hJ : ∀ b, J1 b → J2 b) {outs : List Ty} {x : Res outs} {v : Value}, ResK J1 w' outs x v → ResK J2 w' outs x v := by
    intro J1 J2 hJ outs x v h
    cases outs with
    | nil => exact h
    | cons τ r =>
      cases r with
      | nil => exact VK.mono hJ (stays_refl _ _) h
      | cons σ r => obtain ⟨vs, h1, h2⟩ := h; exact ⟨vs, h1, up hJ h2⟩
  exact upK hnew this

end Go.PI
