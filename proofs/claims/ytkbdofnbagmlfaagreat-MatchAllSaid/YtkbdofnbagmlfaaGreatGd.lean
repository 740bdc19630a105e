/- Regions and code; the rules by which pieces of code are put together; a callee gone through in place. What a call is told and tells, as typed data. A function's contract out of what the interpreter says of its code: by its own memory, and by typed data. A contract by typed data serves callers. A table of types, looked at by one reckoning; a struct type that may be compared likewise. Loops by what a round comes to: what is said of a loop, so that code around it can be gone through at once. From typed contracts to rows: a statement that comes to true, and leaves all as it was. Slices of numbers that are handed in, as typed data. Structs that may be compared: '==' of the model is '==' of the data. Small helps for loops. Loops of callees that are called from a place that is known; loops whose outcome is only known to be there. Whatever is handed in, as typed data: numbers, texts, truths, structs, arrays, slices, to any depth. All functions of a list gone through in place, to a depth. Contracts out of triples with more ends than one; copies of lists, where whether one is nil isn't known. -/
import Derived.Test.YtkbdofnbagmlfaaGreatGc
import Derived.Laws.Sem
import Derived.ProofKit
import Derived.DeepKeys
import Derived.OpenShut
namespace Go.PI
open Go.RowKit
variable {P : Program} {c : Ctx} {g : Cfg} {s st : St} {a : Act} {w : World} {μ : Nm} {I : Bool -> Nat -> Prop}
theorem ZgM [DR] (he : EnvFull P c) (ops : Array Oper) : ∀ (l : List Nat) {s st : St} {a : Act} {w : World}, Ok g s a w -> (ZbT c ops l s).run = some st -> wpOps P ops (fun y a' w' => y = .normal /\ Ok g st a' w') l a w
 | [], s, st, a, w, h, hr => by
  obtain rfl := Option.some.inj hr
  exact ⟨rfl, h⟩
 | i :: r, s, st, a, w, h, hr => by
  simp only [wpOps]
  simp only [ZbT] at hr
  cases ho : ops[i]? with
  | none =>
   simp only [ho] at hr
   exact ZgM he ops r h hr
  | some o =>
   simp only [ho] at hr
   have runs : ∀ {s : St}, Ok g s a w -> Region.wanted o (yielded ops a.tmps) = true -> ((Zam c s o).bind (ZbT c ops r)).run = some st ->
     (if Region.wanted o (yielded ops a.tmps) = true then o.wp P a w (wpOps P ops (fun y a' w' => y = .normal /\ Ok g st a' w') r) (fun y a' w' => y = .normal /\ Ok g st a' w') \/ (o.asks P a w /\ LetsOut fun y a' w' => y = .normal /\ Ok g st a' w') else wpOps P ops (fun y a' w' => y = .normal /\ Ok g st a' w') r (a.put o.dst undef) w) := by
    intro s h hw hr
    rw [if_pos hw]
    obtain ⟨s1, h1, h2⟩ := Br.bind_some hr
    exact .inl (Zc0 he o g s s1 a w _ _ h h1 fun a' w' h' => ZgM he ops r h' h2)
   have passes : ∀ {s : St}, Ok g s a w -> Region.wanted o (yielded ops a.tmps) = false -> (ZbT c ops r (s.putd o.dst (.tup []))).run = some st ->
     (if Region.wanted o (yielded ops a.tmps) = true then o.wp P a w (wpOps P ops (fun y a' w' => y = .normal /\ Ok g st a' w') r) (fun y a' w' => y = .normal /\ Ok g st a' w') \/ (o.asks P a w /\ LetsOut fun y a' w' => y = .normal /\ Ok g st a' w') else wpOps P ops (fun y a' w' => y = .normal /\ Ok g st a' w') r (a.put o.dst undef) w) := by
    intro s h hw hr
    rw [if_neg (by rw [hw]; simp)]
    obtain ⟨μ, I, h⟩ := h
    exact ZgM he ops r ⟨μ, I, h.putd (d := .tup []) (v := undef) undefD⟩ hr
   cases hg : o.guard with
   | none =>
    simp only [hg] at hr
    exact runs h (by simp [Region.wanted, hg]) hr
   | some jw =>
    obtain ⟨j, want⟩ := jw
    simp only [hg] at hr
    split at hr
    ·rename_i k hk
     obtain ⟨μ, I, h⟩ := h
     have htm := h.tm k
     split at hr
     ·rename_i hd
      rw [hd] at htm
      have hy := Zfe (a := a) hk (b := true) htm
      cases want with
      | true => exact runs ⟨μ, I, h⟩ (by simp [Region.wanted, hg, hy]) (by simpa using hr)
      | false => exact passes ⟨μ, I, h⟩ (by simp [Region.wanted, hg, hy]) (by simpa using hr)
     ·rename_i hd
      rw [hd] at htm
      have hy := Zfe (a := a) hk (b := false) htm
      cases want with
      | true => exact passes ⟨μ, I, h⟩ (by simp [Region.wanted, hg, hy]) (by simpa using hr)
      | false => exact runs ⟨μ, I, h⟩ (by simp [Region.wanted, hg, hy]) (by simpa using hr)
     ·rename_i hd
      rw [hd] at htm
      obtain ⟨vs, hv, hl⟩ := htm
      have hvs : vs = [] := List.length_eq_zero_iff.1 hl.1.symm
      subst hvs
      have hy := ZiE (a := a) hk hv
      exact passes ⟨μ, I, h⟩ (by simp [Region.wanted, hg, hy]) hr
     ·rename_i t b hd
      rw [hd] at htm
      have hb := RD.bool htm
      have hy := Zfe (a := a) hk hb
      have hT : b = true -> Ok g ⟨s.t.set k (.c .tt), s.m, s.k⟩ a w := fun e => ⟨μ, I, h.retell (d := .c .tt) (by rw [hb, e]; exact rfl)⟩
      have hF : b = false -> Ok g ⟨s.t.set k (.c .ff), s.m, s.k⟩ a w := fun e => ⟨μ, I, h.retell (d := .c .ff) (by rw [hb, e]; exact rfl)⟩
      cases b with
      | true =>
       simp only [Br.run, cond_true] at hr
       cases want with
       | true => exact runs (hT rfl) (by simp [Region.wanted, hg, hy]) (by simpa using hr)
       | false => exact passes (hT rfl) (by simp [Region.wanted, hg, hy]) (by simpa using hr)
      | false =>
       simp only [Br.run, cond_false] at hr
       cases want with
       | true => exact passes (hF rfl) (by simp [Region.wanted, hg, hy]) (by simpa using hr)
       | false => exact runs (hF rfl) (by simp [Region.wanted, hg, hy]) (by simpa using hr)
     ·cases hr
    ·cases hr
def Tri [DR] (P : Program) (g : Cfg) (code : Code) (s : St) (Q : Exit -> St -> Prop) : Prop := ∀ a w, Ok g s a w -> code.wp P (fun y a' w' => ∃ st, Q y st /\ Ok g st a' w') a w
theorem ZnR {b : Code} {Q : Exit -> Act -> World -> Prop} (Inv : Nat -> Act -> World -> Prop) {n : Nat} (h0 : Inv n a w)
  (round : ∀ n a w, Inv n a w -> b.wp P (Exit.then (fun a' w' => ∃ m, m < n /\ Inv m a' w') Q) a w) : (Code.loop b).wp P Q a w := by
 intro bf k cs
 have key : ∀ n a w, Inv n a w -> ∃ e a' w', Q e a' w' /\ Arrives P (lone (bf.at a (.code b :: .inLoop b :: k)) cs w) bf k cs e a' w' := by
  intro n
  induction n using Nat.strongRecOn with
  | _ n ih =>
   intro a w hI
   obtain ⟨e, a₁, w₁, hq, harr⟩ := round n a w hI bf (.inLoop b :: k) cs
   cases e with
   | normal =>
    obtain ⟨m, hlt, hI₁⟩ := hq
    obtain ⟨e₂, a₂, w₂, hq₂, harr₂⟩ := ih m hlt a₁ w₁ hI₁
    exact ⟨e₂, a₂, w₂, hq₂, .of_steps (Steps.trans harr (.one step_inLoop)) harr₂⟩
   | exit id => exact ⟨_, a₁, w₁, hq, .pass (x := .inLoop b) rfl (fun _ _ => .inl (by simp)) harr⟩
   | goto l => exact ⟨_, a₁, w₁, hq, .pass (x := .inLoop b) rfl (fun _ _ => .inl (by simp)) harr⟩
   | ret => exact ⟨_, a₁, w₁, hq, .pass (x := .inLoop b) rfl (fun _ _ => .inl (by simp)) harr⟩
   | panic ch => exact ⟨_, a₁, w₁, hq, .pass (x := .inLoop b) rfl (fun _ _ => .inl (by simp)) harr⟩
   | outgrown => exact ⟨_, a₁, w₁, hq, .pass (x := .inLoop b) rfl (fun _ _ => .inl (by simp)) harr⟩
 obtain ⟨e, a', w', hq, harr⟩ := key n a w h0
 exact ⟨e, a', w', hq, .of_steps (.one step_loop) harr⟩
def ZaL [DR] (P : Program) (g : Cfg) (o : St -> Br (Exit × St)) (a : Code) : Prop := ∀ s y st, (o s).run = some (y, st) -> Tri P g (.loop a) s fun e s' => e = y /\ s' = st
def Zbm : Code -> List Code
 | .seq a b => Zbm a ++ Zbm b
 | .cond _ a b => Zbm a ++ Zbm b
 | .block _ a => Zbm a
 | .loop a => a :: Zbm a
 | _ => []
def ZaB [DR] (P : Program) (g : Cfg) (p : Par) (code : Code) : Prop := ∀ a ∈ Zbm code, ∀ o, ZdP p a = some o -> ZaL P g o a
theorem ZaB.left [DR] {p : Par} {a b : Code} (h : ZaB P g p (.seq a b)) : ZaB P g p a := fun x hx => h x (List.mem_append.2 (.inl hx))
theorem ZaB.right [DR] {p : Par} {a b : Code} (h : ZaB P g p (.seq a b)) : ZaB P g p b := fun x hx => h x (List.mem_append.2 (.inr hx))
theorem ZaB.tail [DR] {p : Par} {a : Code} (h : ZaB P g p (.loop a)) : ZaB P g p a := fun x hx => h x (List.mem_cons_of_mem _ hx)
theorem ZaB.none [DR] {p : Par} {a : Code} (h : ∀ i, p.lo i = none) : ZaB P g p a := fun x _ o hl => by
 unfold ZdP at hl
 split at hl
 ·rw [h] at hl; cases hl
 ·cases hl
namespace Tri
variable {Q Q' : Exit -> St -> Prop}
theorem mono [DR] {code : Code} (h : Tri P g code s Q) (hq : ∀ y st, Q y st -> Q' y st) : Tri P g code s Q' :=
 fun a w hok => wp_mono (h a w hok) fun _ _ _ ⟨st, h1, h2⟩ => ⟨st, hq _ _ h1, h2⟩
theorem skip [DR] (h : Q .normal s) : Tri P g .skip s Q := fun _ _ hok => wp_skip ⟨s, h, hok⟩
theorem ret [DR] (h : Q .ret s) : Tri P g .ret s Q := fun _ _ hok => wp_ret ⟨s, h, hok⟩
theorem exit [DR] {j : Nat} (h : Q (.exit j) s) : Tri P g (.exit j) s Q := fun _ _ hok => wp_exit ⟨s, h, hok⟩
theorem seq [DR] {x y : Code} {M : St -> Prop} (hx : Tri P g x s fun e st => match e with | .normal => M st | e => Q e st) (hy : ∀ st, M st -> Tri P g y st Q) : Tri P g (.seq x y) s Q := by
 intro a w hok
 refine wp_seq (wp_mono (hx a w hok) ?_)
 rintro e a' w' ⟨st, h1, h2⟩
 cases e with
 | normal => exact hy st h1 a' w' h2
 | exit j => exact ⟨st, h1, h2⟩
 | goto l => exact ⟨st, h1, h2⟩
 | ret => exact ⟨st, h1, h2⟩
 | panic ch => exact ⟨st, h1, h2⟩
 | outgrown => exact ⟨st, h1, h2⟩
theorem block [DR] {id : Nat} {x : Code} (hx : Tri P g x s fun e st => match e with | .exit j => if j = id then Q .normal st else Q (.exit j) st | e => Q e st) : Tri P g (.block id x) s Q := by
 intro a w hok
 refine wp_block (wp_mono (hx a w hok) ?_)
 rintro e a' w' ⟨st, h1, h2⟩
 cases e with
 | exit j =>
  simp only at h1
  unfold Exit.inBlock
  by_cases hj : j = id
  ·subst hj
   simp only [if_true] at h1
   simpa using ⟨st, h1, h2⟩
  ·rw [if_neg hj] at h1
   simpa [hj] using ⟨st, h1, h2⟩
 | normal => exact ⟨st, h1, h2⟩
 | goto l => exact ⟨st, h1, h2⟩
 | ret => exact ⟨st, h1, h2⟩
 | panic ch => exact ⟨st, h1, h2⟩
 | outgrown => exact ⟨st, h1, h2⟩
theorem loop [DR] {x : Code} (Inv : Nat -> St -> Prop) {n : Nat} (h0 : Inv n s) (round : ∀ n s, Inv n s -> Tri P g x s fun e st => match e with | .normal => ∃ m, m < n /\ Inv m st | e => Q e st) : Tri P g (.loop x) s Q := by
 intro a w hok
 refine ZnR (fun n a w => ∃ s, Inv n s /\ Ok g s a w) ⟨s, h0, hok⟩ ?_
 rintro n a w ⟨s, hi, hok⟩
 refine wp_mono (round n s hi a w hok) ?_
 rintro e a' w' ⟨st, h1, h2⟩
 cases e with
 | normal => obtain ⟨m, hm, hi'⟩ := h1; exact ⟨m, hm, st, hi', h2⟩
 | exit j => exact ⟨st, h1, h2⟩
 | goto l => exact ⟨st, h1, h2⟩
 | ret => exact ⟨st, h1, h2⟩
 | panic ch => exact ⟨st, h1, h2⟩
 | outgrown => exact ⟨st, h1, h2⟩
theorem onB [DR] {x : Operand} {p q : Code} {r : Exit × St} {u v : Br (Exit × St)} (hr : (Go.PI.onB (opd s x) u v).run = some r) (hp : u.run = some r -> Tri P g p s Q) (hq : v.run = some r -> Tri P g q s Q) : Tri P g (.cond x p q) s Q := by
 rintro a w ⟨μ, I, h⟩
 obtain ⟨b, hb, hr⟩ := Zse (Zae h x) hr
 refine wp_cond hb ?_
 cases b with
 | true => exact hp hr a w ⟨μ, I, h⟩
 | false => exact hq hr a w ⟨μ, I, h⟩
theorem cond [DR] {x : Operand} {p q : Code} (b : Bool) (hb : ∀ a w, Ok g s a w -> a.eval x = .bool b) (h : Tri P g (if b = true then p else q) s Q) : Tri P g (.cond x p q) s Q :=
 fun a w hok => wp_cond (hb a w hok) (h a w hok)
theorem weaken [DR] {code : Code} {s' : St} (h : ∀ a w, Ok g s a w -> Ok g s' a w) (ht : Tri P g code s' Q) : Tri P g code s Q := fun a w hok => ht a w (h a w hok)
theorem region [DR] {id : Nat} {ops : Array Oper} {draw : Bool} (he : EnvFull P c) (hr : (bif draw then Zlk c ops s else ZbT c ops (List.range ops.size) s).run = some st) : Tri P g (.region id ops draw) s fun y s' => y = .normal /\ s' = st := by
 intro a w hok
 cases draw with
 | false => exact wp_mono (wp_region (ZgM he ops _ hok hr)) fun y a' w' ⟨h1, h2⟩ => ⟨st, ⟨h1, rfl⟩, h2⟩
 | true => exact wp_mono (draw_ok he he.mixed hok hr) fun y a' w' ⟨h1, h2⟩ => ⟨st, ⟨h1, rfl⟩, h2⟩
theorem ev_ok [DR] (he : EnvFull P c) (p : Par) : ∀ (code : Code), ZaB P g p code -> ∀ {s st : St} {y : Exit}, (ev c p code s).run = some (y, st) -> Tri P g code s fun e s' => e = y /\ s' = st
 | .skip, _, s, st, y, h => by
  obtain ⟨rfl, rfl⟩ := Prod.mk.inj (Option.some.inj h)
  exact Tri.skip ⟨rfl, rfl⟩
 | .region id ops draw, _, s, st, y, h => by
  simp only [ev] at h
  obtain ⟨s1, h1, h2⟩ := Br.bind_some h
  obtain ⟨rfl, rfl⟩ := Prod.mk.inj (Option.some.inj h2)
  exact Tri.region he h1
 | .seq a b, hlo, s, st, y, h => by
  simp only [ev] at h
  obtain ⟨⟨e, s1⟩, h1, h2⟩ := Br.bind_some h
  have ih := ev_ok he p a hlo.left h1
  cases e with
  | normal => exact Tri.seq (M := fun st' => st' = s1) (ih.mono fun e' s' ⟨e1, e2⟩ => by subst e1 e2; rfl) fun s' hs => by subst hs; exact ev_ok he p b hlo.right h2
  | _ =>
   obtain ⟨rfl, rfl⟩ := Prod.mk.inj (Option.some.inj h2)
   exact Tri.seq (M := fun _ => False) (ih.mono fun e' s' ⟨e1, e2⟩ => by subst e1 e2; exact ⟨rfl, rfl⟩) fun s' hs => hs.elim
 | .cond x a b, hlo, s, st, y, h => by
  simp only [ev] at h
  exact Tri.onB h (fun h => ev_ok he p a (ZaB.left hlo) h) (fun h => ev_ok he p b (ZaB.right hlo) h)
 | .block id a, hlo, s, st, y, h => by
  simp only [ev] at h
  obtain ⟨⟨e, s1⟩, h1, h2⟩ := Br.bind_some h
  have ih := ev_ok he p a hlo h1
  cases e with
  | exit j =>
   obtain ⟨h3, rfl⟩ := Prod.mk.inj (Option.some.inj h2)
   refine Tri.block (ih.mono fun e' s' ⟨e1, e2⟩ => ?_)
   subst e1 e2
   simp only
   split at h3
   ·rename_i hj; rw [if_pos hj]; exact ⟨h3, trivial⟩
   ·rename_i hj; rw [if_neg hj]; exact ⟨h3, trivial⟩
  | _ =>
   obtain ⟨rfl, rfl⟩ := Prod.mk.inj (Option.some.inj h2)
   exact Tri.block (ih.mono fun e' s' ⟨e1, e2⟩ => by subst e1 e2; exact ⟨rfl, rfl⟩)
 | .loop a, hlo, s, st, y, h => by
  simp only [ev] at h
  cases hl : ZdP p a with
  | some o =>
   rw [hl] at h
   exact hlo a List.mem_cons_self o hl s y st h
  | none =>
  rw [hl] at h
  simp only at h
  refine Tri.loop (fun n s => (iter (fun s => ev c p a (Zik c.base p a s)) n s).run = some (y, st)) h ?_
  intro n s h
  cases n with
  | zero => cases h
  | succ n =>
   simp only [iter] at h
   obtain ⟨⟨e, s1⟩, h1, h2⟩ := Br.bind_some h
   refine Tri.weaken (fun a' w' hok => Ztv hok c.base p a) ?_
   have ih := ev_ok he p a hlo.tail h1
   cases e with
   | normal => exact ih.mono fun e' s' ⟨e1, e2⟩ => by subst e1 e2; exact ⟨n, by omega, h2⟩
   | _ =>
    obtain ⟨rfl, rfl⟩ := Prod.mk.inj (Option.some.inj h2)
    exact ih.mono fun e' s' ⟨e1, e2⟩ => by subst e1 e2; exact ⟨rfl, rfl⟩
 | .exit j, _, s, st, y, h => by
  obtain ⟨rfl, rfl⟩ := Prod.mk.inj (Option.some.inj h)
  exact Tri.exit ⟨rfl, rfl⟩
 | .ret, _, s, st, y, h => by
  obtain ⟨rfl, rfl⟩ := Prod.mk.inj (Option.some.inj h)
  exact Tri.ret ⟨rfl, rfl⟩
 | .rangeFunc .., _, s, st, y, h => by cases h
 | .scope _, _, s, st, y, h => by cases h
 | .label _, _, s, st, y, h => by cases h
 | .goto _, _, s, st, y, h => by cases h
 | .refuse _, _, s, st, y, h => by cases h
theorem run [DR] (he : EnvFull P c) (p : Par) {code : Code} (hlo : ZaB P g p code) {y : Exit} (h : (ev c p code s).run = some (y, st)) (hq : Q y st) : Tri P g code s Q :=
 (ev_ok he p code hlo h).mono fun _ _ ⟨e1, e2⟩ => by subst e1 e2; exact hq
end Tri
end Go.PI

namespace Go.PI
open Go.RowKit
def ZbC (m : Mem) : (σ : Ty) -> List C -> Option ((Bool × σ.T) × List C)
 | .unit, l => some ((false, ()), l)
 | .pair a b, l => match ZbC m a l with
  | some ((t, x), l) => match ZbC m b l with
   | some ((u, y), l) => some ((t || u, x, y), l)
   | none => none
  | none => none
 | .st a, l => ZbC m a l
 | .arr n a, l => ZdK (ZbC m a) n l
 | .sl a, c :: l => match c.asTy (.sl a) with
  | some q => some (q, l)
  | none => match c with
   | .mfull n => match look n m with
    | some (.ar t _ τ xs) => if h : τ = a then some ((t && τ.hasP, cast (congrArg (fun s => List (Ty.T s)) h) xs), l) else none
    | _ => none
   | .msl n s k _ => match look n m with
    | some (.ar t _ τ xs) => if h : τ = a then some ((t && τ.hasP, ((cast (congrArg (fun s => List (Ty.T s)) h) xs).drop s).take k), l) else none
    | _ => none
   | _ => none
 | .ptr a, c :: l => match c.asTy (.ptr a) with
  | some q => some (q, l)
  | none => match c with
   | .ref n 0 0 => match look n m with
    | some (.tv t τ x) => if h : τ = a then some ((t, some (cast (congrArg Ty.T h) x)), l) else none
    | some (.dv l') => match ZbC m a l' with
     | some ((t, x), []) => some ((t, some x), l)
     | _ => none
    | _ => none
   | .eref t τ (x :: _) 0 0 => if h : τ = a then some ((t, some (cast (congrArg Ty.T h) x)), l) else none
   | _ => none
 | σ, c :: l => match c.asTy σ with
  | some q => some (q, l)
  | none => none
 | _, [] => none
def D.out (m : Mem) (σ : Ty) : D -> Option (Bool × σ.T)
 | .c (.ty b τ x) => if h : τ = σ then some (b, cast (congrArg Ty.T h) x) else none
 | .c x => bif σ.isAgg then none else (match ZbC m σ [x] with
  | some (q, []) => some q
  | _ => none)
 | .agg l => bif σ.isAgg then (match ZbC m σ l with
  | some (q, []) => some q
  | _ => none) else none
 | _ => none
variable {P : Program} {c : Ctx} {g : Cfg} {s st : St} {a : Act} {w : World} {μ : Nm} {I : Bool -> Nat -> Prop}
theorem Zc1 [DR] {m : Mem} (hm : MRel g m w μ I) {J : Bool -> Nat -> Prop} (hIJ : ∀ t b, I t b -> J t b) (hJ : ∀ b, J false b -> J true b) (hL : ∀ t b, Zai m μ b -> J t b) :
  ∀ {σ : Ty} {l rest : List C} {t : Bool} {x : σ.T}, ZbC m σ l = some ((t, x), rest) -> ∀ {vs : List Value}, RL μ I w (shp m) l vs -> ∃ v1 v2, vs = v1 ++ v2 /\ K (J t) w σ x v1 /\ RL μ I w (shp m) rest v2
 | .unit, l, rest, b, x, h, vs, hl => by
  simp only [ZbC] at h
  obtain ⟨h1, rfl⟩ := Prod.mk.inj (Option.some.inj h)
  exact ⟨[], vs, rfl, rfl, hl⟩
 | .pair p q, l, rest, b, x, h, vs, hl => by
  simp only [ZbC] at h
  split at h
  ·rename_i t y l1 h1
   split at h
   ·rename_i u z l2 h2
    obtain ⟨h3, rfl⟩ := Prod.mk.inj (Option.some.inj h)
    obtain ⟨rfl, rfl⟩ := Prod.mk.inj h3
    obtain ⟨v1, v2, rfl, k1, r1⟩ := Zc1 hm hIJ hJ hL h1 hl
    obtain ⟨v3, v4, rfl, k2, r2⟩ := Zc1 hm hIJ hJ hL h2 r1
    exact ⟨v1 ++ v3, v4, by simp, ⟨v1, v3, rfl, k1.up (Zbe hJ t u).1, k2.up (Zbe hJ t u).2⟩, r2⟩
   ·cases h
  ·cases h
 | .st p, l, rest, b, x, h, vs, hl => Zc1 (σ := p) hm hIJ hJ hL h hl
 | .arr n p, l, rest, b, x, h, vs, hl => by
  simp only [ZbC] at h
  have main : ∀ (n : Nat) (l rest : List C) (b : Bool) (x : List p.T) (vs : List Value), ZdK (ZbC m p) n l = some ((b, x), rest) -> RL μ I w (shp m) l vs -> ∃ v1 v2, vs = v1 ++ v2 /\ (x.length = n /\ Row (K (J b) w p) p.sz x v1) /\ RL μ I w (shp m) rest v2 := by
   intro n
   induction n with
   | zero =>
    intro l rest b x vs h hl
    simp only [ZdK] at h
    obtain ⟨h3, rfl⟩ := Prod.mk.inj (Option.some.inj h)
    obtain ⟨rfl, rfl⟩ := Prod.mk.inj h3
    exact ⟨[], vs, rfl, ⟨rfl, Row.nil _ _⟩, hl⟩
   | succ n ih =>
    intro l rest b x vs h hl
    simp only [ZdK] at h
    split at h
    ·rename_i t y l1 h1
     split at h
     ·rename_i u z l2 h2
      obtain ⟨h3, rfl⟩ := Prod.mk.inj (Option.some.inj h)
      obtain ⟨rfl, rfl⟩ := Prod.mk.inj h3
      obtain ⟨v1, v2, rfl, k1, r1⟩ := Zc1 hm hIJ hJ hL h1 hl
      obtain ⟨v3, v4, rfl, ⟨k2, k3⟩, r2⟩ := ih _ _ _ _ _ h2 r1
      refine ⟨v1 ++ v3, v4, by simp, ⟨by simp [k2], Row.cons k1.length (k1.up (Zbe hJ t u).1) (k3.imp fun _ _ k => k.up (Zbe hJ t u).2)⟩, r2⟩
     ·cases h
    ·cases h
  exact main n l rest b x vs h hl
 | .sl p, c :: l, rest, b, x, h, vs, hl => by
  obtain ⟨v, r, rfl, hc, hr⟩ := hl.cons
  simp only [ZbC] at h
  split at h
  ·rename_i q hq
   obtain ⟨rfl, rfl⟩ := Prod.mk.inj (Option.some.inj h)
   exact ⟨[v], r, rfl, ((Zdi hc hq).2 rfl).mono (hIJ b) (Zaa _ _), hr⟩
  ·split at h
   ·rename_i n hno
    split at h
    ·rename_i t el τ xs hlk
     split at h
     ·rename_i hτ
      subst hτ
      obtain ⟨h3, rfl⟩ := Prod.mk.inj (Option.some.inj h)
      obtain ⟨rfl, hx⟩ := Prod.mk.inj h3
      have hx : xs = x := hx
      subst hx
      have hs : ZbX m τ (.c (.mfull n)) = some (t, xs) := by simp [ZbX, hlk]
      exact ⟨[v], r, rfl, own_K hm hIJ hL (y := .c (.mfull n)) hc hs (.inl ⟨n, rfl⟩), hr⟩
     ·cases h
    ·cases h
   ·rename_i n sx k cp hno
    split at h
    ·rename_i t el τ xs hlk
     split at h
     ·rename_i hτ
      subst hτ
      obtain ⟨h3, rfl⟩ := Prod.mk.inj (Option.some.inj h)
      obtain ⟨rfl, hx⟩ := Prod.mk.inj h3
      have hx : (xs.drop sx).take k = x := hx
      subst hx
      have hs : ZbX m τ (.c (.msl n sx k cp)) = some (t, (xs.drop sx).take k) := by simp [ZbX, hlk]
      exact ⟨[v], r, rfl, own_K hm hIJ hL (y := .c (.msl n sx k cp)) hc hs (.inr ⟨n, sx, k, cp, rfl⟩), hr⟩
     ·cases h
    ·cases h
   ·cases h
 | .ptr p, c :: l, rest, b, x, h, vs, hl => by
  obtain ⟨v, r, rfl, hc, hr⟩ := hl.cons
  simp only [ZbC] at h
  split at h
  ·rename_i q hq
   obtain ⟨rfl, rfl⟩ := Prod.mk.inj (Option.some.inj h)
   exact ⟨[v], r, rfl, ((Zdi hc hq).2 rfl).mono (hIJ b) (Zaa _ _), hr⟩
  ·split at h
   ·rename_i n hno
    obtain ⟨bb, qq, len, z, e1, e2, hi, rfl⟩ := hc
    split at h
    ·rename_i t τ y hlk
     split at h
     ·rename_i hτ
      subst hτ
      obtain ⟨h3, rfl⟩ := Prod.mk.inj (Option.some.inj h)
      obtain ⟨rfl, hx⟩ := Prod.mk.inj h3
      have hx : some y = x := hx
      subst hx
      rcases hm.mem n _ hlk with ⟨b', q', e3, cur, el, hh, hq, hk⟩ | ⟨_, _, _, _, e3⟩
      ·rw [e1] at e3
       obtain ⟨rfl, rfl⟩ := Prod.mk.inj (Option.some.inj e3)
       refine ⟨[_], r, rfl, ⟨⟨bb, 0, none⟩, cur.toList, by simp, hL _ _ ⟨n, _, by rw [hlk]; simp, e1⟩, ⟨rfl, fun j u hu => by rw [Nat.zero_add, Zcz hh]; exact hu⟩, hk.mono (hIJ t) (Zaa _ _)⟩, hr⟩
      ·cases e3
     ·cases h
    ·rename_i l' hlk
     split at h
     ·rename_i t y hy
      obtain ⟨h3, rfl⟩ := Prod.mk.inj (Option.some.inj h)
      obtain ⟨rfl, rfl⟩ := Prod.mk.inj h3
      rcases hm.mem n _ hlk with ⟨b', q', e3, cur, el, hh, hq, hk, _⟩ | ⟨_, _, _, _, e3⟩
      ·rw [e1] at e3
       obtain ⟨rfl, rfl⟩ := Prod.mk.inj (Option.some.inj e3)
       obtain ⟨v1, v2, ev, k1, r1⟩ := Zc1 hm hIJ hJ hL hy hk
       have hv2 : v2 = [] := by have := r1.1; simpa using this.symm
       rw [hv2, List.append_nil] at ev
       rw [<- ev] at k1
       refine ⟨[_], r, rfl, ⟨⟨bb, 0, none⟩, cur.toList, by simp, hL _ _ ⟨n, _, by rw [hlk]; simp, e1⟩, ⟨rfl, fun j u hu => by rw [Nat.zero_add, Zcz hh]; exact hu⟩, k1⟩, hr⟩
      ·cases e3
     ·cases h
    ·cases h
   ·rename_i t τ y ys hno
    split at h
    ·rename_i hτ
     subst hτ
     obtain ⟨h3, rfl⟩ := Prod.mk.inj (Option.some.inj h)
     obtain ⟨rfl, hx⟩ := Prod.mk.inj h3
     have hx : some y = x := hx
     subst hx
     obtain ⟨ad, cells, rfl, hi, hI, hcc, hrow⟩ := hc
     obtain ⟨ab, ao, asp⟩ := ad
     obtain rfl : asp = none := hcc.1
     have hp := ZfB hrow τ.zero hi
     refine ⟨[_], r, rfl, ⟨⟨ab, ao, none⟩, piece τ.sz cells 0, by simp, hIJ _ _ hI, ⟨rfl, fun j u hu => ?_⟩, hp.mono (hIJ t) (Zaa _ _)⟩, hr⟩
     unfold piece at hu
     rw [List.getElem?_take] at hu
     split at hu
     ·rw [Nat.zero_mul, List.drop_zero] at hu
      exact hcc.2 j u hu
     ·cases hu
    ·cases h
   ·cases h
 | .bool, c :: l, rest, b, x, h, vs, hl => leaf .bool rfl rfl h hl
 | .int k, c :: l, rest, b, x, h, vs, hl => leaf (.int k) rfl rfl h hl
 | .str, c :: l, rest, b, x, h, vs, hl => leaf .str rfl rfl h hl
 | .chain p, c :: l, rest, b, x, h, vs, hl => leaf (.chain p) rfl rfl h hl
 | .bool, [], _, _, _, h, _, _ => by simp [ZbC] at h
 | .int _, [], _, _, _, h, _, _ => by simp [ZbC] at h
 | .str, [], _, _, _, h, _, _ => by simp [ZbC] at h
 | .sl _, [], _, _, _, h, _, _ => by simp [ZbC] at h
 | .ptr _, [], _, _, _, h, _, _ => by simp [ZbC] at h
 | .chain _, [], _, _, _, h, _, _ => by simp [ZbC] at h
 where
 leaf (σ : Ty) (ha : σ.isAgg = false) (hr : ∀ {c : C} {l : List C}, ZbC m σ (c :: l) = match c.asTy σ with | some q => some (q, l) | none => none) {c : C} {l rest : List C} {b : Bool} {x : σ.T} (h : ZbC m σ (c :: l) = some ((b, x), rest)) {vs : List Value} (hl : RL μ I w (shp m) (c :: l) vs) :
   ∃ v1 v2, vs = v1 ++ v2 /\ K (J b) w σ x v1 /\ RL μ I w (shp m) rest v2 := by
  rw [hr] at h
  split at h
  ·rename_i q hq
   obtain ⟨rfl, rfl⟩ := Prod.mk.inj (Option.some.inj h)
   obtain ⟨v, r, rfl, hc, hr⟩ := hl.cons
   exact ⟨[v], r, rfl, ((Zdi hc hq).2 ha).mono (hIJ b) (Zaa _ _), hr⟩
  ·cases h
 own_K {m : Mem} (hm : MRel g m w μ I) {J : Bool -> Nat -> Prop} (hIJ : ∀ t b, I t b -> J t b) (hL : ∀ t b, Zai m μ b -> J t b) {τ : Ty} {y : D} {v : Value} (hy : RD μ I w (shp m) y v) {t : Bool} {ys : List τ.T} (h : ZbX m τ y = some (t, ys)) (hf : (∃ n, y = .c (.mfull n)) \/ (∃ n s k cp, y = .c (.msl n s k cp))) : K (J (t && τ.hasP)) w (.sl τ) ys [v] := by
  obtain ⟨A, cap, rfl, hcells⟩ := ZhQ hm hy h
  have hcap : ys.length <= cap /\ cap <= Mx := by
   rcases hf with ⟨n, rfl⟩ | ⟨n, s, k, cp, rfl⟩
   ·obtain ⟨len, z, A', cap', e1, e2, h2, h3, _⟩ := hy
    injection e2 with _ e3 e4
    subst e3 e4
    exact ⟨h2, h3⟩
   ·obtain ⟨A', cap', e2, h2, h3, _⟩ := hy
    injection e2 with _ e3 e4
    subst e4
    exact ⟨by omega, h3⟩
  refine ⟨A, cap, rfl, hcap.1, hcap.2, fun hne => ?_⟩
  rcases hcells with e | ⟨b', o, cells, rfl, hc, hr⟩
  ·exact absurd e hne
  ·have hlive : Zai m μ b' := by
    rcases hf with ⟨n, rfl⟩ | ⟨n, s, k, cp, rfl⟩
    ·obtain ⟨len, z, A', cap', e1, e2, h2, h3, h4⟩ := hy
     injection e2 with e5 e3 e4
     subst e5
     rcases h4 with ⟨e6, _⟩ | ⟨b2, q, len', z', e7, _, e8, _⟩
     ·cases e6
     ·injection e8 with e8
      injection e8 with e8
      subst e8
      exact ⟨n, q, fun e => by simp [shp, e] at e1, e7⟩
    ·obtain ⟨A', cap', e2, h2, h3, _, ⟨len, z, e1, _, h6⟩, _⟩ := hy
     injection e2 with e5 e3 e4
     subst e5
     have hpos : 0 < k := by
      rw [<- e3]
      exact List.length_pos_iff.2 hne
     obtain ⟨b2, q, e7, e8⟩ := h6 hpos
     injection e8 with e8
     injection e8 with e8
     subst e8
     exact ⟨n, q, fun e => by simp [shp, e] at e1, e7⟩
   exact ⟨⟨b', o, none⟩, cells, rfl, hL _ _ hlive, ⟨rfl, hc⟩, hr.imp fun _ _ k => by
    cases h : τ.hasP with
    | false => exact k.noP h
    | true => rw [Bool.and_true]; exact k.mono (hIJ t) (Zaa _ _)⟩
theorem out_ok [DR] {m : Mem} (hm : MRel g m w μ I) {J : Bool -> Nat -> Prop} (hIJ : ∀ t b, I t b -> J t b) (hJ : ∀ b, J false b -> J true b) (hL : ∀ t b, Zai m μ b -> J t b) {σ : Ty} {d : D} {t : Bool} {x : σ.T} (h : d.out m σ = some (t, x)) {v : Value} (hd : RD μ I w (shp m) d v) : VK (J t) w σ x v := by
 unfold D.out at h
 split at h
 ·split at h
  ·rename_i hτ
   obtain ⟨rfl, rfl⟩ := Prod.mk.inj (Option.some.inj h)
   exact Zr1 hτ (VK.mono (hIJ _) (Zaa _ _) hd)
  ·cases h
 ·rename_i y hy
  cases ha : σ.isAgg with
  | true => simp only [ha, cond_true] at h; cases h
  | false =>
   simp only [ha, cond_false] at h
   split at h
   ·rename_i q hq
    obtain rfl := Option.some.inj h
    obtain ⟨v1, v2, ev, k1, r1⟩ := Zc1 hm hIJ hJ hL hq (RL.mk_cons (v := v) hd RL.nil)
    have hv2 : v2 = [] := by have := r1.1; simpa using this.symm
    rw [hv2, List.append_nil] at ev
    rw [<- ev] at k1
    exact ⟨(fun e => by rw [ha] at e; exact absurd e (by decide)), fun _ => k1⟩
   ·cases h
 ·rename_i l
  cases ha : σ.isAgg with
  | false => simp only [ha, cond_false] at h; cases h
  | true =>
   simp only [ha, cond_true] at h
   split at h
   ·rename_i q hq
    obtain rfl := Option.some.inj h
    obtain ⟨vs, rfl, hl, _⟩ := hd
    obtain ⟨v1, v2, ev, k1, r1⟩ := Zc1 hm hIJ hJ hL hq hl
    have hv2 : v2 = [] := by have := r1.1; simpa using this.symm
    rw [hv2, List.append_nil] at ev
    rw [<- ev] at k1
    exact ⟨fun _ => ⟨vs, rfl, k1⟩, fun e => (by rw [ha] at e; exact absurd e (by decide))⟩
   ·cases h
 ·cases h
end Go.PI

namespace Go.PI
open Go.RowKit
variable {P : Program} {c : Ctx} {g : Cfg} {s st : St} {a : Act} {w : World} {μ : Nm} {I : Bool -> Nat -> Prop}
def Ziq (tmps : Array Value) : ResultVar -> Sem Value
 | .tmp t => pure (tmps.getD t undef)
 | .cell a t => do loadVar t (<- asAddr (tmps.getD a undef))
theorem ZsO [DR] (he : EnvOk P c) (h : Rel g s a w μ I) {x : ResultVar} {d : D} (hd : resD c s x = some d) : ∃ v, (Ziq a.tmps x).run P w = .ok v w /\ RD μ I w (shp s.m) d v := by
 cases x with
 | tmp t =>
  obtain rfl := Option.some.inj hd
  exact ⟨_, rfl, h.tm t⟩
 | cell t ty =>
  simp only [resD] at hd
  split at hd
  ·rename_i ti p ht hp
   have hv := h.tm t
   rw [hp] at hv
   obtain ⟨v', h1, h2⟩ := ZrL h.toMRel (he.tb _ _ ht) hv hd
   refine ⟨v', ?_, h2⟩
   show (do loadVar ty (<- asAddr (a.tmps.getD t undef)) : Sem Value).run P w = .ok v' w
   generalize a.tmps.getD t undef = u at h1
   unfold Instr.loadAt at h1
   cases u with
   | pointer o =>
    cases o with
    | some ad => simpa [Instr.sureAddr, asAddr, Sem.run_bind, Sem.run_pure] using h1
    | none => simp [Instr.sureAddr, Sem.run_bind, stuck] at h1
   | _ => simp [Instr.sureAddr, Sem.run_bind, stuck] at h1
  ·cases hd
theorem asRes_ok (hs : ∀ b, I false b -> I true b) {sh : Sh} {t : Option Nat} {d : D} {y : C} (h : asRes c t d = some y) {v : Value} (hd : RD μ I w sh d v) : RC μ I w sh y v := by
 unfold asRes at h
 split at h
 ·obtain rfl := Option.some.inj h
  exact hd
 ·split at h
  ·split at h
   ·split at h
    ·rename_i b x hx
     obtain rfl := Option.some.inj h
     exact Zbv hs hx hd
    ·cases h
   ·cases h
  ·cases h
theorem Zs4 [DR] (he : EnvOk P c) (h : Rel g s a w μ I) : ∀ {ts : List Nat} {l : List ResultVar} {r : List C}, resC c s ts l = some r -> ∃ vs, (l.mapM (Ziq a.tmps)).run P w = .ok vs w /\ RL μ I w (shp s.m) r vs
 | _, [], r, hr => by
  obtain rfl := Option.some.inj hr
  exact ⟨[], rfl, RL.nil⟩
 | ts, x :: l, r, hr => by
  simp only [resC] at hr
  split at hr
  ·rename_i d hx
   split at hr
   ·rename_i y r' hy hl
    obtain rfl := Option.some.inj hr
    obtain ⟨v, h1, h2⟩ := ZsO he h hx
    obtain ⟨vs, h3, h4⟩ := Zs4 he h hl
    refine ⟨v :: vs, ?_, RL.mk_cons (asRes_ok h.isub hy h2) h4⟩
    simp only [List.mapM_cons, Sem.run_bind, h1, Result.andThen_ok, h3, Sem.run_pure]
   ·cases hr
  ·cases hr
theorem ZtW (fn : Func) (tmps : Array Value) : results fn tmps = (do let vs <- fn.results.toList.mapM (Ziq tmps); pure (if h : vs.length = 1 then vs[0] else .tuple vs.toArray)) := by
 unfold results
 have : (fun x : ResultVar => match x with
  | .tmp t => (pure (tmps.getD t undef) : Sem Value)
  | .cell a t => do loadVar t (<- asAddr (tmps.getD a undef))) = Ziq tmps := by
  funext x; cases x <;> rfl
 rw [Array.mapM_eq_mapM_toList]
 simp only [map_eq_pure_bind, bind_assoc, pure_bind]
 congr 1
theorem ZiN [DR] (he : EnvOk P c) (h : Rel g s a w μ I) {fn : Func} {ts : List Nat} {d : D} (hd : Zd2 c s ts fn.results.toList = some d) : ∃ v, (results fn a.tmps).run P w = .ok v w /\ RD μ I w (shp s.m) d v := by
 rw [ZtW]
 unfold Zd2 at hd
 split at hd
 ·rename_i x hx
  obtain ⟨v, h1, h2⟩ := ZsO he h hd
  refine ⟨v, ?_, h2⟩
  rw [hx]
  simp [Sem.run_bind, h1]
 ·rename_i l hl
  obtain ⟨r, hr, rfl⟩ := Option.map_eq_some_iff.1 hd
  obtain ⟨vs, h1, h2⟩ := Zs4 he h hr
  have hne : vs.length ≠ 1 := by
   intro e
   have hlen : ∀ {l : List ResultVar} {ts : List Nat} {r : List C}, resC c s ts l = some r -> r.length = l.length := by
    intro l
    induction l with
    | nil => intro ts r hr; obtain rfl := Option.some.inj hr; rfl
    | cons x l ih =>
     intro ts r hr
     simp only [resC] at hr
     split at hr
     ·split at hr
      ·rename_i y r' _ hl'
       obtain rfl := Option.some.inj hr
       simp [ih hl']
      ·cases hr
     ·cases hr
   have := hlen hr
   have h3 := h2.1
   rw [e] at h3
   rw [h3] at this
   obtain ⟨x, hx⟩ := List.length_eq_one_iff.1 this.symm
   exact hl x hx
  refine ⟨.tuple vs.toArray, ?_, vs, rfl, h2⟩
  simp only [Sem.run_bind, h1, Result.andThen_ok, dif_neg hne, Sem.run_pure]
theorem Zni [DR] (h : Rel g s a w μ I) (l : List ResultVar) : ∃ I', Rel g (settle c s l) a w μ I' := by
 unfold settle
 split
 ·exact ⟨I, h⟩
 ·obtain ⟨I', h', _⟩ := ZbN (aggOf c s l) h (d := .c .bad) (v := undef) trivial
  exact ⟨I', h'⟩
theorem Zfx [DR] {m : Mem} (h : MRel (ZaZ w I m μ) m w μ I) {args : List D} {vs : List Value} (ha : RDs μ I w (shp m) args vs) (k : Nat) : Rel (ZaZ w I m μ) ⟨args ++ List.replicate (k - args.length) (.c .bad), m, []⟩ { tmps := vs.toArray ++ Array.replicate (k - vs.toArray.size) undef, defers := [] } w μ I := by
 refine { toMRel := h, tm := ?_, len := by simp [ha.1], dfr := rfl, kept := fun n _ _ => ⟨rfl, rfl⟩ }
 intro i
 by_cases hi : i < args.length
 ·have hi' : i < vs.length := ha.1 ▸ hi
  have := ha.2 i _ _ (List.getElem?_eq_getElem hi) (List.getElem?_eq_getElem hi')
  simpa [List.getD, List.getElem?_append_left hi, List.getElem?_eq_getElem hi, Array.getD_eq_getD_getElem?, Array.getElem?_append, hi'] using this
 ·have : (args ++ List.replicate (k - args.length) (D.c .bad)).getD i (.c .bad) = .c .bad := by
   simp only [List.getD, List.getElem?_append_right (Nat.not_lt.1 hi), List.getElem?_replicate]
   split <;> rfl
  simp only [this]
  exact trivial
theorem Zdr [DR] (he : EnvFull P c) {f : Nat} {fn : Func} {code : Code} (hf : P.funcs[f]? = some fn) (hb : fn.body = some code) {m : Mem} (hm : MRel (ZaZ w I m μ) m w μ I) {args : List D} {vs : List Value} (ha : RDs μ I w (shp m) args vs)
  {p : Par} (hlo : ZaB P (ZaZ w I m μ) p code) {nm : Nat} {d : D} {m' : Mem} {ks : List Nat} (hr : (inl c p fn code nm args m).run = some (d, m', ks)) :
  Calls P f vs.toArray w fun e w' => ∃ v μ' I', e = .returned v /\ MRel (ZaZ w I m μ) m' w' μ' I' /\ (∀ t b, I t b -> I' t b) /\ (∀ n, look n m ≠ none -> n ∉ ks -> μ' n = μ n /\ shp m' n = shp m n) /\ RD μ' I' w' (shp m') d v := by
 let c' : Ctx := { c with base := (nm + 1) * 1024 }
 have he' : EnvFull P c' := { tb := he.tb, eqs := he.eqs, orc := he.orc, mixed := he.mixed }
 unfold inl at hr
 obtain ⟨⟨y, st⟩, h1, h2⟩ := Br.bind_some hr
 have hcode := Tri.ev_ok (g := ZaZ w I m μ) he' p code hlo h1 _ w ⟨μ, I, Zfx hm ha fn.ntmps⟩
 refine calls_of_wp hf hb (wp_mono hcode ?_)
 rintro e a' w' ⟨s', ⟨rfl, rfl⟩, μ', I', h⟩
 have key : (ZbI c' fn s').run = some (d, m', ks) -> a'.defers = [] /\ ∃ v, (results fn a'.tmps).run P w' = .ok v w' /\ ∃ v_1 μ' I', Ending.returned v = .returned v_1 /\ MRel (ZaZ w I m μ) m' w' μ' I' /\ (∀ t b, I t b -> I' t b) /\ (∀ n, look n m ≠ none -> n ∉ ks -> μ' n = μ n /\ shp m' n = shp m n) /\ RD μ' I' w' (shp m') d v_1 := by
  intro h3
  obtain ⟨I', h⟩ := Zni (c := c') h fn.results.toList
  obtain ⟨d1, hd, e1⟩ := Option.map_eq_some_iff.1 (Zb4 h3)
  obtain ⟨rfl, e2⟩ := Prod.mk.inj e1
  obtain ⟨rfl, rfl⟩ := Prod.mk.inj e2
  obtain ⟨v, hv, hrd⟩ := ZiN he'.toEnvOk h hd
  exact ⟨h.dfr, v, hv, v, μ', I', rfl, h.toMRel, h.i0, fun n h1 h2 => h.kept n h1 h2, hrd⟩
 cases e with
 | normal => exact key h2
 | ret => exact key h2
 | _ => cases h2
theorem Zbp.of_run [DR] (he : EnvFull P c) {f : Nat} {fn : Func} {code : Code} {o : Orc} (hf : P.funcs[f]? = some fn) (hn : (fn.name == "runtime.NumGoroutine") = false) (hb : fn.body = some code)
  (h : ∀ nm args m r, (o nm args m).run = some r -> ∃ p, (∀ i, p.lo i = none) /\ (inl c p fn code nm args m).run = some r) : Zbp P f o := by
 refine ⟨⟨fn, hf, hn, by rw [hb]; rfl⟩, fun w μ I m nm args vs d m' ks hm ha hr => ?_⟩
 obtain ⟨p, hl, hp⟩ := h _ _ _ _ hr
 exact Zdr he hf hb hm ha (ZaB.none hl) hp
theorem Zbp.inl [DR] (he : EnvFull P c) (p : Par) (hl : ∀ i, p.lo i = none) {f : Nat} {fn : Func} {code : Code} (hf : P.funcs[f]? = some fn) (hn : (fn.name == "runtime.NumGoroutine") = false) (hb : fn.body = some code) : Zbp P f (inl c p fn code) :=
 .of_run he hf hn hb fun _ _ _ _ hr => ⟨p, hl, hr⟩
@[reducible] def Args : List (Bool × Ty) -> Type
 | [] => Unit
 | p :: r => p.2.T × Args r
@[reducible] def Res : List Ty -> Type
 | [] => Unit
 | [τ] => τ.T
 | τ :: σ :: r => τ.T × Res (σ :: r)
def Zh2 (J : Bool -> Nat -> Prop) (w : World) : (ins : List (Bool × Ty)) -> Args ins -> List Value -> Prop
 | [], _, vs => vs = []
 | p :: r, x, vs => ∃ v l, vs = v :: l /\ VK (J !p.1) w p.2 x.1 v /\ Zh2 J w r x.2 l
def ZeG (J : Nat -> Prop) (w : World) : (outs : List Ty) -> Res outs -> List Value -> Prop
 | [], _, vs => vs = []
 | [τ], x, vs => ∃ v, vs = [v] /\ VK J w τ x v
 | τ :: σ :: r, x, vs => ∃ v l, vs = v :: l /\ VK J w τ x.1 v /\ ZeG J w (σ :: r) x.2 l
def ResK (J : Nat -> Prop) (w : World) : (outs : List Ty) -> Res outs -> Value -> Prop
 | [], _, v => v = .tuple #[]
 | [τ], x, v => VK J w τ x v
 | τ :: σ :: r, x, v => ∃ vs : List Value, v = .tuple vs.toArray /\ ZeG J w (τ :: σ :: r) x vs
def Zdd : (ins : List (Bool × Ty)) -> Args ins -> List D
 | [], _ => []
 | p :: r, x => .c (.ty (!p.1) p.2 x.1) :: Zdd r x.2
def resL : (outs : List Ty) -> Res outs -> List C
 | [], _ => []
 | [τ], x => [.ty false τ x]
 | τ :: σ :: r, x => .ty false τ x.1 :: resL (σ :: r) x.2
def resDD : (outs : List Ty) -> Res outs -> D
 | [], _ => .tup []
 | [τ], x => .c (.ty false τ x)
 | τ :: σ :: r, x => .tup (resL (τ :: σ :: r) x)
def D.outp (m : Mem) (σ : Ty) (d : D) : Option (Bool × σ.T) := match d.out m σ with
 | some (t, x) => some (t && σ.hasP, x)
 | none => none
def ZfH (m : Mem) : (outs : List Ty) -> List C -> Option (Bool × Res outs)
 | [], [] => some (false, ())
 | [τ], [x] => (D.c x).outp m τ
 | τ :: σ :: r, x :: l => match (D.c x).outp m τ, ZfH m (σ :: r) l with
  | some (t, y), some (u, ys) => some (t || u, (y, ys))
  | _, _ => none
 | _, _ => none
def Zii (m : Mem) : (outs : List Ty) -> D -> Option (Bool × Res outs)
 | [], .tup [] => some (false, ())
 | [τ], d => d.outp m τ
 | τ :: σ :: r, .tup l => ZfH m (τ :: σ :: r) l
 | _, _ => none
theorem Zgj [DR] {m : Mem} (hm : MRel g m w μ I) {J : Bool -> Nat -> Prop} (hIJ : ∀ t b, I t b -> J t b) (hJ : ∀ b, J false b -> J true b) (hL : ∀ t b, Zai m μ b -> J t b) {σ : Ty} {d : D} {t : Bool} {x : σ.T} (h : d.outp m σ = some (t, x)) {v : Value} (hd : RD μ I w (shp m) d v) : VK (J t) w σ x v := by
 unfold D.outp at h
 split at h
 ·rename_i t' x' h1
  obtain ⟨rfl, rfl⟩ := Prod.mk.inj (Option.some.inj h)
  have := out_ok hm hIJ hJ hL h1 hd
  cases hp : σ.hasP with
  | true => rw [Bool.and_true]; exact this
  | false => exact this.noP hp
 ·cases h
theorem Zp2 [DR] {m : Mem} (hm : MRel g m w μ I) {J : Bool -> Nat -> Prop} (hIJ : ∀ t b, I t b -> J t b) (hJ : ∀ b, J false b -> J true b) (hL : ∀ t b, Zai m μ b -> J t b) : ∀ {outs : List Ty} {l : List C} {x : Res outs}, ZfH m outs l = some (false, x) -> ∀ {vs : List Value}, RL μ I w (shp m) l vs -> ZeG (J false) w outs x vs
 | [], [], _, h, vs, hl => by
  have := hl.1
  exact List.length_eq_zero_iff.1 this.symm
 | [τ], [y], x, h, vs, hl => by
  obtain ⟨v, r, rfl, h1, h2⟩ := hl.cons
  have hr : r = [] := List.length_eq_zero_iff.1 h2.1.symm
  subst hr
  exact ⟨v, rfl, Zgj hm hIJ hJ hL (d := .c y) h h1⟩
 | τ :: σ :: r, y :: l, x, h, vs, hl => by
  simp only [ZfH] at h
  split at h
  ·rename_i t y' u ys h1 h2
   obtain ⟨e, rfl⟩ := Prod.mk.inj (Option.some.inj h)
   simp only [Bool.or_eq_false_iff] at e
   obtain ⟨rfl, rfl⟩ := e
   obtain ⟨v, r', rfl, h3, h4⟩ := hl.cons
   exact ⟨v, r', rfl, Zgj hm hIJ hJ hL (d := .c y) h1 h3, Zp2 hm hIJ hJ hL h2 h4⟩
  ·cases h
 | [], _ :: _, _, h, _, _ => by simp [ZfH] at h
 | [_], [], _, h, _, _ => by simp [ZfH] at h
 | [_], _ :: _ :: _, _, h, _, _ => by simp [ZfH] at h
 | _ :: _ :: _, [], _, h, _, _ => by simp [ZfH] at h
theorem Zn0 [DR] {m : Mem} (hm : MRel g m w μ I) {J : Bool -> Nat -> Prop} (hIJ : ∀ t b, I t b -> J t b) (hJ : ∀ b, J false b -> J true b) (hL : ∀ t b, Zai m μ b -> J t b) {outs : List Ty} {d : D} {x : Res outs} (h : Zii m outs d = some (false, x)) {v : Value} (hd : RD μ I w (shp m) d v) : ResK (J false) w outs x v := by
 unfold Zii at h
 split at h
 ·obtain ⟨vs, rfl, h1⟩ := hd
  have : vs = [] := List.length_eq_zero_iff.1 h1.1.symm
  rw [this]
  rfl
 ·exact Zgj hm hIJ hJ hL h hd
 ·obtain ⟨vs, rfl, h1⟩ := hd
  exact ⟨vs, rfl, Zp2 hm hIJ hJ hL h h1⟩
 ·cases h
structure TSpec [DR] (P : Program) (f : Nat) (ins : List (Bool × Ty)) (outs : List Ty) (pre : Args ins -> Bool) (F : Args ins -> Res outs) : Prop where
 fn : ∃ fn, P.funcs[f]? = some fn /\ (fn.name == "runtime.NumGoroutine") = false /\ fn.body.isNone = false
 ok : ∀ (w : World) (J : Bool -> Nat -> Prop), (∀ b, J false b -> J true b) -> (∀ b, J true b -> b < w.heap.size) -> ∀ (xs : Args ins) (vs : List Value), Zh2 J w ins xs vs -> pre xs = true ->
  Calls P f vs.toArray w fun e w' => ∃ v, e = .returned v /\ ResK (fun b => J false b \/ (w.heap.size <= b /\ b < w'.heap.size)) w' outs (F xs) v /\
   w'.os = w.os /\ TP w w' /\ w'.output = w.output /\ w.heap.size <= w'.heap.size /\ ∀ b, b < w.heap.size -> w'.heap[b]? = w.heap[b]?
theorem ZjD {μ : Nm} {J : Bool -> Nat -> Prop} {sh : Sh} : ∀ {ins : List (Bool × Ty)} {xs : Args ins} {vs : List Value}, Zh2 J w ins xs vs -> (Zdd ins xs).length = vs.length /\ ∀ (j : Nat) (d : D) (v : Value), (Zdd ins xs)[j]? = some d -> vs[j]? = some v -> RD μ J w sh d v
 | [], _, vs, h => by
  rw [show vs = [] from h]
  exact ⟨rfl, fun j d v hd => by simp [Zdd] at hd⟩
 | p :: r, x, vs, ⟨v, l, e, h1, h2⟩ => by
  subst e
  obtain ⟨h3, h4⟩ := ZjD (μ := μ) (sh := sh) h2
  refine ⟨by simp [Zdd, h3], fun j d u hd hu => ?_⟩
  cases j with
  | zero =>
   simp only [Zdd, List.getElem?_cons_zero, Option.some.injEq] at hd hu
   subst hd hu
   exact h1
  | succ j =>
   simp only [Zdd, List.getElem?_cons_succ] at hd hu
   exact h4 j d u hd hu
theorem TSpec.of_run [DR] (he : EnvFull P c) {f : Nat} {fn : Func} {code : Code} (hf : P.funcs[f]? = some fn) (hn : (fn.name == "runtime.NumGoroutine") = false) (hb : fn.body = some code)
  {ins : List (Bool × Ty)} {outs : List Ty} {pre : Args ins -> Bool} {F : Args ins -> Res outs}
  (h : ∀ xs, pre xs = true -> ∃ p d m ks, (∀ g, g.m0 = [] -> ZaB P g p code) /\ (inl c p fn code 0 (Zdd ins xs) []).run = some (d, m, ks) /\ Zii m outs d = some (false, F xs)) : TSpec P f ins outs pre F := by
 refine ⟨⟨fn, hf, hn, by rw [hb]; rfl⟩, fun w J hJ hlt xs vs hx hp => ?_⟩
 obtain ⟨p, d, m, ks, hlo, hr, ho⟩ := h xs hp
 let μ : Nm := fun _ => none
 have hm : MRel (ZaZ w J [] μ) [] w μ J := { mem := fun n mb h => by simp [look] at h, inj := fun n n' b q q' h => (by cases h), sep := fun n b q h => absurd rfl h, isub := hJ, ilt := hlt, i0 := fun t b h => h, inew := fun t b h => .inl h, live := fun n b q h => absurd rfl h, os := rfl, tape := TP.refl _, output := rfl, size := Nat.le_refl _, keep := fun _ _ _ => rfl }
 refine (Zdr he hf hb hm (args := Zdd ins xs) (vs := vs) (ZjD hx) (hlo _ rfl) hr).mono ?_
 rintro e w' ⟨v, μ', I', rfl, h1, h2, h3, h4⟩
 refine ⟨v, rfl, ?_, h1.os, h1.tape, h1.output, h1.size, fun b hb => h1.keep b hb (fun ⟨n, q, hn, _⟩ => hn rfl)⟩
 have hnew : ∀ b, (I' false b \/ Zai m μ' b) -> J false b \/ (w.heap.size <= b /\ b < w'.heap.size) := by
  rintro b (hb | ⟨n, q, hn, hμ⟩)
  ·rcases h1.inew false b hb with k | ⟨n, q, hn, _⟩ | k
   ·exact .inl k
   ·exact absurd rfl hn
   ·exact .inr ⟨k, h1.ilt b (h1.isub b hb)⟩
  ·rcases h1.live n b q hn hμ with ⟨n', q', hn', _⟩ | k
   ·exact absurd rfl hn'
   ·exact .inr ⟨k, h1.live_lt hn hμ⟩
 have := Zn0 h1 (J := fun t b => I' t b \/ Zai m μ' b) (fun _ _ k => .inl k) (fun b k => k.imp (h1.isub b) id) (fun _ _ k => .inr k) ho h4
 have up : ∀ {J1 J2 : Nat -> Prop} (hJ : ∀ b, J1 b -> J2 b) {outs : List Ty} {x : Res outs} {vs : List Value}, ZeG J1 w' outs x vs -> ZeG J2 w' outs x vs := by
  intro J1 J2 hJ outs
  induction outs with
  | nil => intro x vs h; exact h
  | cons τ r ih =>
   intro x vs h
   cases r with
   | nil => obtain ⟨v, h1, h2⟩ := h; exact ⟨v, h1, h2.mono hJ (Zaa _ _)⟩
   | cons σ r => obtain ⟨v, l, h1, h2, h3⟩ := h; exact ⟨v, l, h1, h2.mono hJ (Zaa _ _), ih h3⟩
 have upK : ∀ {J1 J2 : Nat -> Prop} (hJ : ∀ b, J1 b -> J2 b) {outs : List Ty} {x : Res outs} {v : Value}, ResK J1 w' outs x v -> ResK J2 w' outs x v := by
  intro J1 J2 hJ outs x v h
  cases outs with
  | nil => exact h
  | cons τ r =>
   cases r with
   | nil => exact VK.mono hJ (Zaa _ _) h
   | cons σ r => obtain ⟨vs, h1, h2⟩ := h; exact ⟨vs, h1, up hJ h2⟩
 exact upK hnew this
end Go.PI

namespace Go.PI
open Go.RowKit
variable {P : Program} {c : Ctx} {g : Cfg} {s st : St} {a : Act} {w : World} {μ : Nm} {I : Bool -> Nat -> Prop}
def Zej : List (Bool × Ty) -> List D -> List Nat
 | (true, _) :: r, d :: l => d.names ++ Zej r l
 | (false, _) :: r, _ :: l => Zej r l
 | _, _ => []
def lend (m : Mem) : (ins : List (Bool × Ty)) -> List D -> Option (Args ins)
 | [], [] => some ()
 | p :: r, d :: l => match (bif p.1 then (match d.asTy p.2 with
   | some (t, x) => bif t && p.2.hasP then none else some x
   | none => none) else (d.outp m p.2).map (·.2)), lend m r l with
  | some x, some xs => some (x, xs)
  | _, _ => none
 | _, _ => none
def ZqE (ins : List (Bool × Ty)) (outs : List Ty) (pre : Args ins -> Bool) (F : Args ins -> Res outs) : Orc := fun _ args m =>
 let s := (ZaA (Zej ins args) (⟨args, m, []⟩, .c .bad)).1
 match lend s.m ins s.t with
 | some xs => .cond (pre xs) (.ret (resDD outs (F xs), s.m, s.k)) .no
 | none => .no
theorem MRel.after [DR] {m m' : Mem} {I' : Bool -> Nat -> Prop} {w' : World} (h : MRel (ZaZ w I m μ) m' w μ I') (hos : w'.os = w.os) (htape : TP w w') (hout : w'.output = w.output) (hsz : w.heap.size <= w'.heap.size) (hold : ∀ b, b < w.heap.size -> w'.heap[b]? = w.heap[b]?) :
  MRel (ZaZ w I m μ) m' w' μ (fun t b => I' t b \/ (w.heap.size <= b /\ b < w'.heap.size)) := by
 have hst : ∀ t, Za3 (I' t) w w' := fun t b hb => hold b (by cases t; exact h.ilt b (h.isub b hb); exact h.ilt b hb)
 refine { mem := ?_, inj := h.inj, sep := ?_, isub := fun b hb => hb.imp (h.isub b) id, ilt := ?_, i0 := fun t b hb => .inl (h.i0 t b hb), inew := ?_, live := h.live, os := hos.trans h.os, tape := htape.trans h.tape, output := hout.trans h.output, size := hsz, keep := ?_ }
 ·intro n mb hn
  rcases h.mem n mb hn with ⟨b, q, e, hb⟩ | r
  ·refine .inl ⟨b, q, e, ?_⟩
   have := hb.map (φ := id) (μ' := μ) (I' := fun t b => I' t b \/ (w.heap.size <= b /\ b < w'.heap.size)) (w' := w') (sh' := shp m') (fun x v hx => hx.same (fun _ _ k => .inl k) hst (fun k _ => ⟨rfl, rfl⟩)) (fun _ _ k => .inl k) hst (hold b hb.lt)
   have eid : mb.mapC id = mb := by cases mb <;> simp [MB.mapC]
   rwa [eid] at this
  ·exact .inr r
 ·rintro n b q hn hμ (hi | ⟨hi, _⟩)
  ·exact h.sep n b q hn hμ hi
  ·have := h.live_lt hn hμ
   omega
 ·rintro b (hb | ⟨_, hb⟩)
  ·have := h.ilt b hb
   omega
  ·exact hb
 ·rintro t b (hb | ⟨hb, _⟩)
  ·exact h.inew t b hb
  ·exact .inr (.inr hb)
 ·intro b hb hL
  rw [hold b hb]
  exact h.keep b hb hL
theorem Zsd [DR] {m : Mem} (hm : MRel g m w μ I) : ∀ {ins : List (Bool × Ty)} {l : List D} {xs : Args ins}, lend m ins l = some xs -> ∀ {vs : List Value}, RDs μ I w (shp m) l vs -> Zh2 (fun t b => I t b \/ (t = true /\ Zai m μ b)) w ins xs vs
 | [], [], _, _, vs, hl => List.length_eq_zero_iff.1 hl.1.symm
 | p :: r, d :: l, xs, h, vs, hl => by
  simp only [lend] at h
  split at h
  ·rename_i x ys h1 h2
   obtain rfl := Option.some.inj h
   cases vs with
   | nil => have := hl.1; simp at this
   | cons v vs =>
    refine ⟨v, vs, rfl, ?_, Zsd hm h2 ⟨by have := hl.1; simpa using this, fun j d' v' hd hv => hl.2 (j + 1) d' v' (by simpa using hd) (by simpa using hv)⟩⟩
    have hd := hl.2 0 d v rfl rfl
    cases hp : p.1 with
    | true =>
     rw [hp] at h1
     simp only [cond_true] at h1
     split at h1
     ·rename_i t y hy
      cases ht : t && p.2.hasP with
      | true => rw [ht] at h1; cases h1
      | false =>
       rw [ht] at h1
       obtain rfl := Option.some.inj h1
       have k := Zbv hm.isub hy hd
       cases hq : p.2.hasP with
       | false => exact k.noP hq
       | true =>
        rw [hq, Bool.and_true] at ht
        subst ht
        exact k.mono (fun b hb => .inl hb) (Zaa _ _)
     ·cases h1
    | false =>
     rw [hp] at h1
     simp only [cond_false] at h1
     obtain ⟨⟨t, y⟩, hy, rfl⟩ := Option.map_eq_some_iff.1 h1
     have k := Zgj hm (J := fun t b => I t b \/ Zai m μ b) (fun _ _ k => .inl k) (fun b k => k.imp (hm.isub b) id) (fun _ _ k => .inr k) hy hd
     refine k.mono (fun b hb => ?_) (Zaa _ _)
     rcases hb with hb | hb
     ·cases t with
      | true => exact .inl hb
      | false => exact .inl (hm.isub b hb)
     ·exact .inr ⟨rfl, hb⟩
  ·cases h
 | [], _ :: _, _, h, _, _ => by simp [lend] at h
 | _ :: _, [], _, h, _, _ => by simp [lend] at h
theorem ZrP {J : Bool -> Nat -> Prop} {sh : Sh} : ∀ {outs : List Ty} {x : Res outs} {vs : List Value}, ZeG (J false) w outs x vs -> RL μ J w sh (resL outs x) vs
 | [], _, vs, h => by rw [show vs = [] from h]; exact RL.nil
 | [τ], x, vs, ⟨v, e, h⟩ => by subst e; exact RL.mk_cons h RL.nil
 | τ :: σ :: r, x, vs, ⟨v, l, e, h1, h2⟩ => by subst e; exact RL.mk_cons h1 (ZrP h2)
theorem resDD_ok {J : Bool -> Nat -> Prop} {sh : Sh} {outs : List Ty} {x : Res outs} {v : Value} (h : ResK (J false) w outs x v) : RD μ J w sh (resDD outs x) v := by
 cases outs with
 | nil => exact ⟨[], h, RL.nil⟩
 | cons τ r =>
  cases r with
  | nil => exact h
  | cons σ r => obtain ⟨vs, h1, h2⟩ := h; exact ⟨vs, h1, ZrP h2⟩
theorem ZeG.up {J1 J2 : Nat -> Prop} (hJ : ∀ b, J1 b -> J2 b) : ∀ {outs : List Ty} {x : Res outs} {vs : List Value}, ZeG J1 w outs x vs -> ZeG J2 w outs x vs
 | [], _, _, h => h
 | [_], _, _, ⟨v, h1, h2⟩ => ⟨v, h1, h2.mono hJ (Zaa _ _)⟩
 | _ :: _ :: _, _, _, ⟨v, l, h1, h2, h3⟩ => ⟨v, l, h1, h2.mono hJ (Zaa _ _), ZeG.up hJ h3⟩
theorem ResK.up {J1 J2 : Nat -> Prop} (hJ : ∀ b, J1 b -> J2 b) {outs : List Ty} {x : Res outs} {v : Value} (h : ResK J1 w outs x v) : ResK J2 w outs x v := by
 cases outs with
 | nil => exact h
 | cons τ r =>
  cases r with
  | nil => exact VK.mono hJ (Zaa _ _) h
  | cons σ r => obtain ⟨vs, h1, h2⟩ := h; exact ⟨vs, h1, h2.up hJ⟩
theorem TSpec.callOk [DR] {f : Nat} {ins : List (Bool × Ty)} {outs : List Ty} {pre : Args ins -> Bool} {F : Args ins -> Res outs} (h : TSpec P f ins outs pre F) : Zbp P f (ZqE ins outs pre F) := by
 refine ⟨h.fn, fun w μ I m nm args vs d m' ks hm ha hr => ?_⟩
 have h0 : Rel (ZaZ w I m μ) ⟨args, m, []⟩ { tmps := vs.toArray, defers := [] } w μ I := by
  have := Zfx hm ha 0
  simpa using this
 obtain ⟨I1, h1, _⟩ := ZbN (Zej ins args) h0 (d := .c .bad) (v := undef) trivial
 unfold ZqE at hr
 simp only at hr
 generalize (ZaA (Zej ins args) (⟨args, m, []⟩, .c .bad)).1 = s at hr h1
 split at hr
 ·rename_i xs hxs
  rw [Br.run_cond] at hr
  split at hr
  ·rename_i hpre
   obtain ⟨rfl, e⟩ := Prod.mk.inj (Option.some.inj hr)
   obtain ⟨rfl, rfl⟩ := Prod.mk.inj e
   have hM := h1.toMRel
   have hlen : s.t.length = vs.length := by have := h1.len; simpa using this
   have hargs : RDs μ I1 w (shp s.m) s.t vs := by
    refine ⟨hlen, fun j d v hd hv => ?_⟩
    have hj := h1.tm j
    have e1 : s.t.getD j (.c .bad) = d := by simp [List.getD, hd]
    have e2 : (vs.toArray).getD j undef = v := by simp [Array.getD_eq_getD_getElem?, hv]
    rw [e1] at hj
    have hj : RD μ I1 w (shp s.m) d ((vs.toArray).getD j undef) := hj
    rw [e2] at hj
    exact hj
   have hK := Zsd hM hxs hargs
   have hJ1 : ∀ b, (I1 false b \/ (false = true /\ Zai s.m μ b)) -> (I1 true b \/ (true = true /\ Zai s.m μ b)) := by
    rintro b (hb | ⟨e, _⟩)
    ·exact .inl (h1.isub b hb)
    ·cases e
   have hJ2 : ∀ b, (I1 true b \/ (true = true /\ Zai s.m μ b)) -> b < w.heap.size := by
    rintro b (hb | ⟨_, n, q, hn, hμ⟩)
    ·exact hM.ilt b hb
    ·exact hM.live_lt hn hμ
   refine (h.ok w _ hJ1 hJ2 xs vs hK hpre).mono ?_
   rintro e w' ⟨v, rfl, r1, r2, r3, r4, r5, r6⟩
   refine ⟨v, μ, _, rfl, hM.after r2 r3 r4 r5 r6, ?_, fun n a1 a2 => h1.kept n a1 a2, resDD_ok (r1.up ?_)⟩
   ·exact fun t b hb => .inl (h1.i0 t b hb)
   ·rintro b ((hb | ⟨e, _⟩) | hb)
    ·exact .inl hb
    ·cases e
    ·exact .inr hb
  ·cases hr
 ·cases hr
end Go.PI

namespace Go.PI
open Go.RowKit
def zeroB : Value -> Value -> Bool
 | .bool a, .bool b => a == b
 | .int k n, .int k' n' => decide (k = k') && decide (n = n')
 | .string s, .string s' => Nat.beq s.size 0 && Nat.beq s'.size 0
 | .slice none 0 0, .slice none 0 0 => true
 | .pointer none, .pointer none => true
 | _, _ => false
theorem ZoV {u v : Value} (h : zeroB u v = true) : u = v := by
 unfold zeroB at h
 split at h
 ·simp at h; rw [h]
 ·simp only [Bool.and_eq_true, decide_eq_true_eq] at h; rw [h.1, h.2]
 ·simp only [Bool.and_eq_true] at h
  have e : ∀ x : ByteArray, Nat.beq x.size 0 = true -> x = ByteArray.empty := fun x hx => by
   have hx := Nat.eq_of_beq_eq_true hx
   cases x with
   | mk a =>
    have : a.size = 0 := hx
    rw [Array.size_eq_zero_iff.1 this]
    rfl
  rw [e _ h.1, e _ h.2]
 ·rfl
 ·rfl
 ·cases h
def Zln : List Value -> List Value -> Bool
 | [], [] => true
 | u :: l, v :: r => zeroB u v && Zln l r
 | _, _ => false
theorem Zmg : ∀ {l r : List Value}, Zln l r = true -> l = r
 | [], [], _ => rfl
 | u :: l, v :: r, h => by
  simp only [Zln, Bool.and_eq_true] at h
  rw [ZoV h.1, Zmg h.2]
 | [], _ :: _, h => by cases h
 | _ :: _, [], h => by cases h
def zvB (τ : Ty) (v : Value) : Bool :=
 bif τ.isAgg then (match v with
  | .agg a => Zln a.toList (Zak τ)
  | _ => false) else (match Zak τ with
  | [u] => zeroB v u
  | _ => false)
theorem zvB_ok {τ : Ty} {v : Value} (h : zvB τ v = true) : v = ZaE τ (Zak τ) := by
 unfold zvB at h
 unfold ZaE
 cases e : τ.isAgg with
 | true =>
  rw [e] at h
  simp only [cond_true] at h ⊢
  split at h
  ·rename_i a
   rw [<- Zmg h]
  ·cases h
 | false =>
  rw [e] at h
  simp only [cond_false] at h ⊢
  split at h
  ·rename_i u hu
   rw [hu]
   exact ZoV h
  ·cases h
def Zh4 (P : Program) : List Field -> List (Nat × Nat) -> Bool
 | [], [] => true
 | f :: r, (o, t) :: l => Nat.beq f.offset o && Nat.beq f.type t && (P.info? f.type).isSome && Zh4 P r l
 | _, _ => false
theorem ZkH {P : Program} : ∀ {fs : List Field} {l : List (Nat × Nat)}, Zh4 P fs l = true -> fs.map (fun f => (f.offset, f.type)) = l /\ (fs.mapM (fun f => (P.info? f.type).map fun i => (f.offset, i.size))).isSome = true
 | [], [], _ => ⟨rfl, rfl⟩
 | f :: r, (o, t) :: l, h => by
  simp only [Zh4, Bool.and_eq_true] at h
  obtain ⟨⟨⟨h1, h2⟩, h3⟩, h4⟩ := h
  obtain ⟨k1, k2⟩ := ZkH h4
  obtain ⟨i, hi⟩ := Option.isSome_iff_exists.1 h3
  obtain ⟨ys, hys⟩ := Option.isSome_iff_exists.1 k2
  refine ⟨by simp [k1, Nat.eq_of_beq_eq_true h1, Nat.eq_of_beq_eq_true h2], ?_⟩
  simp [List.mapM_cons, hi, hys]
 | [], _ :: _, h => by cases h
 | _ :: _, [], h => by cases h
def tdB (P : Program) : TD -> TypeDesc -> Bool
 | .sl e, .slice e' => Nat.beq e' e
 | .st l, .struct fs => Zh4 P fs.toList l
 | .ar n e, .array n' e' => Nat.beq n' n && Nat.beq e' e
 | .pt e, .pointer e' => Nat.beq e' e
 | .oth, _ => true
 | _, _ => false
def tyB : Ty -> TypeDesc -> Bool
 | .bool, .bool => true
 | .int k, .int k' => decide (k' = k)
 | .str, .string => true
 | .bool, _ => false
 | .int _, _ => false
 | .str, _ => false
 | _, _ => true
def tokB (P : Program) (t : Nat) (ti : TI) : Bool := match P.info? t, P.underlying t with
 | some info, some d => Nat.beq info.size ti.ty.sz && Nat.beq info.bytes ti.bytes && (match info.zero with
   | some v => zvB ti.ty v
   | none => false) && (aggD d == ti.ty.isAgg) && tyB ti.ty d && tdB P ti.d d
 | _, _ => false
theorem tokB_ok {P : Program} {t : Nat} {ti : TI} (h : tokB P t ti = true) : TOk P t ti := by
 unfold tokB at h
 split at h
 ·rename_i info d hi hd
  simp only [Bool.and_eq_true] at h
  obtain ⟨⟨⟨⟨⟨h1, h2⟩, h3⟩, h4⟩, h5⟩, h6⟩ := h
  refine ⟨info, d, hi, hd, Nat.eq_of_beq_eq_true h1, Nat.eq_of_beq_eq_true h2, ?_, by simpa using h4, ?_, ?_⟩
  ·split at h3
   ·rename_i v hv; rw [hv, zvB_ok h3]
   ·cases h3
  ·cases e : ti.ty <;> rw [e] at h5 <;> simp only <;> cases d <;> simp_all [tyB]
  ·cases e : ti.d with
   | sl el => rw [e] at h6; cases d <;> simp_all [tdB] <;> exact Nat.eq_of_beq_eq_true h6
   | st l =>
    rw [e] at h6
    cases d with
    | struct fs => exact ⟨fs, rfl, ZkH h6⟩
    | _ => cases h6
   | ar n el =>
    rw [e] at h6
    cases d with
    | array n' el' =>
     simp only [tdB, Bool.and_eq_true] at h6
     simp only [Nat.eq_of_beq_eq_true h6.1, Nat.eq_of_beq_eq_true h6.2]
    | _ => cases h6
   | pt el => rw [e] at h6; cases d <;> simp_all [tdB] <;> exact Nat.eq_of_beq_eq_true h6
   | oth => trivial
 ·cases h
def lookT (n : Nat) : List (Nat × TI) -> Option TI
 | [] => none
 | (k, b) :: r => bif Nat.beq k n then some b else lookT n r
def tblB (P : Program) : List (Nat × TI) -> Bool
 | [] => true
 | (k, b) :: r => tokB P k b && tblB P r
theorem ZrG {P : Program} : ∀ {l : List (Nat × TI)}, tblB P l = true -> TbOk P (fun n => lookT n l)
 | [], _, t, ti, h => by cases h
 | (k, b) :: r, hb, t, ti, h => by
  simp only [tblB, Bool.and_eq_true] at hb
  simp only [lookT] at h
  cases e : Nat.beq k t with
  | true =>
   rw [e] at h
   obtain rfl := Option.some.inj h
   rw [<- Nat.eq_of_beq_eq_true e]
   exact tokB_ok hb.1
  | false => rw [e] at h; exact ZrG hb.2 t ti h
end Go.PI
namespace Go.PI
def lookO (n : Nat) : List (Nat × Orc) -> Option Orc
 | [] => none
 | (k, b) :: r => bif Nat.beq k n then some b else lookO n r
def mkC (tb : Nat -> Option TI) (l : List (Nat × Orc)) : Ctx := { tb := tb, orc := fun n => lookO n l, eqs := fun _ => false, base := 0 }
theorem Zsq [DR] {P : Program} {tb : Nat -> Option TI} (hm : P.follows .mixedOrders = true) (h : TbOk P tb) : EnvFull P (mkC tb []) :=
 { tb := h, mixed := hm, eqs := fun _ _ e => (by cases e), orc := fun _ _ e => (by cases e) }
def Za9 (f : Func) : Code := f.body.getD .skip
theorem Zdw {f : Func} (h : f.body.isSome = true) : f.body = some (Za9 f) := by
 unfold Za9
 cases e : f.body with
 | none => rw [e] at h; cases h
 | some c => rfl
noncomputable def yes : Br (D × Mem × List Nat) -> Bool
 | .ret (d, m, _) => match Zii m [.bool] d with
  | some (false, b) => b
  | _ => false
 | .cond b x y => bif b then yes x else yes y
 | .no => false
 | .opt o k => match o with
  | some b => yes (k b)
  | none => false
 | .sum z k l => match z with
  | .inl b => yes (k b)
  | .inr b => yes (l b)
end Go.PI

namespace Go.PI
open Go.RowKit
variable {P : Program} {c : Ctx} {g : Cfg} {s st : St} {a : Act} {w : World}
def norm (base : Nat) (h : Shape) (s : St) : St := ⟨(s.shape base h).t, (s.shape base h).m, []⟩
theorem Ok.norm [DR] (hg : g.m0 = []) (hok : Ok g s a w) (base : Nat) (h : Shape) : Ok g (Go.PI.norm base h s) a w := by
 obtain ⟨μ, I, h⟩ := ZjN hok base h
 exact ⟨μ, I, { toMRel := h.toMRel, tm := h.tm, len := h.len, dfr := h.dfr, kept := fun n hn _ => absurd (by rw [hg]; rfl) hn }⟩
def round (c : Ctx) (p : Par) (h : Exit -> Shape) (a : Code) (s : St) : Br (Exit × St) := (ev c p a s).bind fun r => .ret (r.1, norm c.base (h r.1) r.2)
theorem Tri.norm [DR] {code : Code} {Q : Exit -> St -> Prop} (hg : g.m0 = []) {base : Nat} {h : Exit -> Shape} (ht : Tri P g code s fun e st => Q e (Go.PI.norm base (h e) st)) : Tri P g code s Q := by
 intro a w hok
 refine wp_mono (ht a w hok) ?_
 rintro e a' w' ⟨st, h1, h2⟩
 exact ⟨_, h1, h2.norm hg base (h e)⟩
def loopO {X : Type} (base : Nat) (h : Shape) (parse : St -> Option X) (F : X -> Br (Exit × St)) : St -> Br (Exit × St) := fun s => match parse (norm base h s) with
 | some x => F x
 | none => .no
theorem ZaL.mk [DR] (he : EnvFull P c) (hg : g.m0 = []) (p : Par) {b : Code} (hlo : ZaB P g p b) (h : Exit -> Shape) {X : Type} (S : X -> St) (m : X -> Nat) {parse : St -> Option X} (hparse : ∀ s x, parse s = some x -> s = S x) (F : X -> Br (Exit × St))
  (hr : ∀ x r, (F x).run = some r -> (∃ x', (round c p h b (S x)).run = some (.normal, S x') /\ m x' < m x /\ (F x').run = some r) \/ (r.1 ≠ .normal /\ (round c p h b (S x)).run = some r)) : ZaL P g (loopO c.base (h .normal) parse F) b := by
 intro s y st hs
 unfold loopO at hs
 split at hs
 ·rename_i x hx
  refine Tri.weaken (fun a w hok => hok.norm hg c.base (h .normal)) ?_
  refine Tri.loop (fun n s => ∃ x, s = S x /\ m x = n /\ (F x).run = some (y, st)) (n := m x) ⟨x, hparse _ _ hx, rfl, hs⟩ ?_
  rintro n s ⟨x, rfl, rfl, hF⟩
  refine Tri.norm hg (base := c.base) (h := h) ?_
  rcases hr x _ hF with ⟨x', h1, h2, h3⟩ | ⟨h1, h2⟩
  ·obtain ⟨⟨e, s1⟩, k1, k2⟩ := Br.bind_some h1
   obtain ⟨rfl, k3⟩ := Prod.mk.inj (Option.some.inj k2)
   refine (Tri.ev_ok he p b hlo k1).mono ?_
   rintro e s' ⟨rfl, rfl⟩
   exact ⟨_, h2, x', k3, rfl, h3⟩
  ·obtain ⟨⟨e, s1⟩, k1, k2⟩ := Br.bind_some h2
   obtain ⟨k0, k3⟩ := Prod.mk.inj (Option.some.inj k2)
   refine (Tri.ev_ok he p b hlo k1).mono ?_
   rintro e' s' ⟨rfl, rfl⟩
   simp only at k0 k3 h1
   subst k0 k3
   cases e' with
   | normal => exact absurd rfl h1
   | _ => exact ⟨rfl, rfl⟩
 ·cases hs
noncomputable def tru (p : Prop) : Bool := @decide p (Classical.propDecidable p)
theorem Zsi {p : Prop} : tru p = true ↔ p := by
 unfold tru
 exact @decide_eq_true_iff p (Classical.propDecidable p)
@[reducible] def CapT : List Ty -> Type
 | [] => Unit
 | τ :: r => τ.T × CapT r
def ZjU : (τs : List Ty) -> CapT τs -> List C
 | [], _ => []
 | τ :: r, x => .eref true τ [x.1] 0 0 :: ZjU r x.2
def C.one (τ : Ty) : C -> Option τ.T
 | .eref true σ [x] 0 0 => if h : σ = τ then some (h ▸ x) else none
 | _ => none
theorem C.one_ok {τ : Ty} {c : C} {x : τ.T} (h : c.one τ = some x) : c = .eref true τ [x] 0 0 := by
 unfold C.one at h
 split at h
 ·split at h
  ·rename_i e
   subst e
   obtain rfl := Option.some.inj h
   rfl
  ·cases h
 ·cases h
def Zh5 : (τs : List Ty) -> List C -> Option (CapT τs)
 | [], [] => some ()
 | τ :: r, c :: l => match c.one τ, Zh5 r l with
  | some x, some xs => some (x, xs)
  | _, _ => none
 | [], _ :: _ => none
 | _ :: _, [] => none
theorem ZjZ : ∀ {τs : List Ty} {l : List C} {x : CapT τs}, Zh5 τs l = some x -> l = ZjU τs x
 | [], [], _, _ => rfl
 | τ :: r, c :: l, x, h => by
  simp only [Zh5] at h
  split at h
  ·rename_i y ys h1 h2
   obtain rfl := Option.some.inj h
   rw [C.one_ok h1, ZjZ h2]
   rfl
  ·cases h
 | [], _ :: _, _, h => by cases h
 | _ :: _, [], _, h => by cases h
inductive Hole
 | slot (i : Nat) (b : Bool) (τ : Ty)
 | eref (i : Nat) (τ : Ty)
 | cap (i g : Nat) (τs : List Ty)
 | cell (n j : Nat) (b : Bool) (τ : Ty)
 | tv (n : Nat) (b : Bool) (τ : Ty)
 | ar (n : Nat) (b : Bool) (e : Nat) (τ : Ty)
@[reducible] def Hole.T : Hole -> Type
 | .slot _ _ τ => τ.T
 | .eref _ τ => τ.T
 | .cap _ _ τs => CapT τs
 | .cell _ _ _ τ => τ.T
 | .tv _ _ τ => τ.T
 | .ar _ _ _ τ => List τ.T
@[reducible] def Holes : List Hole -> Type
 | [] => Unit
 | h :: r => h.T × Holes r
def C.exact (b : Bool) (τ : Ty) : C -> Option τ.T
 | .ty b' σ x => if h : σ = τ then (bif b == b' then some (h ▸ x) else none) else none
 | _ => none
def Hole.read : (h : Hole) -> St -> Option h.T
 | .slot i b τ, s => match s.t.getD i (.c .bad) with
  | .c x => x.exact b τ
  | _ => none
 | .eref i τ, s => match s.t.getD i (.c .bad) with
  | .c x => x.one τ
  | _ => none
 | .cap i g τs, s => match s.t.getD i (.c .bad) with
  | .fn g' l => bif Nat.beq g' g then Zh5 τs l else none
  | _ => none
 | .cell n j b τ, s => match look n s.m with
  | some (.dv l) => (l.getD j .bad).exact b τ
  | _ => none
 | .tv n b τ, s => match look n s.m with
  | some (.tv b' σ x) => if h : σ = τ then (bif b == b' then some (h ▸ x) else none) else none
  | _ => none
 | .ar n b e τ, s => match look n s.m with
  | some (.ar b' e' σ x) => if h : σ = τ then (bif (b == b') && Nat.beq e e' then some (h ▸ x) else none) else none
  | _ => none
def Hole.put : (h : Hole) -> h.T -> St -> St
 | .slot i b τ, x, s => ⟨s.t.set i (.c (.ty b τ x)), s.m, s.k⟩
 | .eref i τ, x, s => ⟨s.t.set i (.c (.eref true τ [x] 0 0)), s.m, s.k⟩
 | .cap i g τs, x, s => ⟨s.t.set i (.fn g (ZjU τs x)), s.m, s.k⟩
 | .cell n j b τ, x, s => match look n s.m with
  | some (.dv l) => ⟨s.t, setm n (.dv (l.set j (.ty b τ x))) s.m, s.k⟩
  | _ => s
 | .tv n b τ, x, s => ⟨s.t, setm n (.tv b τ x) s.m, s.k⟩
 | .ar n b e τ, x, s => ⟨s.t, setm n (.ar b e τ x) s.m, s.k⟩
def Hole.blank : Hole -> St -> St
 | .slot i _ _, s => ⟨s.t.set i (.c .bad), s.m, s.k⟩
 | .eref i _, s => ⟨s.t.set i (.c .bad), s.m, s.k⟩
 | .cap i _ _, s => ⟨s.t.set i (.c .bad), s.m, s.k⟩
 | .cell n j _ _, s => match look n s.m with
  | some (.dv l) => ⟨s.t, setm n (.dv (l.set j .bad)) s.m, s.k⟩
  | _ => s
 | .tv n _ _, s => ⟨s.t, setm n (.dv []) s.m, s.k⟩
 | .ar n _ _ _, s => ⟨s.t, setm n (.dv []) s.m, s.k⟩
theorem C.exact_ok {b : Bool} {τ : Ty} {c : C} {x : τ.T} (h : c.exact b τ = some x) : c = .ty b τ x := by
 unfold C.exact at h
 split at h
 ·rename_i b' σ y
  split at h
  ·rename_i e
   subst e
   cases hb : b == b' with
   | false => rw [hb] at h; cases h
   | true =>
    rw [hb] at h
    obtain rfl := Option.some.inj h
    rw [beq_iff_eq.1 hb]
  ·cases h
 ·cases h
theorem Zf7 (n : Nat) (b b' : MB) : ∀ m : Mem, setm n b (setm n b' m) = setm n b m
 | [] => by simp [setm, Zay]
 | (k, x) :: r => by
  simp only [setm]
  cases hk : Nat.beq k n with
  | true => simp [setm, hk]
  | false => simp only [cond_false, setm, hk]; rw [Zf7 n b b' r]
theorem ZfP {n : Nat} {b : MB} : ∀ {m : Mem}, look n m = some b -> setm n b m = m
 | [], h => by cases h
 | (k, x) :: r, h => by
  simp only [look] at h
  simp only [setm]
  cases hk : Nat.beq k n with
  | true => rw [hk] at h; obtain rfl := Option.some.inj h; rfl
  | false => rw [hk] at h; simp only [cond_false] at h ⊢; rw [ZfP h]
theorem ZpP {s : St} {i : Nat} {d : D} (hy : s.t.getD i (.c .bad) = d) (hd : d ≠ .c .bad) : (⟨(s.t.set i (.c .bad)).set i d, s.m, s.k⟩ : St) = s := by
 have hlt : i < s.t.length := by
  by_cases hlt : i < s.t.length
  ·exact hlt
  ·rw [List.getD, List.getElem?_eq_none (Nat.not_lt.1 hlt)] at hy
   exact absurd hy.symm hd
 rw [List.set_set]
 have : s.t.set i d = s.t := by
  rw [List.getD, List.getElem?_eq_getElem hlt] at hy
  simp only [Option.getD_some] at hy
  rw [<- hy, List.set_getElem_self]
 rw [this]
theorem Hole.back {h : Hole} {s : St} {x : h.T} (hr : h.read s = some x) : h.put x (h.blank s) = s := by
 cases h with
 | slot i b τ =>
  simp only [Hole.read] at hr
  split at hr
  ·rename_i y hy
   have e := C.exact_ok hr
   subst e
   have hlt : i < s.t.length := by
    by_cases hlt : i < s.t.length
    ·exact hlt
    ·rw [List.getD, List.getElem?_eq_none (Nat.not_lt.1 hlt)] at hy
     cases hy
   show (⟨(s.t.set i (.c .bad)).set i (.c (.ty b τ x)), s.m, s.k⟩ : St) = s
   rw [List.set_set]
   have : s.t.set i (.c (.ty b τ x)) = s.t := by
    rw [List.getD, List.getElem?_eq_getElem hlt] at hy
    simp only [Option.getD_some] at hy
    rw [<- hy, List.set_getElem_self]
   rw [this]
  ·cases hr
 | eref i τ =>
  simp only [Hole.read] at hr
  split at hr
  ·rename_i y hy
   have e := C.one_ok hr
   subst e
   exact ZpP hy (fun e => by cases e)
  ·cases hr
 | cap i g τs =>
  simp only [Hole.read] at hr
  split at hr
  ·rename_i g' l hy
   cases hg : Nat.beq g' g with
   | false => rw [hg] at hr; cases hr
   | true =>
    rw [hg, cond_true] at hr
    rw [Nat.eq_of_beq_eq_true hg, ZjZ hr] at hy
    exact ZpP hy (fun e => by cases e)
  ·cases hr
 | cell n j b τ =>
  simp only [Hole.read] at hr
  split at hr
  ·rename_i l hl
   have e := C.exact_ok hr
   have hlt : j < l.length := by
    by_cases hlt : j < l.length
    ·exact hlt
    ·rw [List.getD, List.getElem?_eq_none (Nat.not_lt.1 hlt)] at e
     cases e
   simp only [Hole.blank, hl, Hole.put, ZaF]
   rw [Zf7, List.set_set]
   have : l.set j (.ty b τ x) = l := by
    rw [List.getD, List.getElem?_eq_getElem hlt] at e
    simp only [Option.getD_some] at e
    rw [<- e, List.set_getElem_self]
   rw [this, ZfP hl]
  ·cases hr
 | tv n b τ =>
  simp only [Hole.read] at hr
  split at hr
  ·rename_i b' σ y hl
   split at hr
   ·rename_i e
    subst e
    cases hb : b == b' with
    | false => rw [hb] at hr; cases hr
    | true =>
     rw [hb] at hr
     obtain rfl := Option.some.inj hr
     rw [beq_iff_eq.1 hb]
     simp only [Hole.blank, Hole.put]
     rw [Zf7, ZfP hl]
   ·cases hr
  ·cases hr
 | ar n b e τ =>
  simp only [Hole.read] at hr
  split at hr
  ·rename_i b' e' σ y hl
   split at hr
   ·rename_i e1
    subst e1
    cases hb : (b == b') && Nat.beq e e' with
    | false => rw [hb] at hr; cases hr
    | true =>
     rw [hb] at hr
     obtain rfl := Option.some.inj hr
     rw [Bool.and_eq_true] at hb
     rw [beq_iff_eq.1 hb.1, Nat.eq_of_beq_eq_true hb.2]
     simp only [Hole.blank, Hole.put]
     rw [Zf7, ZfP hl]
   ·cases hr
  ·cases hr
def fillH : (l : List Hole) -> Holes l -> St -> St
 | [], _, s => s
 | h :: r, x, s => h.put x.1 (fillH r x.2 s)
def readH : (l : List Hole) -> St -> Option (Holes l × St)
 | [], s => some ((), s)
 | h :: r, s => match h.read s with
  | some x => match readH r (h.blank s) with
   | some (xs, s) => some ((x, xs), s)
   | none => none
  | none => none
theorem ZpC : ∀ {l : List Hole} {s s' : St} {xs : Holes l}, readH l s = some (xs, s') -> s = fillH l xs s'
 | [], s, s', xs, h => by
  obtain ⟨_, rfl⟩ := Prod.mk.inj (Option.some.inj h)
  rfl
 | h :: r, s, s', xs, hr => by
  simp only [readH] at hr
  split at hr
  ·rename_i x hx
   split at hr
   ·rename_i ys s1 hy
    obtain ⟨rfl, rfl⟩ := Prod.mk.inj (Option.some.inj hr)
    simp only [fillH]
    rw [<- ZpC hy, Hole.back hx]
   ·cases hr
  ·cases hr
def C.same : C -> C -> Bool
 | .tt, .tt => true
 | .ff, .ff => true
 | .ref n i o, .ref n' i' o' => Nat.beq n n' && Nat.beq i i' && Nat.beq o o'
 | .mfull n, .mfull n' => Nat.beq n n'
 | .nils, .nils => true
 | .nilp, .nilp => true
 | .bad, .bad => true
 | _, _ => false
def Zha : List C -> List C -> Bool
 | [], [] => true
 | x :: r, y :: l => x.same y && Zha r l
 | _, _ => false
def D.same : D -> D -> Bool
 | .c x, .c y => x.same y
 | .agg x, .agg y => Zha x y
 | .tup x, .tup y => Zha x y
 | .fn f x, .fn f' y => Nat.beq f f' && Zha x y
 | _, _ => false
def Zkk : List D -> List D -> Bool
 | [], [] => true
 | x :: r, y :: l => x.same y && Zkk r l
 | _, _ => false
def Zkg : Mem -> Mem -> Bool
 | [], [] => true
 | (n, .dv x) :: r, (n', .dv y) :: l => Nat.beq n n' && Zha x y && Zkg r l
 | _, _ => false
theorem C.same_ok {x y : C} (h : x.same y = true) : x = y := by
 cases x <;> cases y <;> simp only [C.same, Bool.and_eq_true] at h <;> first | rfl | (cases h; done) | skip
 ·rw [Nat.eq_of_beq_eq_true h.1.1, Nat.eq_of_beq_eq_true h.1.2, Nat.eq_of_beq_eq_true h.2]
 ·rw [Nat.eq_of_beq_eq_true h]
theorem Zff : ∀ {x y : List C}, Zha x y = true -> x = y
 | [], [], _ => rfl
 | x :: r, y :: l, h => by
  simp only [Zha, Bool.and_eq_true] at h
  rw [C.same_ok h.1, Zff h.2]
 | [], _ :: _, h => by cases h
 | _ :: _, [], h => by cases h
theorem D.same_ok {x y : D} (h : x.same y = true) : x = y := by
 cases x <;> cases y <;> simp only [D.same, Bool.and_eq_true] at h <;> first | (cases h; done) | skip
 ·rw [C.same_ok h]
 ·rw [Zff h]
 ·rw [Zff h]
 ·rw [Nat.eq_of_beq_eq_true h.1, Zff h.2]
theorem Zpw : ∀ {x y : List D}, Zkk x y = true -> x = y
 | [], [], _ => rfl
 | x :: r, y :: l, h => by
  simp only [Zkk, Bool.and_eq_true] at h
  rw [D.same_ok h.1, Zpw h.2]
 | [], _ :: _, h => by cases h
 | _ :: _, [], h => by cases h
theorem Zog : ∀ {x y : Mem}, Zkg x y = true -> x = y
 | [], [], _ => rfl
 | (n, x) :: r, (n', y) :: l, h => by
  cases x <;> cases y <;> simp only [Zkg, Bool.and_eq_true] at h <;> first | cases h; done | skip
  rw [Nat.eq_of_beq_eq_true h.1.1, Zff h.1.2, Zog h.2]
 | [], _ :: _, h => by cases h
 | (n, x) :: _, [], h => by cases x <;> cases h
def slotsT (l : List (Nat × D)) : Nat -> Nat -> List D
 | _, 0 => []
 | i, n + 1 => (match l.find? fun p => Nat.beq p.1 i with
  | some (_, d) => d
  | none => .c .bad) :: slotsT l (i + 1) n
structure Skel where
 n : Nat
 t : List (Nat × D)
 m : List (Nat × List C)
def Skel.bare (f : Skel) : St := ⟨slotsT f.t 0 f.n, f.m.map fun p => (p.1, .dv p.2), []⟩
def Skel.fill (f : Skel) (l : List Hole) (x : Holes l) : St := fillH l x f.bare
def Skel.parse (f : Skel) (l : List Hole) (s : St) : Option (Holes l) := match readH l s with
 | some (x, s') => bif Zkk s'.t f.bare.t && Zkg s'.m f.bare.m && s'.k.isEmpty then some x else none
 | none => none
theorem Skel.parse_ok {f : Skel} {l : List Hole} {s : St} {x : Holes l} (h : f.parse l s = some x) : s = f.fill l x := by
 unfold Skel.parse at h
 split at h
 ·rename_i y s' hy
  cases hb : Zkk s'.t f.bare.t && Zkg s'.m f.bare.m && s'.k.isEmpty with
  | false => rw [hb] at h; cases h
  | true =>
   rw [hb] at h
   obtain rfl := Option.some.inj h
   simp only [Bool.and_eq_true, List.isEmpty_iff] at hb
   rw [ZpC hy]
   unfold Skel.fill
   congr 1
   obtain ⟨t, m, k⟩ := s'
   simp only at hb
   rw [Zpw hb.1.1, Zog hb.1.2, hb.2]
   rfl
 ·cases h
end Go.PI

namespace Go.PI
open Go.ChangeShapes Go.WideShapes Go.ChangeAt Go.RowKit
theorem Zhy {H : Type} {enc : TypeId × Value -> H} {P : Program} (hl : laidOutB P = true) {W W' : World} (hb : Below W.heap.size W W') {sp : Nat -> Bool} : ∀ {ts : List TypeId} {vs : List Value} {ds : List (DataW H)} {ps : List MemPlace},
  (ts.all fun t => P.readableRec t && decide (t < P.types.size)) = true -> DataW.TrodAll enc P W 0 (fun _ => true) true ts vs ds ps -> (∀ x ∈ ps, x.block < W.heap.size) -> (∀ x ∈ ps, sp x.block = true) -> DataW.TrodAll enc P W' 0 sp true ts vs ds ps
 | [], [], [], _, _, h, _, _ => h
 | t :: ts, v :: vs, d :: ds, _, hr, ⟨p, q, h1, h2, e⟩, hlt, hsp => by
  subst e
  simp only [List.all_cons, Bool.and_eq_true, decide_eq_true_eq] at hr
  exact ⟨p, q, WideElems.Trod_stays hl hr.1.1 hr.1.2 h1 (fun x hx => hb.same (hlt x (List.mem_append.2 (.inl hx)))) (fun x hx => hsp x (List.mem_append.2 (.inl hx))),
   Zhy hl hb hr.2 h2 (fun x hx => hlt x (List.mem_append.2 (.inr hx))) (fun x hx => hsp x (List.mem_append.2 (.inr hx))), rfl⟩
theorem law_post {H : Type} {enc : TypeId × Value -> H} {P : Program} {f : Func} {s : ChangeSpec} {W W' : World} {args : Array Value} {ds gs : List (DataW H)} {before : List MemPlace} {tb : TypeId}
  (hl : laidOutB P = true) (hr : (f.params.toList.all fun t => P.readableRec t && decide (t < P.types.size)) = true) (hb : P.underlying tb = some .bool) (ht : f.resultTypes = #[tb]) (hv : s.vars = [])
  (hW : DataW.Whole enc P f.params.toList s.vars false W args.toList ds gs before) (hA : DataW.TrodAll enc P W 0 (fun _ => true) true f.params.toList args.toList ds before)
  (hfn : s.fn H (ds ++ gs) = { results := [.lit (.bool true)], args := ds }) (hB : Below W.heap.size W W') :
  s.post enc P f false true false false W args (.bool true) W' := by
 have hold : ∀ x ∈ before, x.block < W.heap.size := fun x hx => by simpa using hW.lt x hx
 refine ⟨ds, gs, before, [], before, [], hW, ?_, ?_, ?_, hB.frame _, fun e => by cases e⟩
 ·rw [ht, hfn]
  exact trodAll_mk1 (shut_bool hb true)
 ·rw [hfn]
  exact Zhy hl hB hr hA hold (fun x hx => by simpa using hold x hx)
 ·rw [hfn, hv]
  exact rfl
end Go.PI

namespace Go.PI
open Go.ChangeShapes Go.WideShapes Go.ChangeAt Go.RowKit
theorem add_plain' (b o i : Nat) : (⟨b, o, none⟩ : Addr).add i = ⟨b, o + i, none⟩ := by simp [Addr.add]
theorem cell_lt {w : World} {a : Addr} {v : Value} (h : w.cell? a = some v) : a.block < w.heap.size := by
 unfold World.cell? at h
 split at h
 ·rename_i hb
  obtain ⟨h1, _⟩ := Array.getElem?_eq_some_iff.1 hb
  exact h1
 ·cases h
end Go.PI

namespace Go.PI
open Go.RowKit
variable {P : Program} {I : Nat -> Prop} {w : World}
def ZaT : (τ : Ty) -> τ.T -> List Lit
 | .bool, b => [.bool b]
 | .int k, n => [.int k n]
 | .str, s => [.string s.data.toList]
 | .pair a b, x => ZaT a x.1 ++ ZaT b x.2
 | .st a, x => ZaT a x
 | .arr _ a, xs => xs.flatMap (ZaT a)
 | _, _ => []
def litN : Ty -> Nat
 | .bool => 1
 | .int _ => 1
 | .str => 1
 | .pair a b => litN a + litN b
 | .st a => litN a
 | .arr n a => n * litN a
 | _ => 0
def ZaC (P : Program) (kl : Nat -> Ty -> Bool) : List Field -> Nat -> Ty -> Bool
 | [], _, _ => false
 | [f], o, a => (match a with | .pair _ _ => false | _ => true) && Nat.beq f.offset o && kl f.type a && Nat.beq (P.cellsOf f.type) a.sz
 | f :: r, o, .pair a b => Nat.beq f.offset o && kl f.type a && Nat.beq (P.cellsOf f.type) a.sz && ZaC P kl r (o + a.sz) b
 | _, _, _ => false
def klB (P : Program) : Nat -> Nat -> Ty -> Bool
 | 0, _, _ => false
 | D + 1, t, τ => match P.underlying t, τ with
  | some .bool, .bool => true
  | some (.int q), .int k => decide (q = k)
  | some .string, .str => true
  | some (.array n e), .arr n' a => Nat.beq n n' && klB P D e a && Nat.beq (P.cellsOf e) a.sz && Nat.beq (P.cellsOf t) (n * a.sz)
  | some (.struct fs), .st a => (fs.all (·.name != "_")) && Nat.beq (P.cellsOf t) a.sz && ZaC P (klB P D) fs.toList 0 a
  | _, _ => false
theorem Zp1 {τ : Ty} : ∀ {x : τ.T} {cs : List Value}, K I w τ x cs -> (ZaT τ x).length = litN τ := by
 induction τ with
 | pair a b iha ihb =>
  rintro x cs ⟨c1, c2, rfl, h1, h2⟩
  show (ZaT a x.1 ++ ZaT b x.2).length = _
  rw [List.length_append, iha h1, ihb h2]; rfl
 | st a ih => intro x cs h; exact ih (x := x) h
 | arr n a ih =>
  rintro xs cs ⟨hn, h1, h2⟩
  show (List.flatMap (ZaT a) xs).length = n * litN a
  rw [<- hn]
  have : ∀ l : List a.T, (∀ x ∈ l, (ZaT a x).length = litN a) -> (l.flatMap (ZaT a)).length = l.length * litN a := by
   intro l
   induction l with
   | nil => intro _; simp
   | cons x r ih2 =>
    intro hl
    rw [List.flatMap_cons, List.length_append, hl x List.mem_cons_self, ih2 fun y hy => hl y (List.mem_cons_of_mem _ hy), List.length_cons, Nat.succ_mul, Nat.add_comm]
  refine this xs fun x hx => ?_
  obtain ⟨i, hi⟩ := List.getElem?_of_mem hx
  exact ih (h2 i x hi)
 | _ => intro x cs h; rfl
theorem ZiC {D : Nat} {kl : Nat -> Ty -> Bool} (hkl : ∀ t τ (x : τ.T) cs, kl t τ = true -> K I w τ x cs -> P.keyLits D t cs = some (ZaT τ x)) : ∀ {fs : List Field} {o : Nat} {τ : Ty} {x : τ.T} {cs : List Value} (all : List Value), ZaC P kl fs o τ = true -> K I w τ x cs -> all.drop o = cs ->
  (fs.mapM fun f => P.keyLits D f.type ((all.drop f.offset).take (P.cellsOf f.type))).map List.flatten = some (ZaT τ x)
 | [], _, _, _, _, _, h, _, _ => by cases h
 | [f], o, τ, x, cs, all, h, hk, e => by
  have h' : Nat.beq f.offset o = true /\ kl f.type τ = true /\ Nat.beq (P.cellsOf f.type) τ.sz = true := by
   unfold ZaC at h
   simp only [Bool.and_eq_true] at h
   exact ⟨h.1.1.2, h.1.2, h.2⟩
  obtain ⟨h1, h2, h3⟩ := h'
  have hl := K.length hk
  rw [List.mapM_cons, List.mapM_nil, Nat.eq_of_beq_eq_true h1, Nat.eq_of_beq_eq_true h3, e, <- hl, List.take_length, hkl _ _ _ _ h2 hk]
  simp
 | f :: f2 :: r, o, .pair a b, x, cs, all, h, ⟨c1, c2, hc, hk1, hk2⟩, e => by
  simp only [ZaC, Bool.and_eq_true] at h
  obtain ⟨⟨⟨h1, h2⟩, h3⟩, h4⟩ := h
  have hl := K.length hk1
  have e2 : all.drop (o + a.sz) = c2 := by rw [<- List.drop_drop, e, hc, <- hl, List.drop_left]
  have ih := ZiC hkl (fs := f2 :: r) all h4 hk2 e2
  rw [List.mapM_cons, Nat.eq_of_beq_eq_true h1, Nat.eq_of_beq_eq_true h3, e, hc, <- hl, List.take_left, hkl _ _ _ _ h2 hk1]
  obtain ⟨L, hL, hf⟩ := Option.map_eq_some_iff.1 ih
  rw [hL]
  show some (ZaT a x.1 ++ L.flatten) = _
  rw [hf]; rfl
 | f :: f2 :: r, o, .unit, _, _, _, h, _, _ => by simp [ZaC] at h
 | f :: f2 :: r, o, .bool, _, _, _, h, _, _ => by simp [ZaC] at h
 | f :: f2 :: r, o, .int _, _, _, _, h, _, _ => by simp [ZaC] at h
 | f :: f2 :: r, o, .str, _, _, _, h, _, _ => by simp [ZaC] at h
 | f :: f2 :: r, o, .st _, _, _, _, h, _, _ => by simp [ZaC] at h
 | f :: f2 :: r, o, .arr _ _, _, _, _, h, _, _ => by simp [ZaC] at h
 | f :: f2 :: r, o, .sl _, _, _, _, h, _, _ => by simp [ZaC] at h
 | f :: f2 :: r, o, .ptr _, _, _, _, h, _, _ => by simp [ZaC] at h
 | f :: f2 :: r, o, .chain _, _, _, _, h, _, _ => by simp [ZaC] at h
theorem ZsZ {α β : Type} (g : α -> β) : ∀ (xs : List α) (f : Nat -> Option β), (∀ i x, xs[i]? = some x -> f i = some (g x)) -> (List.range xs.length).mapM f = some (xs.map g)
 | [], f, _ => rfl
 | x :: xs, f, h => by
  rw [List.length_cons, List.range_succ_eq_map, List.mapM_cons, h 0 x rfl]
  have ih := ZsZ g xs (fun i => f (i + 1)) fun i y hy => h (i + 1) y (by simpa using hy)
  have e : ((List.range xs.length).map Nat.succ).mapM f = (List.range xs.length).mapM fun i => f (i + 1) := by
   generalize List.range xs.length = l
   induction l with
   | nil => rfl
   | cons a l ih => rw [List.map_cons, List.mapM_cons, List.mapM_cons, ih]
  rw [e, ih]
  rfl
theorem Zia : ∀ (D t : Nat) (τ : Ty) (x : τ.T) (cs : List Value), klB P D t τ = true -> K I w τ x cs -> P.keyLits D t cs = some (ZaT τ x)
 | 0, _, _, _, _, h, _ => by cases h
 | D + 1, t, τ, x, cs, h, hk => by
  unfold klB at h
  unfold Program.keyLits
  cases hu : P.underlying t with
  | none => rw [hu] at h; cases τ <;> cases h
  | some k =>
   rw [hu] at h
   cases k <;> cases τ <;> first | (cases h; done) | skip
   ·rw [show cs = [_] from hk]; rfl
   ·obtain ⟨rfl, hk2⟩ := hk
    obtain rfl := of_decide_eq_true h
    simp only
    rw [if_pos ⟨trivial, by simpa [Lit.wf, InK] using hk2⟩]; rfl
   ·obtain ⟨rfl, hk2⟩ := hk
    simp only
    rw [if_pos (by simpa [maxLen] using hk2)]; rfl
   ·rename_i n e n' a
    simp only [Bool.and_eq_true] at h
    obtain ⟨⟨⟨h1, h2⟩, h3⟩, h4⟩ := h
    obtain rfl := Nat.eq_of_beq_eq_true h1
    obtain ⟨hn, hl, hr⟩ := hk
    have hl' : cs.length = P.cellsOf t := by rw [hl, hn, Nat.eq_of_beq_eq_true h4]
    simp only
    rw [if_pos hl', Nat.eq_of_beq_eq_true h3]
    have := ZsZ (ZaT a) x (fun i => P.keyLits D e ((cs.drop (i * a.sz)).take a.sz)) fun i y hy => Zia D e a y _ h2 (hr i y hy)
    rw [<- hn, this]
    show some (List.flatten (List.map (ZaT a) x)) = some (List.flatMap (ZaT a) x)
    rw [List.flatMap_def]
   ·rename_i fs a
    simp only [Bool.and_eq_true] at h
    obtain ⟨⟨h1, h2⟩, h3⟩ := h
    have hl : cs.length = P.cellsOf t := by rw [K.length hk, Nat.eq_of_beq_eq_true h2]; rfl
    simp only
    rw [if_pos ⟨hl, h1⟩]
    exact ZiC (kl := klB P D) (fun t τ x cs h k => Zia D t τ x cs h k) (fs := fs.toList) cs h3 (τ := a) (x := x) hk (by simp)
theorem beq_ok : ∀ {τ : Ty} {x y : τ.T} {cs ds : List Value} {r : Bool}, K I w τ x cs -> K I w τ y ds -> beqT τ x y = some r -> (r = true ↔ ZaT τ x = ZaT τ y) := by
 intro τ
 induction τ with
 | unit => intro x y cs ds r _ _ h; obtain rfl := Option.some.inj h; simp [ZaT]
 | bool => intro x y cs ds r _ _ h; obtain rfl := Option.some.inj h; simp [ZaT]
 | int k => intro x y cs ds r _ _ h; obtain rfl := Option.some.inj h; simp [ZaT]
 | str => intro x y cs ds r _ _ h; obtain rfl := Option.some.inj h; simp [ZaT, bl]
 | pair a b iha ihb =>
  rintro x y cs ds r ⟨c1, c2, rfl, h1, h2⟩ ⟨d1, d2, rfl, h3, h4⟩ h
  simp only [beqT] at h
  split at h
  ·rename_i p q hp hq
   obtain rfl := Option.some.inj h
   have ea := iha h1 h3 hp
   have eb := ihb h2 h4 hq
   show _ ↔ ZaT a x.1 ++ ZaT b x.2 = ZaT a y.1 ++ ZaT b y.2
   rw [Bool.and_eq_true, ea, eb]
   constructor
   ·rintro ⟨e1, e2⟩; rw [e1, e2]
   ·intro e
    exact List.append_inj e (by rw [Zp1 h1, Zp1 h3])
  ·cases h
 | st a ih => intro x y cs ds r h1 h2 h; exact ih (x := x) (y := y) h1 h2 h
 | arr n a ih =>
  intro x y cs ds r h1 h2 h
  cases a with
  | int k =>
   simp only [beqT, Option.some.injEq] at h
   subst h
   rw [decide_eq_true_eq]
   show x = y ↔ List.flatMap (fun m => [Lit.int k m]) x = List.flatMap (fun m => [Lit.int k m]) y
   have e : ∀ l : List Int, List.flatMap (fun m => [Lit.int k m]) l = l.map (Lit.int k) := by
    intro l
    induction l with
    | nil => rfl
    | cons a l ih => rw [List.flatMap_cons, ih]; rfl
   rw [e, e]
   refine ⟨fun h => by rw [h], fun h => ?_⟩
   have := congrArg (List.map fun l : Lit => match l with | .int _ n => n | _ => 0) h
   simpa [List.map_map, Function.comp_def] using this
  | _ => simp [beqT] at h
 | _ => intro x y cs ds r _ _ h; simp [beqT] at h
def eqB (P : Program) (t : Nat) (τ : Ty) : Bool := klB P 50 t τ && P.keyTypeAt 50 t && (match P.underlying t with | some (.struct _) => true | _ => false) && Nat.beq (P.cellsOf t) τ.sz && !(P.eqGuardType P.depth t)
theorem eqB_ok {t : Nat} {τ : Ty} (h : eqB P t τ = true) : EqHyp P t τ := by
 simp only [eqB, Bool.and_eq_true, Bool.not_eq_true'] at h
 obtain ⟨⟨⟨⟨h1, h2⟩, h3⟩, h4⟩, h5⟩ := h
 intro J J' w x y cs ds r hx hy hr
 refine ⟨?_, h5⟩
 have hx' : K (fun b => J b \/ J' b) w τ x cs := hx.mono (fun b k => .inl k) (Zaa _ _)
 have hy' : K (fun b => J b \/ J' b) w τ y ds := hy.mono (fun b k => .inr k) (Zaa _ _)
 have hiff := beq_ok hx' hy' hr
 have formed : ∀ {z : τ.T} {cs : List Value}, K (fun b => J b \/ J' b) w τ z cs -> (Value.agg cs.toArray).formed P t = true := by
  intro z cs hz
  have hl := K.length hz
  unfold Value.formed
  cases hu : P.underlying t with
  | none => rw [hu] at h3; cases h3
  | some k =>
   rw [hu] at h3
   cases k <;> first | (cases h3; done) | skip
   simp [hl, Nat.eq_of_beq_eq_true h4]
 obtain ⟨r', hr', hiff'⟩ := run_equalIn_deep (9950) 50 t h2 w 50 50 (.agg cs.toArray) (.agg ds.toArray) (ZaT τ x) (ZaT τ y) (formed hx') (formed hy') (by simpa [Value.cells] using Zia 50 t τ x cs h1 hx') (by simpa [Value.cells] using Zia 50 t τ y ds h1 hy')
 have : r' = r := by rw [Bool.eq_iff_iff, hiff', hiff]
 rw [<- this]
 exact hr'
def eqsB (P : Program) (tb : Nat -> Option TI) (E : List Nat) : Bool := E.all fun t => match tb t with
 | some ti => eqB P t ti.ty
 | none => true
def withE (c : Ctx) (E : List Nat) : Ctx := { c with eqs := fun t => memb t E }
theorem env_E [DR] {c : Ctx} {E : List Nat} (h : EnvFull P c) (hE : eqsB P c.tb E = true) : EnvFull P (withE c E) :=
 { tb := h.tb, mixed := h.mixed, orc := h.orc, eqs := fun t ti ht hti => by
     have hm : t ∈ E := Zah.1 ht
     have := List.all_eq_true.1 hE t hm
     have hti : c.tb t = some ti := hti
     rw [hti] at this
     exact eqB_ok this }
def Zba (c : Ctx) (f : Nat) (o : Orc) : Ctx := { c with orc := fun n => bif Nat.beq f n then some o else c.orc n }
theorem Zas [DR] {c : Ctx} {f : Nat} {o : Orc} (h : EnvFull P c) (ho : Zbp P f o) : EnvFull P (Zba c f o) :=
 { tb := h.tb, mixed := h.mixed, eqs := h.eqs, orc := fun k o' e => by
     have e : (bif Nat.beq f k then some o else c.orc k) = some o' := e
     cases hk : Nat.beq f k with
     | true =>
      rw [hk] at e
      obtain rfl := Option.some.inj e
      rw [<- Nat.eq_of_beq_eq_true hk]
      exact ho
     | false => rw [hk] at e; exact h.orc k o' e }
theorem Zcy [DR] {c : Ctx} (h : EnvFull P c) (b : Nat) : EnvFull P { c with base := b } := { tb := h.tb, mixed := h.mixed, eqs := h.eqs, orc := h.orc }
end Go.PI

namespace Go.PI
def Zfm (n : Nat) (c : Code) : Code := (Zbm c).getD n .skip
def only (n i : Nat) (x : C) : St := (⟨n, [(i, .c x)], []⟩ : Skel).bare
theorem wrap_small {x : Int} (h1 : -9223372036854775808 <= x) (h2 : x <= 9223372036854775807) : IntKind.wrap .i64 x = x := by
 simp [IntKind.wrap, IntKind.signed, IntKind.bits]
 omega
theorem cond_ret {α : Type} (b : Bool) (r : α) : (Br.cond b (.ret r) .no).run = if b = true then some r else none := by cases b <;> rfl
theorem ZaB.one [DR] {P : Program} {g : Cfg} {p : Par} {code a : Code} (hl : Zbm code = [a]) (h : ∀ o, ZdP p a = some o -> ZaL P g o a) : ZaB P g p code := by
 intro x hx
 rw [hl] at hx
 obtain rfl := List.mem_singleton.1 hx
 exact h
theorem ZaL.of [DR] {P : Program} {g : Cfg} {p : Par} {a : Code} {o o' : St -> Br (Exit × St)} (h : ZaL P g o a) (e : ZdP p a = some o) (e' : ZdP p a = some o') : ZaL P g o' a := by
 rw [e] at e'
 obtain rfl := Option.some.inj e'
 exact h
theorem ZaL.none [DR] {P : Program} {g : Cfg} {p : Par} {a : Code} {o' : St -> Br (Exit × St)} (e : ZdP p a = .none) (e' : ZdP p a = some o') : ZaL P g o' a := by
 rw [e] at e'; cases e'
abbrev i64 : Ty := .int .i64
end Go.PI

namespace Go.PI
open Go.RowKit
variable {P : Program} {c : Ctx} {g : Cfg} {s st : St} {a : Act} {w : World} {kp : List Nat}
def atO (nm0 : Nat) (sk : Skel) (hs : List Hole) (F : Holes hs -> Br (D × Mem × List Nat)) : Orc := fun nm args m =>
 match (bif Nat.beq nm nm0 then sk.parse hs ⟨args, m, []⟩ else none) with
 | some x => F x
 | none => .no
theorem Zbp.at [DR] (he : EnvFull P c) {f : Nat} {fn : Func} {code : Code} (hf : P.funcs[f]? = some fn) (hn : (fn.name == "runtime.NumGoroutine") = false) (hb : fn.body = some code) {nm0 : Nat} {sk : Skel} {hs : List Hole} {F : Holes hs -> Br (D × Mem × List Nat)} {p : Par} (kp : List Nat)
  (hlo : ∀ g, (∀ n, look n g.m0 ≠ Option.none -> n ∈ kp) -> ZaB P g p code) (hkp : ∀ x n, look n (sk.fill hs x).m ≠ Option.none -> n ∈ kp)
  (hrun : ∀ x r, (F x).run = some r -> (Go.PI.inl c p fn code nm0 (sk.fill hs x).t (sk.fill hs x).m).run = some r) : Zbp P f (atO nm0 sk hs F) := by
 refine ⟨⟨fn, hf, hn, by rw [hb]; rfl⟩, fun w μ I m nm args vs d m' ks hm ha hr => ?_⟩
 unfold atO at hr
 split at hr
 ·rename_i x hx
  cases hnm : Nat.beq nm nm0 with
  | false => rw [hnm] at hx; cases hx
  | true =>
   rw [hnm] at hx
   have e := Skel.parse_ok (s := ⟨args, m, []⟩) hx
   have e1 : args = (sk.fill hs x).t := congrArg St.t e
   have e2 : m = (sk.fill hs x).m := congrArg St.m e
   have e3 := Nat.eq_of_beq_eq_true hnm
   have h := hrun x _ hr
   rw [<- e1, <- e2, <- e3] at h
   exact Zdr he hf hb hm ha (hlo _ fun n hn => hkp x n (by
    have hn : look n m ≠ Option.none := hn
    rw [<- e2]; exact hn)) h
 ·cases hr
section
open Classical
variable {X Z : Type} [Inhabited Z]
def ZeH (step : X -> X ⊕ Z) : Nat -> X -> Z
 | 0, _ => default
 | k + 1, x => match step x with
  | .inl x' => ZeH step k x'
  | .inr z => z
theorem runE_ok {step : X -> X ⊕ Z} {m : X -> Nat} {Inv : X -> Prop} {Q : Z -> Prop} (h1 : ∀ x x', Inv x -> step x = .inl x' -> m x' < m x /\ Inv x') (h2 : ∀ x z, Inv x -> step x = .inr z -> Q z) : ∀ (n : Nat) (x : X), m x <= n -> Inv x -> ∀ k k', m x < k -> m x < k' -> ZeH step k x = ZeH step k' x /\ Q (ZeH step k x) := by
 intro n
 induction n with
 | zero =>
  intro x hx hi k k' hk hk'
  obtain ⟨k, rfl⟩ : ∃ j, k = j + 1 := ⟨k - 1, by omega⟩
  obtain ⟨k', rfl⟩ : ∃ j, k' = j + 1 := ⟨k' - 1, by omega⟩
  simp only [ZeH]
  cases hs : step x with
  | inl x' => have := (h1 x x' hi hs).1; omega
  | inr z => exact ⟨rfl, h2 x z hi hs⟩
 | succ n ih =>
  intro x hx hi k k' hk hk'
  obtain ⟨k, rfl⟩ : ∃ j, k = j + 1 := ⟨k - 1, by omega⟩
  obtain ⟨k', rfl⟩ : ∃ j, k' = j + 1 := ⟨k' - 1, by omega⟩
  simp only [ZeH]
  cases hs : step x with
  | inl x' =>
   obtain ⟨k1, k2⟩ := h1 x x' hi hs
   exact ih x' (by omega) k2 k k' (by omega) (by omega)
  | inr z => exact ⟨rfl, h2 x z hi hs⟩
theorem ZaL.ex [DR] (he : EnvFull P c) (p : Par) {b : Code} (hlo : ∀ g, g.m0 = [] -> ZaB P g p b) (h : Exit -> Shape) (S : X -> St) (m : X -> Nat) {parse : St -> Option X} (hparse : ∀ s x, parse s = some x -> s = S x) (Inv : X -> Prop) (Q : Z -> Prop) (y0 : Exit) (hy0 : y0 ≠ .normal) (T : Z -> St)
  (hr : ∀ x, Inv x -> (∃ x', (round c p h b (S x)).run = some (.normal, S x') /\ m x' < m x /\ Inv x') \/ (∃ z, (round c p h b (S x)).run = some (y0, T z) /\ Q z)) :
  ∃ E : X -> Z, (∀ x, Inv x -> Q (E x)) /\ ∀ g, g.m0 = [] -> ZaL P g (loopO c.base (h .normal) parse fun x => .cond (tru (Inv x)) (.ret (y0, T (E x))) .no) b := by
 let step : X -> X ⊕ Z := fun x => if h1 : ∃ x', (round c p h b (S x)).run = some (.normal, S x') /\ m x' < m x /\ Inv x' then .inl (Classical.choose h1) else if h2 : ∃ z, (round c p h b (S x)).run = some (y0, T z) /\ Q z then .inr (Classical.choose h2) else .inr default
 have s1 : ∀ x x', step x = .inl x' -> (round c p h b (S x)).run = some (.normal, S x') /\ m x' < m x /\ Inv x' := by
  intro x x' hs
  simp only [step] at hs
  split at hs
  ·rename_i h1
   rw [<- Sum.inl.inj hs]
   exact Classical.choose_spec h1
  ·split at hs <;> cases hs
 have s2 : ∀ x z, Inv x -> step x = .inr z -> (round c p h b (S x)).run = some (y0, T z) /\ Q z := by
  intro x z hi hs
  simp only [step] at hs
  split at hs
  ·cases hs
  ·rename_i h1
   split at hs
   ·rename_i h2
    rw [<- Sum.inr.inj hs]
    exact Classical.choose_spec h2
   ·rename_i h2
    rcases hr x hi with k | k
    ·exact absurd k h1
    ·exact absurd k h2
 have key := runE_ok (step := step) (m := m) (Inv := Inv) (Q := Q) (fun x x' hi hs => (s1 x x' hs).2) (fun x z hi hs => (s2 x z hi hs).2)
 refine ⟨fun x => ZeH step (m x + 1) x, fun x hi => (key (m x) x (Nat.le_refl _) hi (m x + 1) (m x + 1) (by omega) (by omega)).2, fun g hg => ?_⟩
 refine ZaL.mk he hg p (hlo g hg) h S m hparse _ fun x r hF => ?_
 simp only [cond_ret] at hF ⊢
 split at hF
 ·rename_i hi
  have hi := Zsi.1 hi
  obtain rfl := Option.some.inj hF
  cases hs : step x with
  | inl x' =>
   left
   obtain ⟨k1, k2, k3⟩ := s1 x x' hs
   refine ⟨x', k1, k2, ?_⟩
   rw [if_pos (Zsi.2 k3)]
   have e : ZeH step (m x + 1) x = ZeH step (m x) x' := by simp only [ZeH, hs]
   rw [e, (key (m x') x' (Nat.le_refl _) k3 (m x) (m x' + 1) (by omega) (by omega)).1]
  | inr z =>
   right
   have e : ZeH step (m x + 1) x = z := by simp only [ZeH, hs]
   rw [e]
   exact ⟨hy0, (s2 x z hi hs).1⟩
 ·cases hF
end
end Go.PI

namespace Go.PI
open Go.ChangeShapes Go.WideShapes Go.ChangeAt Go.RowKit
variable {H : Type} {enc : TypeId × Value -> H} {P : Program} {W : World}
def rdB (P : Program) : Nat -> Nat -> Ty -> Bool
 | 0, _, _ => false
 | D + 1, t, τ => match P.underlying t, τ with
  | some .bool, .bool => true
  | some (.int q), .int k => decide (q = k)
  | some .string, .str => true
  | some (.array n e), .arr n' a => Nat.beq n n' && rdB P D e a && Nat.beq (P.cellsOf e) a.sz && Nat.beq (P.cellsOf t) (n * a.sz)
  | some (.struct fs), .st a => Nat.beq (P.cellsOf t) a.sz && ZaC P (rdB P D) fs.toList 0 a
  | some (.slice e), .sl a => rdB P D e a && Nat.beq (P.cellsOf e) a.sz && Nat.ble 1 a.sz
  | _, _ => false
abbrev J (W : World) : Nat -> Prop := fun b => b < W.heap.size
abbrev readW (enc : TypeId × Value -> H) (P : Program) (W : World) := DataW.trod enc P W 0 (fun _ => true) true
theorem Zjd {n : Nat} {kl : Nat -> Ty -> Bool} (hkl : ∀ t τ cs x, kl t τ = true -> readW enc P W n t cs = some x -> ∃ y : τ.T, K (J W) W τ y cs) (all : List Value) : ∀ (fs : List Field) (o : Nat) (τ : Ty), ZaC P kl fs o τ = true -> (all.drop o).length = τ.sz ->
  (∀ f ∈ fs, ∃ x, readW enc P W n f.type ((all.drop f.offset).take (P.cellsOf f.type)) = some x) -> ∃ y : τ.T, K (J W) W τ y (all.drop o)
 | [], _, _, h, _, _ => by cases h
 | [f], o, τ, h, hl, hf => by
  have h' : Nat.beq f.offset o = true /\ kl f.type τ = true /\ Nat.beq (P.cellsOf f.type) τ.sz = true := by
   unfold ZaC at h
   simp only [Bool.and_eq_true] at h
   exact ⟨h.1.1.2, h.1.2, h.2⟩
  obtain ⟨h1, h2, h3⟩ := h'
  obtain ⟨x, hx⟩ := hf f List.mem_cons_self
  rw [Nat.eq_of_beq_eq_true h1, Nat.eq_of_beq_eq_true h3, <- hl, List.take_length] at hx
  exact hkl _ _ _ _ h2 hx
 | f :: f2 :: r, o, .pair a b, h, hl, hf => by
  simp only [ZaC, Bool.and_eq_true] at h
  obtain ⟨⟨⟨h1, h2⟩, h3⟩, h4⟩ := h
  obtain ⟨x, hx⟩ := hf f List.mem_cons_self
  rw [Nat.eq_of_beq_eq_true h1, Nat.eq_of_beq_eq_true h3] at hx
  obtain ⟨y1, k1⟩ := hkl _ _ _ _ h2 hx
  have hl' : (all.drop (o + a.sz)).length = b.sz := by
   rw [<- List.drop_drop, List.length_drop, hl]
   show a.sz + b.sz - a.sz = b.sz
   omega
  obtain ⟨y2, k2⟩ := Zjd hkl all (f2 :: r) (o + a.sz) b h4 hl' fun g hg => hf g (List.mem_cons_of_mem _ hg)
  refine ⟨(y1, y2), _, _, ?_, k1, k2⟩
  rw [<- List.drop_drop, List.take_append_drop]
 | f :: f2 :: r, o, .unit, h, _, _ => by simp [ZaC] at h
 | f :: f2 :: r, o, .bool, h, _, _ => by simp [ZaC] at h
 | f :: f2 :: r, o, .int _, h, _, _ => by simp [ZaC] at h
 | f :: f2 :: r, o, .str, h, _, _ => by simp [ZaC] at h
 | f :: f2 :: r, o, .st _, h, _, _ => by simp [ZaC] at h
 | f :: f2 :: r, o, .arr _ _, h, _, _ => by simp [ZaC] at h
 | f :: f2 :: r, o, .sl _, h, _, _ => by simp [ZaC] at h
 | f :: f2 :: r, o, .ptr _, h, _, _ => by simp [ZaC] at h
 | f :: f2 :: r, o, .chain _, h, _, _ => by simp [ZaC] at h
theorem ZlR {α : Type} (Q : Nat -> α -> Prop) : ∀ n : Nat, (∀ i, i < n -> ∃ y, Q i y) -> ∃ ys : List α, ys.length = n /\ ∀ i y, ys[i]? = some y -> Q i y
 | 0, _ => ⟨[], rfl, fun i y h => by simp at h⟩
 | n + 1, h => by
  obtain ⟨ys, h1, h2⟩ := ZlR Q n fun i hi => h i (by omega)
  obtain ⟨y, hy⟩ := h n (by omega)
  refine ⟨ys ++ [y], by simp [h1], fun i z hz => ?_⟩
  by_cases hi : i < ys.length
  ·rw [List.getElem?_append_left hi] at hz
   exact h2 i z hz
  ·rw [List.getElem?_append_right (by omega)] at hz
   have e : i - ys.length = 0 := by
    have := (List.getElem?_eq_some_iff.1 hz).1
    simp at this
    omega
   rw [e] at hz
   simp only [List.getElem?_cons_zero, Option.some.injEq] at hz
   subst hz
   rwa [show i = n by omega]
theorem Zsy (a : Addr) (i j : Nat) : (a.add i).add j = a.add (i + j) := by
 by_cases hi : i = 0 <;> by_cases hj : j = 0 <;> simp [Addr.add, hi, hj, Nat.add_assoc]
theorem Zfw : ∀ (D : Nat) (t : Nat) (τ : Ty) (fuel : Nat) (cs : List Value) (x : DataW H × List MemPlace), rdB P D t τ = true -> readW enc P W fuel t cs = some x -> ∃ y : τ.T, K (J W) W τ y cs
 | 0, _, _, _, _, _, h, _ => by cases h
 | D + 1, t, τ, fuel, cs, x, h, hx => by
  unfold rdB at h
  cases hu : P.underlying t with
  | none => rw [hu] at h; cases τ <;> cases h
  | some k =>
   rw [hu] at h
   cases k <;> cases τ <;> first | (cases h; done) | skip
   ·obtain ⟨b, rfl, _⟩ := DataW.trod_bool hu hx
    exact ⟨b, rfl⟩
   ·rename_i q k
    obtain rfl := of_decide_eq_true h
    obtain ⟨n, rfl, _, hw⟩ := DataW.trod_int hu hx
    exact ⟨n, rfl, by simpa [Lit.wf, InK] using hw⟩
   ·obtain ⟨s, rfl, _, hs⟩ := DataW.trod_string hu hx
    exact ⟨s, rfl, by simpa [maxLen] using hs⟩
   ·rename_i e a
    simp only [Bool.and_eq_true] at h
    obtain ⟨⟨h1, h2⟩, h3⟩ := h
    have hz := Nat.eq_of_beq_eq_true h2
    have hpos : 1 <= a.sz := Nat.le_of_ble_eq_true h3
    rcases DataW.trod_slice hu hx with ⟨rfl, _⟩ | ⟨ad, len, cap, elems, rest, n, _, rfl, _, _, hl, hm, hlen, hel, _⟩
    ·exact ⟨[], none, 0, rfl, Nat.le_refl _, Nat.zero_le _, fun h => absurd rfl h⟩
    ·have each : ∀ i, i < len -> ∃ ci, W.cells? 0 (ad.add (i * a.sz)) a.sz = some ci /\ ∃ y : a.T, K (J W) W a y ci := by
      intro i hi
      have := hel i hi
      rw [hz] at this
      cases hc : W.cells? 0 (ad.add (i * a.sz)) a.sz with
      | none =>
       rw [hc] at this
       have : elems[i]? = none := this.symm
       rw [List.getElem?_eq_none_iff] at this
       omega
      | some ci =>
       rw [hc] at this
       have hi' : i < elems.length := by omega
       rw [List.getElem?_eq_getElem hi'] at this
       obtain ⟨y, hy⟩ := Zfw D e a n ci _ h1 this
       exact ⟨ci, rfl, y, hy⟩
     let cells : List Value := (List.range (len * a.sz)).map fun j => (W.cell? (ad.add j)).getD undef
     have hcl : cells.length = len * a.sz := by simp [cells]
     have hcell : ∀ j, j < len * a.sz -> W.cell? (ad.add j) = cells[j]? := by
      intro j hj
      have hdiv : j / a.sz < len := Nat.div_lt_of_lt_mul (by rw [Nat.mul_comm]; exact hj)
      obtain ⟨ci, h4, _⟩ := each (j / a.sz) hdiv
      obtain ⟨_, h5, h6⟩ := World.cells?_some h4
      have h7 := h6 (j % a.sz) (Nat.mod_lt _ hpos)
      rw [Zsy] at h7
      have e2 : j / a.sz * a.sz + j % a.sz = j := by rw [Nat.mul_comm]; exact Nat.div_add_mod j a.sz
      rw [e2] at h7
      have hlt : j % a.sz < ci.length := by rw [h5]; exact Nat.mod_lt _ hpos
      rw [List.getElem?_eq_getElem hlt] at h7
      simp [cells, hj, h7]
     have hpiece : ∀ i ci, i < len -> W.cells? 0 (ad.add (i * a.sz)) a.sz = some ci -> piece a.sz cells i = ci := by
      intro i ci hi h4
      obtain ⟨_, h5, h6⟩ := World.cells?_some h4
      have hle : (i + 1) * a.sz <= len * a.sz := Nat.mul_le_mul_right _ hi
      rw [Nat.add_mul] at hle
      apply List.ext_getElem?
      intro j
      unfold piece
      by_cases hj : j < a.sz
      ·rw [List.getElem?_take_of_lt hj, List.getElem?_drop, <- hcell _ (by omega), <- h6 j hj, Zsy]
      ·rw [List.getElem?_eq_none (by rw [List.length_take]; omega), List.getElem?_eq_none (by omega)]
     obtain ⟨ys, hy1, hy2⟩ := ZlR (fun i y => K (J W) W a y (piece a.sz cells i)) len fun i hi => by
      obtain ⟨ci, h4, y, hy⟩ := each i hi
      exact ⟨y, by rw [hpiece i ci hi h4]; exact hy⟩
     refine ⟨ys, some ad, cap, by rw [hy1], by rw [hy1]; exact hl, hm, fun hne => ?_⟩
     have hlen0 : 0 < len := by
      rcases Nat.eq_zero_or_pos len with h0 | h0
      ·exact absurd (List.length_eq_zero_iff.1 (hy1.trans h0)) hne
      ·exact h0
     have hpos2 : 0 < len * a.sz := Nat.mul_pos hlen0 hpos
     have h0c : W.cell? (ad.add 0) = some cells[0] := by rw [hcell 0 hpos2, List.getElem?_eq_getElem (by rw [hcl]; exact hpos2)]
     obtain ⟨b, off, spot⟩ := ad
     have hspot : spot = none := by simpa [Addr.add] using World.cell?_spot h0c
     subst hspot
     have hlt : b < W.heap.size := by
      have := cell_lt h0c
      rwa [add_plain'] at this
     refine ⟨⟨b, off, none⟩, cells, rfl, hlt, ⟨rfl, fun j u hu => ?_⟩, by rw [hcl, hy1], fun i y hy => hy2 i y hy⟩
     have hj := (List.getElem?_eq_some_iff.1 hu).1
     rw [hcl] at hj
     have := hcell j hj
     rw [add_plain', hu] at this
     exact this
   ·rename_i n e n' a
    simp only [Bool.and_eq_true] at h
    obtain ⟨⟨⟨h1, h2⟩, h3⟩, h4⟩ := h
    obtain rfl := Nat.eq_of_beq_eq_true h1
    obtain ⟨xs, m, rfl, _, hl, hxl, hel⟩ := DataW.trod_array hu hx
    have hl' : cs.length = n * a.sz := by rw [hl, Nat.eq_of_beq_eq_true h4]
    obtain ⟨ys, hy1, hy2⟩ := ZlR (fun i y => K (J W) W a y (piece a.sz cs i)) n fun i hi => by
     have := hel i hi
     rw [Nat.eq_of_beq_eq_true h3, List.getElem?_eq_getElem (by omega)] at this
     exact Zfw D e a m _ _ h2 this
    exact ⟨ys, hy1, by rw [hy1]; exact hl', hy2⟩
   ·rename_i fs a
    simp only [Bool.and_eq_true] at h
    obtain ⟨h2, h3⟩ := h
    obtain ⟨xs, m, rfl, _, hl, hxl, hel⟩ := DataW.trod_struct hu hx
    have hl' : (cs.drop 0).length = a.sz := by rw [List.drop_zero, hl, Nat.eq_of_beq_eq_true h2]
    obtain ⟨y, hy⟩ := Zjd (n := m) (kl := rdB P D) (fun t τ cs x h1 h2 => Zfw D t τ m cs x h1 h2) cs fs.toList 0 a h3 hl' fun f hf => by
     obtain ⟨i, hi⟩ := List.getElem?_of_mem hf
     have hi2 : fs[i]? = some f := by rw [<- Array.getElem?_toList]; exact hi
     have hlt : i < xs.length := by
      rw [hxl]
      have := (List.getElem?_eq_some_iff.1 hi).1
      simpa using this
     have := hel i f hi2
     rw [List.getElem?_eq_getElem hlt] at this
     exact ⟨_, this⟩
    exact ⟨y, by rwa [List.drop_zero] at hy⟩
theorem Zok {r : Reach} {b0 : Nat} {t : TypeId} {τ : Ty} {v : Value} {d : DataW H} {p : List MemPlace} (ht : rdB P 40 t (.sl τ) = true) (hval : Value.okWide P W r b0 t v) (h : DataW.Trod enc P W 0 (fun _ => true) true t v d p) : ∃ y : List τ.T, VK (fun b => b < W.heap.size) W (.sl τ) y v := by
 have hs : ∃ e, P.underlying t = some (.slice e) := by
  have ht' := ht
  unfold rdB at ht'
  cases hu : P.underlying t with
  | none => rw [hu] at ht'; cases ht'
  | some k => rw [hu] at ht'; cases k <;> first | (cases ht'; done) | exact ⟨_, rfl⟩
 obtain ⟨e, hu⟩ := hs
 obtain ⟨a0, len, cap, rfl⟩ := okWide_slice hu hval
 obtain ⟨fuel, hf⟩ := h
 obtain ⟨y, hy⟩ := Zfw 40 t (.sl τ) fuel _ _ ht hf
 exact ⟨y, fun e => (by cases e), fun _ => hy⟩
end Go.PI

namespace Go.PI
open Go.RowKit
end Go.PI

namespace Go.PI
open Go.RowKit
variable {P : Program} {c : Ctx} {g : Cfg} {s st : St} {a : Act} {w : World} {μ : Nm} {I : Bool -> Nat -> Prop}
theorem Zko [DR] (he : EnvFull P c) {f : Nat} {fn : Func} {code : Code} (hf : P.funcs[f]? = some fn) (hb : fn.body = some code) {m : Mem} (hm : MRel (ZaZ w I m μ) m w μ I) {args : List D} {vs : List Value} (ha : RDs μ I w (shp m) args vs)
  {nm : Nat} {Q : Exit -> St -> Prop} (hcode : Tri P (ZaZ w I m μ) code ⟨args ++ List.replicate (fn.ntmps - args.length) (.c .bad), m, []⟩ Q) {R : D -> Mem -> List Nat -> Prop}
  (hQ : ∀ e st, Q e st -> (e = .normal \/ e = .ret) /\ ∃ d m ks, (ZbI { c with base := (nm + 1) * 1024 } fn st).run = some (d, m, ks) /\ R d m ks) :
  Calls P f vs.toArray w fun e w' => ∃ d m' ks, R d m' ks /\ ∃ v μ' I', e = .returned v /\ MRel (ZaZ w I m μ) m' w' μ' I' /\ (∀ t b, I t b -> I' t b) /\ (∀ n, look n m ≠ none -> n ∉ ks -> μ' n = μ n /\ shp m' n = shp m n) /\ RD μ' I' w' (shp m') d v := by
 let c' : Ctx := { c with base := (nm + 1) * 1024 }
 have he' : EnvFull P c' := { tb := he.tb, eqs := he.eqs, orc := he.orc, mixed := he.mixed }
 have hcode := hcode _ w ⟨μ, I, Zfx hm ha fn.ntmps⟩
 refine calls_of_wp hf hb (wp_mono hcode ?_)
 rintro e a' w' ⟨s', hq, μ', I', h⟩
 obtain ⟨hend, d, m', ks, hres, hR⟩ := hQ e s' hq
 have key : a'.defers = [] /\ ∃ v, (results fn a'.tmps).run P w' = .ok v w' /\ ∃ d m' ks, R d m' ks /\ ∃ v_1 μ' I', Ending.returned v = .returned v_1 /\ MRel (ZaZ w I m μ) m' w' μ' I' /\ (∀ t b, I t b -> I' t b) /\ (∀ n, look n m ≠ none -> n ∉ ks -> μ' n = μ n /\ shp m' n = shp m n) /\ RD μ' I' w' (shp m') d v_1 := by
  obtain ⟨I', h⟩ := Zni (c := c') h fn.results.toList
  obtain ⟨d1, hd, e1⟩ := Option.map_eq_some_iff.1 (Zb4 hres)
  obtain ⟨rfl, e2⟩ := Prod.mk.inj e1
  obtain ⟨rfl, rfl⟩ := Prod.mk.inj e2
  obtain ⟨v, hv, hrd⟩ := ZiN he'.toEnvOk h hd
  exact ⟨h.dfr, v, hv, _, _, _, hR, v, μ', I', rfl, h.toMRel, h.i0, fun n h1 h2 => h.kept n h1 h2, hrd⟩
 rcases hend with rfl | rfl
 ·exact key
 ·exact key
theorem TSpec.of_tri [DR] (he : EnvFull P c) {f : Nat} {fn : Func} {code : Code} (hf : P.funcs[f]? = some fn) (hn : (fn.name == "runtime.NumGoroutine") = false) (hb : fn.body = some code)
  {ins : List (Bool × Ty)} {outs : List Ty} {pre : Args ins -> Bool} {F : Args ins -> Res outs}
  (h : ∀ xs, pre xs = true -> ∃ Q : Exit -> St -> Prop, (∀ g, g.m0 = [] -> Tri P g code ⟨Zdd ins xs ++ List.replicate (fn.ntmps - (Zdd ins xs).length) (.c .bad), [], []⟩ Q) /\
   ∀ e st, Q e st -> (e = .normal \/ e = .ret) /\ ∃ d m ks, (ZbI { c with base := (0 + 1) * 1024 } fn st).run = some (d, m, ks) /\ Zii m outs d = some (false, F xs)) : TSpec P f ins outs pre F := by
 refine ⟨⟨fn, hf, hn, by rw [hb]; rfl⟩, fun w J hJ hlt xs vs hx hp => ?_⟩
 obtain ⟨Q, htri, hQ⟩ := h xs hp
 let μ : Nm := fun _ => none
 have hm : MRel (ZaZ w J [] μ) [] w μ J := { mem := fun n mb h => by simp [look] at h, inj := fun n n' b q q' h => (by cases h), sep := fun n b q h => absurd rfl h, isub := hJ, ilt := hlt, i0 := fun t b h => h, inew := fun t b h => .inl h, live := fun n b q h => absurd rfl h, os := rfl, tape := TP.refl _, output := rfl, size := Nat.le_refl _, keep := fun _ _ _ => rfl }
 refine (Zko (nm := 0) (Q := Q) (R := fun d m ks => Zii m outs d = some (false, F xs)) he hf hb hm (args := Zdd ins xs) (vs := vs) (ZjD hx) (htri _ rfl) hQ).mono ?_
 rintro e w' ⟨d, m, ks, ho, v, μ', I', rfl, h1, h2, h3, h4⟩
 refine ⟨v, rfl, ?_, h1.os, h1.tape, h1.output, h1.size, fun b hb => h1.keep b hb (fun ⟨n, q, hn, _⟩ => hn rfl)⟩
 have hnew : ∀ b, (I' false b \/ Zai m μ' b) -> J false b \/ (w.heap.size <= b /\ b < w'.heap.size) := by
  rintro b (hb | ⟨n, q, hn, hμ⟩)
  ·rcases h1.inew false b hb with k | ⟨n, q, hn, _⟩ | k
   ·exact .inl k
   ·exact absurd rfl hn
   ·exact .inr ⟨k, h1.ilt b (h1.isub b hb)⟩
  ·rcases h1.live n b q hn hμ with ⟨n', q', hn', _⟩ | k
   ·exact absurd rfl hn'
   ·exact .inr ⟨k, h1.live_lt hn hμ⟩
 have := Zn0 h1 (J := fun t b => I' t b \/ Zai m μ' b) (fun _ _ k => .inl k) (fun b k => k.imp (h1.isub b) id) (fun _ _ k => .inr k) ho h4
 have up : ∀ {J1 J2 : Nat -> Prop} (hJ : ∀ b, J1 b -> J2 b) {outs : List Ty} {x : Res outs} {vs : List Value}, ZeG J1 w' outs x vs -> ZeG J2 w' outs x vs := by
  intro J1 J2 hJ outs
  induction outs with
  | nil => intro x vs h; exact h
  | cons τ r ih =>
   intro x vs h
   cases r with
   | nil => obtain ⟨v, h1, h2⟩ := h; exact ⟨v, h1, h2.mono hJ (Zaa _ _)⟩
   | cons σ r => obtain ⟨v, l, h1, h2, h3⟩ := h; exact ⟨v, l, h1, h2.mono hJ (Zaa _ _), ih h3⟩
 have upK : ∀ {J1 J2 : Nat -> Prop} (hJ : ∀ b, J1 b -> J2 b) {outs : List Ty} {x : Res outs} {v : Value}, ResK J1 w' outs x v -> ResK J2 w' outs x v := by
  intro J1 J2 hJ outs x v h
  cases outs with
  | nil => exact h
  | cons τ r =>
   cases r with
   | nil => exact VK.mono hJ (Zaa _ _) h
   | cons σ r => obtain ⟨vs, h1, h2⟩ := h; exact ⟨vs, h1, up hJ h2⟩
 exact upK hnew this
theorem TSpec.or [DR] {f : Nat} {ins : List (Bool × Ty)} {outs : List Ty} {pre pre1 pre2 : Args ins -> Bool} {F : Args ins -> Res outs} (h1 : TSpec P f ins outs pre1 F) (h2 : TSpec P f ins outs pre2 F) (h : ∀ xs, pre xs = true -> pre1 xs = true \/ pre2 xs = true) : TSpec P f ins outs pre F := by
 refine ⟨h1.fn, fun w J hJ hlt xs vs hx hp => ?_⟩
 rcases h xs hp with h | h
 ·exact h1.ok w J hJ hlt xs vs hx h
 ·exact h2.ok w J hJ hlt xs vs hx h
theorem nil_wp [DR] (he : EnvFull P c) (h : Rel g s a w μ I) {t e : Nat} {τ : Ty} {by_ : Nat} {x : Operand} {b : Bool} {xs : List τ.T} (hx : opd s x = .c (.ty b (.sl τ) xs)) (ht : c.tb t = some ⟨.sl τ, by_, .sl e⟩) {o : Oper} {u : Nat} (ho : o.op = .binOp .eql t x (.const (.slice none 0 0)) u)
  {Kc : Act -> World -> Prop} (hT : xs = [] -> ∀ a' w', Ok g (s.putd o.dst (.c .tt)) a' w' -> Kc a' w') (hF : ∀ a' w', Ok g (s.putd o.dst (.c .ff)) a' w' -> Kc a' w') (Q : Exit -> Act -> World -> Prop) : o.wp P a w Kc Q := by
 have hv := Zae h x
 rw [hx] at hv
 obtain ⟨A, cap, hv, _, _, hA⟩ := K.sl_len (hv.2 rfl)
 obtain ⟨info, dd, _, hu, _, _, _, _, _, hd⟩ := he.tb _ _ ht
 simp only at hd
 subst hd
 have hrun : (execOp a.eval o).run P w = .ok (.value (.bool A.isNone)) w := by
  simp only [execOp, ho]
  rw [Sem.run_bind, Sem.run_bind, hv]
  have e1 := eqG (P := P) (w := w) .eql t x (.const (.slice none 0 0)) (.slice A xs.length cap) (.slice none 0 0) ⟨fun l => by simp, by simp⟩
  have e2 := Zfd (P := P) (w := w) 9999 hu A xs.length cap 0 0
  show Result.andThen (Result.andThen ((eqGuard _ _ _ _ _ (a.eval (.const _))).run P w) _) _ = _
  rw [show a.eval (.const (.slice none 0 0)) = .slice none 0 0 from rfl, e1]
  show Result.andThen ((binOp .eql t (.slice A xs.length cap) (.slice none 0 0)).run P w) _ = _
  unfold binOp
  simp only [Sem.run_bind]
  show Result.andThen (Result.andThen ((Op.equalIn (9999 + 1) t _ _).run P w) _) _ = _
  rw [e2]
  rfl
 cases A with
 | none => exact ZbQ hrun (hT (Classical.byContradiction fun hne => by obtain ⟨_, _, e, _⟩ := hA hne; cases e) _ _ ⟨μ, I, h.putd (d := .c .tt) (v := .bool true) rfl⟩)
 | some ad => exact ZbQ hrun (hF _ _ ⟨μ, I, h.putd (d := .c .ff) (v := .bool false) rfl⟩)
def cl1 (t : Nat) : Array Oper := #[⟨some 3, .move (.tmp 0), t, "slices.go:357", #[], none⟩,
 ⟨some 4, .binOp .eql t (.tmp 3) (.const (.slice none 0 0)) t, 4, "slices.go:357", #[⟨0, .data⟩], none⟩]
def cl3 (t : Nat) : Array Oper := #[⟨some 5, .buildSlice t 0 #[], t, "slices.go:362", #[], none⟩,
 ⟨some 6, .move (.tmp 0), t, "slices.go:362", #[], none⟩,
 ⟨some 7, .call { callee := .builtin .append, args := #[.tmp 5, .tmp 6], argTypes := #[t, t] }, t, "slices.go:362", #[⟨0, .data⟩, ⟨1, .data⟩], none⟩,
 ⟨some 2, .assign (.tmp 7), t, "slices.go:362", #[⟨2, .data⟩, ⟨2, .chain⟩, ⟨0, .phase⟩, ⟨1, .phase⟩, ⟨2, .phase⟩], none⟩]
def Zdl (t : Nat) : Code :=
 .seq (.region 0 #[⟨some 2, .assign (.const (.slice none 0 0)), t, "slices.go:355", #[], none⟩] false)
  (.seq (.seq (.region 1 (cl1 t) false) (.cond (.tmp 4) (.seq (.region 2 #[⟨some 2, .assign (.const (.slice none 0 0)), t, "slices.go:358", #[], none⟩] false) .ret) .skip))
   (.seq (.region 3 (cl3 t) false) .ret))
def clS (d2 d3 d4 d5 d6 d7 : D) (d0 : D) (m : Mem) (k : List Nat) : St := ⟨[d0, .c .bad, d2, d3, d4, d5, d6, d7], m, k⟩
def Clone3 (c : Ctx) (t e : Nat) (τ : Ty) (by_ : Nat) (b : Bool := false) : Prop := ∀ l : List τ.T, ∃ d5 k,
 (ZbT { c with base := (0 + 1) * 1024 } (cl3 t) (List.range (cl3 t).size) (clS (.c .nils) (.c (.ty b (.sl τ) l)) (.c .ff) (.c .bad) (.c .bad) (.c .bad) (.c (.ty b (.sl τ) l)) [] [])).run =
  bif bound (0 + l.length) by_ then some (clS (.c (.mfull 1031)) (.c (.ty b (.sl τ) l)) (.c .ff) d5 (.c (.ty b (.sl τ) l)) (.c (.mfull 1031)) (.c (.ty b (.sl τ) l)) [(1031, .ar b e τ l)] k) else none
theorem Zeg [DR] (he : EnvFull P c) {f : Nat} {fn : Func} {t e by_ b2 : Nat} {τ : Ty} (hf : P.funcs[f]? = some fn) (hn : (fn.name == "runtime.NumGoroutine") = false) (hb : fn.body = some (Zdl t)) (hres : fn.results.toList = [.tmp 2]) (hnt : fn.ntmps = 8)
  (ht : c.tb t = some ⟨.sl τ, by_, .sl e⟩) (b : Bool) (hb0 : (b && τ.hasP) = false) (h3 : Clone3 c t e τ b2 b) : TSpec P f [(!b, .sl τ)] [.sl τ] (fun xs => bound (0 + List.length xs.1) b2) (fun xs => xs.1) := by
 refine TSpec.of_tri he hf hn hb ?_
 rintro ⟨l, ⟨⟩⟩ hl
 have hl : bound (0 + l.length) b2 = true := hl
 obtain ⟨d5, k, h3⟩ := h3 l
 rw [hl, cond_true] at h3
 let L : D := .c (.ty b (.sl τ) l)
 let sN : St := clS (.c .nils) L (.c .tt) (.c .bad) (.c .bad) (.c .bad) L [] []
 let sF : St := clS (.c .nils) L (.c .ff) (.c .bad) (.c .bad) (.c .bad) L [] []
 let sY : St := clS (.c (.mfull 1031)) L (.c .ff) d5 L (.c (.mfull 1031)) L [(1031, .ar b e τ l)] k
 refine ⟨fun e' st => e' = .ret /\ ((l = [] /\ st = sN) \/ st = sY), ?_, ?_⟩
 ·intro g hg
  let c' : Ctx := { c with base := (0 + 1) * 1024 }
  have he' : EnvFull P c' := { tb := he.tb, eqs := he.eqs, orc := he.orc, mixed := he.mixed }
  let p0 : Par := { sh := fun _ => none, k := 0 }
  have lo : ∀ code : Code, ZaB P g p0 code := fun code => ZaB.none fun _ => rfl
  rw [hnt]
  show Tri P g (Zdl t) ⟨[.c (.ty (!!b) (.sl τ) l), .c .bad, .c .bad, .c .bad, .c .bad, .c .bad, .c .bad, .c .bad], [], []⟩ _
  rw [Bool.not_not]
  unfold Zdl
  refine Tri.seq (M := fun st => st = clS (.c .nils) (.c .bad) (.c .bad) (.c .bad) (.c .bad) (.c .bad) L [] []) (Tri.run he' p0 (lo _) (y := .normal) (st := clS (.c .nils) (.c .bad) (.c .bad) (.c .bad) (.c .bad) (.c .bad) L [] []) rfl rfl) ?_
  rintro st rfl
  refine Tri.seq (M := fun st => st = sF) ?_ ?_
  ·refine Tri.seq (M := fun st => (l = [] /\ st = sN) \/ st = sF) ?_ ?_
   ·intro a w hok
    refine wp_region ?_
    show wpOps P (cl1 t) _ [0, 1] a w
    unfold wpOps
    show if Region.wanted (⟨some 3, .move (.tmp 0), t, "slices.go:357", #[], none⟩ : Oper) (yielded (cl1 t) a.tmps) = true then _ else _
    rw [if_pos (show Region.wanted _ _ = true from rfl)]
    refine .inl (Zc0 he' _ g _ (clS (.c .nils) L (.c .bad) (.c .bad) (.c .bad) (.c .bad) L [] []) a w _ _ hok rfl fun a w hok => ?_)
    unfold wpOps
    show if Region.wanted (⟨some 4, .binOp .eql t (.tmp 3) (.const (.slice none 0 0)) t, 4, "slices.go:357", #[⟨0, .data⟩], none⟩ : Oper) (yielded (cl1 t) a.tmps) = true then _ else _
    rw [if_pos (show Region.wanted _ _ = true from rfl)]
    refine .inl ?_
    obtain ⟨μ, I, h⟩ := hok
    refine nil_wp he' h (x := .tmp 3) (xs := l) (b := b) rfl ht rfl (fun hl0 a w hok => ?_) (fun a w hok => ?_) _
    ·exact ⟨sN, .inl ⟨hl0, rfl⟩, hok⟩
    ·exact ⟨sF, .inr rfl, hok⟩
   ·rintro st (⟨hl0, rfl⟩ | rfl)
    ·refine Tri.run he' p0 (lo _) (y := .ret) (st := sN) rfl ?_
     exact ⟨rfl, .inl ⟨hl0, rfl⟩⟩
    ·exact Tri.run he' p0 (lo _) (y := .normal) (st := sF) rfl rfl
  ·rintro st rfl
   refine Tri.seq (M := fun st => st = sY) ?_ ?_
   ·refine (Tri.region he' (ops := cl3 t) (draw := false) (st := sY) (by exact h3)).mono ?_
    rintro y st ⟨rfl, rfl⟩
    rfl
   ·rintro st rfl
    exact Tri.ret ⟨rfl, .inr rfl⟩
 ·rintro e' st ⟨rfl, h⟩
  refine ⟨.inr rfl, ?_⟩
  unfold ZbI settle Zd2
  rw [hres]
  rcases h with ⟨hl0, rfl⟩ | rfl
  ·refine ⟨.c .nils, [], [], rfl, ?_⟩
   subst hl0
   rfl
  ·refine ⟨.c (.mfull 1031), [(1031, .ar b e τ l)], k, rfl, ?_⟩
   show (D.c (.mfull 1031)).outp _ (.sl τ) = _
   simp [D.outp, D.out, ZbC, Ty.isAgg, C.asTy, look, hb0]
end Go.PI
