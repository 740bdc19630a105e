/- A table of types, looked at by one reckoning; a struct type that may be compared likewise. -/
import Derived.Test.YtnhiplibodkciaaPIw
namespace Go.PI
open Go.RowKit

/-- Two zero cells are one. -/
def zeroB : Value → Value → Bool
  | .bool a, .bool b => a == b
  | .int k n, .int k' n' => decide (k = k') && decide (n = n')
  | .string s, .string s' => Nat.beq s.size 0 && Nat.beq s'.size 0
  | .slice none 0 0, .slice none 0 0 => true
  | .pointer none, .pointer none => true
  | _, _ => false

theorem zeroB_ok {u v : Value} (h : zeroB u v = true) : u = v := by
  unfold zeroB at h
  split at h
  · simp at h; rw [h]
  · simp only [Bool.and_eq_true, decide_eq_true_eq] at h; rw [h.1, h.2]
  · simp only [Bool.and_eq_true] at h
    have e : ∀ x : ByteArray, Nat.beq x.size 0 = true → x = ByteArray.empty := fun x hx => by
      have hx := Nat.eq_of_beq_eq_true hx
      cases x with
      | mk a =>
        have : a.size = 0 := hx
        rw [Array.size_eq_zero_iff.1 this]
        rfl
    rw [e _ h.1, e _ h.2]
  · rfl
  · rfl
  · cases h

def zerosB : List Value → List Value → Bool
  | [], [] => true
  | u :: l, v :: r => zeroB u v && zerosB l r
  | _, _ => false
theorem zerosB_ok : ∀ {l r : List Value}, zerosB l r = true → l = r
  | [], [], _ => rfl
  | u :: l, v :: r, h => by
    simp only [zerosB, Bool.and_eq_true] at h
    rw [zeroB_ok h.1, zerosB_ok h.2]
  | [], _ :: _, h => by cases h
  | _ :: _, [], h => by cases h

def zvB (τ : Ty) (v : Value) : Bool :=
  bif τ.isAgg then (match v with
    | .agg a => zerosB a.toList (zeroV τ)
    | _ => false) else (match zeroV τ with
    | [u] => zeroB v u
    | _ => false)
theorem zvB_ok {τ : Ty} {v : Value} (h : zvB τ v = true) : v = valOf τ (zeroV τ) := by
  unfold zvB at h
  unfold valOf
  cases e : τ.isAgg with
  | true =>
    rw [e] at h
    simp only [cond_true] at h ⊢
    split at h
    · rename_i a
      rw [← zerosB_ok h]
    · cases h
  | false =>
    rw [e] at h
    simp only [cond_false] at h ⊢
    split at h
    · rename_i u hu
      rw [hu]
      exact zeroB_ok h
    · cases h

def fieldsB (P : Program) : List Field → List (Nat × Nat) → Bool
  | [], [] => true
  | f :: r, (o, t) :: l => Nat.beq f.offset o && Nat.beq f.type t && (P.info? f.type).isSome && fieldsB P r l
  | _, _ => false
theorem fieldsB_ok {P : Program} : ∀ {fs : List Field} {l : List (Nat × Nat)}, fieldsB P fs l = true → fs.map (fun f => (f.offset, f.type)) = l ∧ (fs.mapM (fun f => (P.info? f.type).map fun i => (f.offset, i.size))).isSome = true
  | [], [], _ => ⟨rfl, rfl⟩
  | f :: r, (o, t) :: l, h => by
    simp only [fieldsB, Bool.and_eq_true] at h
    obtain ⟨⟨⟨h1, h2⟩, h3⟩, h4⟩ := h
    obtain ⟨k1, k2⟩ := fieldsB_ok h4
    obtain ⟨i, hi⟩ := Option.isSome_iff_exists.1 h3
    obtain ⟨ys, hys⟩ := Option.isSome_iff_exists.1 k2
    refine ⟨by simp [k1, Nat.eq_of_beq_eq_true h1, Nat.eq_of_beq_eq_true h2], ?_⟩
    simp [List.mapM_cons, hi, hys]
  | [], _ :: _, h => by cases h
  | _ :: _, [], h => by cases h

def tdB (P : Program) : TD → TypeDesc → Bool
  | .sl e, .slice e' => Nat.beq e' e
  | .st l, .struct fs => fieldsB P fs.toList l
  | .ar n e, .array n' e' => Nat.beq n' n && Nat.beq e' e
  | .pt e, .pointer e' => Nat.beq e' e
  | .oth, _ => true
  | _, _ => false
def tyB : Ty → TypeDesc → Bool
  | .bool, .bool => true
  | .int k, .int k' => decide (k' = k)
  | .str, .string => true
  | .bool, _ => false
  | .int _, _ => false
  | .str, _ => false
  | _, _ => true

def tokB (P : Program) (t : Nat) (ti : TI) : Bool := match P.info? t, P.underlying t with
  | some info, some d => Nat.beq info.size ti.ty.sz && Nat.beq info.bytes ti.bytes && (match info.zero with
      | some v => zvB ti.ty v
      | none => false) && (aggD d == ti.ty.isAgg) && tyB ti.ty d && tdB P ti.d d
  | _, _ => false

theorem tokB_ok {P : Program} {t : Nat} {ti : TI} (h : tokB P t ti = true) : TOk P t ti := by
  unfold tokB at h
  split at h
  · rename_i info d hi hd
    simp only [Bool.and_eq_true] at h
    obtain ⟨⟨⟨⟨⟨h1, h2⟩, h3⟩, h4⟩, h5⟩, h6⟩ := h
    refine ⟨info, d, hi, hd, Nat.eq_of_beq_eq_true h1, Nat.eq_of_beq_eq_true h2, ?_, by simpa using h4, ?_, ?_⟩
    · split at h3
      · rename_i v hv; rw [hv, zvB_ok h3]
      · cases h3
    · cases e : ti.ty <;> rw [e] at h5 <;> simp only <;> cases d <;> simp_all [tyB]
    · cases e : ti.d with
      | sl el => rw [e] at h6; cases d <;> simp_all [tdB] <;> exact Nat.eq_of_beq_eq_true h6
      | st l =>
        rw [e] at h6
        cases d with
        | struct fs => exact ⟨fs, rfl, fieldsB_ok h6⟩
        | _ => cases h6
      | ar n el =>
        rw [e] at h6
        cases d with
        | array n' el' =>
          simp only [tdB, Bool.and_eq_true] at h6
          simp only [Nat.eq_of_beq_eq_true h6.1, Nat.eq_of_beq_eq_true h6.2]
        | _ => cases h6
      | pt el => rw [e] at h6; cases d <;> simp_all [tdB] <;> exact Nat.eq_of_beq_eq_true h6
      | oth => trivial
  · cases h

def lookT (n : Nat) : List (Nat × TI) → Option TI
  | [] => none
  | (k, b) :: r => bif Nat.beq k n then some b else lookT n r
def tblB (P : Program) : List (Nat × TI) → Bool
  | [] => true
  | (k, b) :: r => tokB P k b && tblB P r
theorem tblB_ok {P : Program} : ∀ {l : List (Nat × TI)}, tblB P l = true → TbOk P (fun n => lookT n l)
  | [], _, t, ti, h => by cases h
  | (k, b) :: r, hb, t, ti, h => by
    simp only [tblB, Bool.and_eq_true] at hb
    simp only [lookT] at h
    cases e : Nat.beq k t with
    | true =>
      rw [e] at h
      obtain rfl := Option.some.inj h
      rw [← Nat.eq_of_beq_eq_true e]
      exact tokB_ok hb.1
    | false => rw [e] at h; exact tblB_ok hb.2 t ti h

/-- A function that is gone through in place is there. -/
def fnB (P : Program) (f : Nat) (name : String) : Bool := match P.funcs[f]? with
  | some fn => (fn.name == name) && fn.body.isSome
  | none => false

end Go.PI
namespace Go.PI

def lookO (n : Nat) : List (Nat × Orc) → Option Orc
  | [] => none
  | (k, b) :: r => bif Nat.beq k n then some b else lookO n r

/-- Types, callees, struct types that may be compared. -/
def mkC (tb : Nat → Option TI) (l : List (Nat × Orc)) : Ctx := ⟨tb, fun n => lookO n l, fun _ => false, 0⟩

theorem env_nil {P : Program} {tb : Nat → Option TI} (hm : P.follows .mixedOrders = true) (h : TbOk P tb) : EnvFull P (mkC tb []) :=
  { tb := h, mixed := hm, eqs := fun _ _ e => (by cases e), orc := fun _ _ e => (by cases e) }

theorem env_cons {P : Program} {tb : Nat → Option TI} {l : List (Nat × Orc)} {f : Nat} {o : Orc} (h : EnvFull P (mkC tb l)) (ho : CallOk P f o) : EnvFull P (mkC tb ((f, o) :: l)) :=
  { tb := h.tb, mixed := h.mixed, eqs := fun _ _ e => (by cases e), orc := fun k o' e => by
      have e : lookO k ((f, o) :: l) = some o' := e
      simp only [lookO] at e
      cases hk : Nat.beq f k with
      | true =>
        rw [hk] at e
        obtain rfl := Option.some.inj e
        rw [← Nat.eq_of_beq_eq_true hk]
        exact ho
      | false => rw [hk] at e; exact h.orc k o' e }

/-- A function's code. -/
def bodyOf (f : Func) : Code := f.body.getD .skip
theorem bodyOf_ok {f : Func} (h : f.body.isSome = true) : f.body = some (bodyOf f) := by
  unfold bodyOf
  cases e : f.body with
  | none => rw [e] at h; cases h
  | some c => rfl

theorem CallOk.inl' {P : Program} {c : Ctx} (he : EnvFull P c) (p : Par) (hl : ∀ i, p.lo i = none) {f : Nat} {fn : Func} (hf : P.funcs[f]? = some fn) (h : (!(fn.name == "runtime.NumGoroutine") && fn.body.isSome) = true) : CallOk P f (Go.PI.inl c p fn (bodyOf fn)) := by
  simp only [Bool.and_eq_true, Bool.not_eq_true'] at h
  exact CallOk.inl he p hl hf h.1 (bodyOf_ok h.2)

/-- A truth that is told, in every branch. -/
noncomputable def yes : Br (D × Mem × List Nat) → Bool
  | .ret (d, m, _) => match outsD m [.bool] d with
    | some (false, b) => b
    | _ => false
  | .cond b x y => bif b then yes x else yes y
  | .no => false
theorem yes_ok : ∀ {t : Br (D × Mem × List Nat)}, yes t = true → ∃ d m ks, t.run = some (d, m, ks) ∧ outsD m [.bool] d = some (false, true)
  | .ret (d, m, ks), h => by
    simp only [yes] at h
    split at h
    · rename_i b hb
      subst h
      exact ⟨d, m, ks, rfl, hb⟩
    · cases h
  | .cond b x y, h => by
    cases b with
    | true => exact yes_ok (t := x) h
    | false => exact yes_ok (t := y) h
  | .no, h => by cases h

theorem TSpec.of_yes {P : Program} {c : Ctx} (he : EnvFull P c) {f : Nat} {fn : Func} (hf : P.funcs[f]? = some fn) (h : (!(fn.name == "runtime.NumGoroutine") && fn.body.isSome) = true) {p : Par} (hlo : ∀ g, g.m0 = [] → LoOk P g p (bodyOf fn))
    {ins : List (Bool × Ty)} {pre : Args ins → Bool} (hy : ∀ xs, pre xs = true → yes (Go.PI.inl c p fn (bodyOf fn) 0 (argsD ins xs) []) = true) : TSpec P f ins [.bool] pre (fun _ => true) := by
  simp only [Bool.and_eq_true, Bool.not_eq_true'] at h
  refine TSpec.of_run he hf h.1 (bodyOf_ok h.2) fun xs hx => ?_
  obtain ⟨d, m, ks, h1, h2⟩ := yes_ok (hy xs hx)
  exact ⟨p, d, m, ks, hlo, h1, h2⟩

/-- A typed result that is told, in every branch. -/
theorem TSpec.of_outs {P : Program} {c : Ctx} (he : EnvFull P c) {f : Nat} {fn : Func} (hf : P.funcs[f]? = some fn) (h : (!(fn.name == "runtime.NumGoroutine") && fn.body.isSome) = true) {p : Par} (hlo : ∀ g, g.m0 = [] → LoOk P g p (bodyOf fn))
    {ins : List (Bool × Ty)} {outs : List Ty} {pre : Args ins → Bool} {F : Args ins → Res outs} (hy : ∀ xs, pre xs = true → ((Go.PI.inl c p fn (bodyOf fn) 0 (argsD ins xs) []).bind fun r => .ofOpt (outsD r.2.1 outs r.1)).run = some (false, F xs)) : TSpec P f ins outs pre F := by
  simp only [Bool.and_eq_true, Bool.not_eq_true'] at h
  refine TSpec.of_run he hf h.1 (bodyOf_ok h.2) fun xs hx => ?_
  obtain ⟨⟨d, m, ks⟩, h1, h2⟩ := Br.bind_some (hy xs hx)
  exact ⟨p, d, m, ks, hlo, h1, ofOpt_run h2⟩

end Go.PI
