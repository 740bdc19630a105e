/- The operations on numbers, truths and texts. -/
import Derived.Test.YtnhiplibodkciaaPIg
namespace Go.PI
open Go.RowKit

variable {P : Program} {μ : Nm} {I : Bool → Nat → Prop} {w : World} {sh : Sh}

theorem ofOpt_run {α : Type} {o : Option α} {r : α} (h : (Br.ofOpt o).run = some r) : o = some r := by
  cases o with
  | none => cases h
  | some a => exact h

theorem cond_no {α : Type} {b : Bool} {y : Br α} {r : α} (h : (Br.cond b .no y).run = some r) : b = false ∧ y.run = some r := by
  cases b
  · exact ⟨rfl, h⟩
  · cases h
theorem cond_yes {α : Type} {b : Bool} {x : Br α} {r : α} (h : (Br.cond b x .no).run = some r) : b = true ∧ x.run = some r := by
  cases b
  · cases h
  · exact ⟨rfl, h⟩

theorem RD.int {t : Bool} {k : IntKind} {n : Int} {v : Value} (h : RD μ I w sh (.c (.ty t (.int k) n)) v) : v = .int k n ∧ InK k n := by
  have := h.2 rfl
  simpa [K] using this
theorem RD.ofInt {k : IntKind} {n : Int} (h : InK k n) (t : Bool) : RD μ I w sh (.c (.ty t (.int k) n)) (.int k n) := ⟨fun e => by simp [Ty.isAgg] at e, fun _ => ⟨rfl, h⟩⟩
theorem RD.ofBool (b t : Bool) : RD μ I w sh (.c (.ty t .bool b)) (.bool b) := ⟨fun e => by simp [Ty.isAgg] at e, fun _ => rfl⟩
theorem RD.bool {t b : Bool} {v : Value} (h : RD μ I w sh (.c (.ty t .bool b)) v) : v = .bool b := by
  have := h.2 rfl
  simpa [K] using this
theorem RD.str {t : Bool} {x : ByteArray} {v : Value} (h : RD μ I w sh (.c (.ty t .str x)) v) : v = .string x ∧ x.size ≤ 9223372036854775807 := by
  have := h.2 rfl
  simpa [K] using this
theorem RD.ofStr {x : ByteArray} (h : x.size ≤ 9223372036854775807) (t : Bool) : RD μ I w sh (.c (.ty t .str x)) (.string x) := ⟨fun e => by simp [Ty.isAgg] at e, fun _ => ⟨rfl, h⟩⟩

theorem inK_tmod {k : IntKind} {x : Int} (h : InK k x) (y : Int) : InK k (x.tmod y) := by
  unfold InK at *
  have hmin : k.min ≤ 0 := by cases k <;> simp [IntKind.min, IntKind.signed, IntKind.bits]
  have hmax : 0 ≤ k.max := by cases k <;> simp [IntKind.max, IntKind.signed, IntKind.bits]
  rcases Int.le_total 0 x with h0 | h0
  · have h1 := Int.tmod_nonneg y h0
    have h2 : x.tmod y ≤ x := by
      have := Int.natAbs_tmod x y
      have e : (x.tmod y).natAbs ≤ x.natAbs := by rw [this]; exact Nat.mod_le _ _
      omega
    omega
  · have e : (x.tmod y).natAbs ≤ x.natAbs := by rw [Int.natAbs_tmod]; exact Nat.mod_le _ _
    have h1 : x.tmod y ≤ 0 := by
      have := Int.tmod_nonneg (a := -x) y (by omega)
      rw [Int.neg_tmod] at this
      omega
    omega

theorem inK_shr {k : IntKind} {x : Int} (h : InK k x) (n : Nat) : InK k (x.fdiv (2 ^ n)) := by
  unfold InK at *
  have hp : (0 : Int) < 2 ^ n := Int.pow_pos (by omega)
  rw [Int.fdiv_eq_ediv_of_nonneg _ (by omega)]
  have hmin : k.min ≤ 0 := by cases k <;> simp [IntKind.min, IntKind.signed, IntKind.bits]
  have hmax : 0 ≤ k.max := by cases k <;> simp [IntKind.max, IntKind.signed, IntKind.bits]
  rcases Int.le_total 0 x with h0 | h0
  · have h1 := Int.ediv_nonneg h0 (by omega : (0 : Int) ≤ 2 ^ n)
    have h2 := Int.ediv_le_self (2 ^ n) h0
    omega
  · constructor
    · have := Int.le_ediv_of_mul_le (c := 2 ^ n) (a := x) (b := x) hp (by
        have : x * 2 ^ n ≤ x * 1 := Int.mul_le_mul_of_nonpos_left h0 (by omega)
        omega)
      omega
    · have := Int.ediv_neg_of_neg_of_pos (a := x) (b := 2 ^ n)
      rcases Int.lt_or_eq_of_le h0 with h1 | h1
      · have := Int.ediv_neg_of_neg_of_pos h1 hp
        omega
      · subst h1; simp; exact hmax

theorem int_ok {op : BinOp} {k : IntKind} {x y : Int} {d : D} (hx : InK k x) (h : (intC op k x y).run = some d) (t : Nat) :
    ∃ v, (binOp op t (.int k x) (.int k y)).run P w = .ok v w ∧ RD μ I w sh d v := by
  cases op <;> simp only [intC] at h
  case quo =>
    obtain ⟨hy, h⟩ := cond_no h
    obtain rfl := Option.some.inj h
    have : y ≠ 0 := of_decide_eq_false hy
    exact ⟨_, by simp [binOp, Op.intDiv, this], RD.ofInt (inK_wrap _ _) _⟩
  case rem =>
    obtain ⟨hy, h⟩ := cond_no h
    obtain rfl := Option.some.inj h
    have : y ≠ 0 := of_decide_eq_false hy
    exact ⟨_, by simp [binOp, Op.intDiv, this], RD.ofInt (inK_tmod hx _) _⟩
  all_goals first
    | (cases h; done)
    | (obtain rfl := Option.some.inj h
       first
       | (refine ⟨.int k _, ?_, RD.ofInt (inK_wrap _ _) _⟩; simp [binOp, Op.intArith, Op.intBits])
       | (refine ⟨.bool _, ?_, RD.ofBool _ _⟩; simp [binOp, Op.intCmp]))

theorem shift_ok {op : BinOp} {k k' : IntKind} {x y : Int} {d : D} (hx : InK k x) (h : (shiftC op k x y).run = some d) (t : Nat) :
    ∃ v, (binOp op t (.int k x) (.int k' y)).run P w = .ok v w ∧ RD μ I w sh d v := by
  cases op <;> simp only [shiftC] at h <;> first
    | (cases h; done)
    | (obtain ⟨hy, h⟩ := cond_no h
       obtain rfl := Option.some.inj h
       have hy : ¬ y < 0 := of_decide_eq_false hy
       first
       | (refine ⟨.int k _, ?_, RD.ofInt (inK_wrap _ _) _⟩; simp [binOp, Op.shift, hy]; done)
       | (refine ⟨.int k _, ?_, RD.ofInt (inK_shr hx _) _⟩; simp [binOp, Op.shift, hy]; done))

theorem str_ok {op : BinOp} {x y : ByteArray} {d : D} (h : (strC op x y).run = some d) (t : Nat) :
    ∃ v, (binOp op t (.string x) (.string y)).run P w = .ok v w ∧ RD μ I w sh d v := by
  cases op <;> simp only [strC] at h
  case add =>
    obtain ⟨hy, h⟩ := cond_yes h
    obtain rfl := Option.some.inj h
    have hy : x.size + y.size ≤ 9223372036854775807 := of_decide_eq_true hy
    refine ⟨_, ?_, RD.ofStr (x := x ++ y) (by rw [ByteArray.size_append]; exact hy) _⟩
    have hn : ¬ (((x.size + y.size : Nat) : Int) > IntKind.i64.max) := by simp [IntKind.max, IntKind.signed, IntKind.bits]; omega
    simp only [binOp, Op.stringOp]
    rw [if_neg hn]
    rfl
  all_goals first
    | (cases h; done)
    | (obtain rfl := Option.some.inj h
       refine ⟨.bool _, ?_, RD.ofBool _ _⟩
       simp [binOp, Op.stringOp])

theorem isNil_ok {x : C} {v : Value} (hx : RC μ I w sh x v) {d : D} (h : x.isNil = some d) : ∃ o : Option Addr, v = .pointer o ∧ RD μ I w sh d (.bool o.isNone) := by
  unfold C.isNil at h
  split at h <;> first | (cases h; done) | skip
  · obtain rfl := Option.some.inj h
    exact ⟨none, hx, rfl⟩
  · obtain rfl := Option.some.inj h
    obtain ⟨b, q, len, z, _, _, _, rfl⟩ := hx
    exact ⟨_, rfl, rfl⟩
  · obtain rfl := Option.some.inj h
    obtain ⟨ad, cells, rfl, _⟩ := hx
    exact ⟨_, rfl, rfl⟩
  · rename_i o
    obtain rfl := Option.some.inj h
    have hk := hx.2 rfl
    cases o with
    | none =>
      have : v = .pointer none := by simpa [K] using hk
      exact ⟨none, this, RD.ofBool _ _⟩
    | some y =>
      obtain ⟨ad, cells, e, _⟩ := hk
      exact ⟨some ad, by simpa using e, RD.ofBool _ _⟩
  · rename_i l
    obtain rfl := Option.some.inj h
    obtain ⟨u, e, hk⟩ := hx.2 rfl
    obtain rfl : v = u := by simpa using e
    cases l with
    | nil => exact ⟨none, hk, RD.ofBool _ _⟩
    | cons y l =>
      obtain ⟨ad, _, _, e, _⟩ := hk
      exact ⟨some ad, e, RD.ofBool _ _⟩

theorem boolC_ok {x : C} {v : Value} {b : Bool} (hx : RC μ I w sh x v) (h : boolC x = some b) : v = .bool b := by
  unfold boolC at h
  split at h <;> first | (cases h; done) | skip
  · obtain rfl := Option.some.inj h; exact hx
  · obtain rfl := Option.some.inj h; exact hx
  · obtain rfl := Option.some.inj h; exact RD.bool (μ := μ) (I := I) (w := w) (sh := sh) hx

theorem notD_ok {d d' : D} {v : Value} (hx : RD μ I w sh d v) (h : notD d = some d') : ∃ b, v = .bool b ∧ RD μ I w sh d' (.bool !b) := by
  unfold notD at h
  split at h <;> first | (cases h; done) | skip
  · obtain rfl := Option.some.inj h; exact ⟨true, hx, rfl⟩
  · obtain rfl := Option.some.inj h; exact ⟨false, hx, rfl⟩
  · obtain rfl := Option.some.inj h; exact ⟨_, RD.bool hx, RD.ofBool _ _⟩

/-! ### typed worths -/
theorem cast_K {J : Nat → Prop} {σ τ : Ty} (h : τ = σ) {x : τ.T} {cs : List Value} (hk : K J w τ x cs) : K J w σ (cast (congrArg Ty.T h) x) cs := by
  subst h
  exact hk

theorem cast_VK {J : Nat → Prop} {σ τ : Ty} (h : τ = σ) {x : τ.T} {v : Value} (hk : VK J w τ x v) : VK J w σ (cast (congrArg Ty.T h) x) v := by
  subst h
  exact hk

theorem asTyC_ok {σ : Ty} {c : C} {v : Value} {b : Bool} {x : σ.T} (hx : RC μ I w sh c v) (h : c.asTy σ = some (b, x)) : VK (I b) w σ x v := by
  unfold C.asTy at h
  split at h
  · split at h
    · rename_i hh
      obtain ⟨rfl, rfl⟩ := Prod.mk.inj (Option.some.inj h)
      exact cast_VK hh hx
    · cases h
  · split at h <;> first | (cases h; done) | skip
    obtain ⟨rfl, rfl⟩ := Prod.mk.inj (Option.some.inj h)
    obtain rfl : v = .bool true := hx
    exact ⟨fun e => by simp [Ty.isAgg] at e, fun _ => rfl⟩
  · split at h <;> first | (cases h; done) | skip
    obtain ⟨rfl, rfl⟩ := Prod.mk.inj (Option.some.inj h)
    obtain rfl : v = .bool false := hx
    exact ⟨fun e => by simp [Ty.isAgg] at e, fun _ => rfl⟩
  · split at h <;> first | (cases h; done) | skip
    obtain ⟨rfl, rfl⟩ := Prod.mk.inj (Option.some.inj h)
    obtain rfl : v = .slice none 0 0 := hx
    exact ⟨fun e => by simp [Ty.isAgg] at e, fun _ => ⟨none, 0, rfl, by simp, by simp, fun hn => absurd rfl hn⟩⟩
  · split at h <;> first | (cases h; done) | skip
    · obtain ⟨rfl, rfl⟩ := Prod.mk.inj (Option.some.inj h)
      obtain rfl : v = .pointer none := hx
      exact ⟨fun e => by simp [Ty.isAgg] at e, fun _ => rfl⟩
    · obtain ⟨rfl, rfl⟩ := Prod.mk.inj (Option.some.inj h)
      obtain rfl : v = .pointer none := hx
      exact ⟨fun e => by simp [Ty.isAgg] at e, fun _ => ⟨_, rfl, rfl⟩⟩
  · cases h

end Go.PI
