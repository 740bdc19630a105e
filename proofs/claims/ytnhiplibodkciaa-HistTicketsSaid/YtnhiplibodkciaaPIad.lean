/- Small helps for loops. -/
import Derived.Test.YtnhiplibodkciaaPIaa
import Derived.Test.YtnhiplibodkciaaPIac
namespace Go.PI

/-- The n-th loop of a piece of code. -/
def loopAt (n : Nat) (c : Code) : Code := (loopsOf c).getD n .skip
/-- A slot's worth alone. -/
def only (n i : Nat) (x : C) : St := (⟨n, [(i, .c x)], []⟩ : Skel).bare

theorem wrap_small {x : Int} (h1 : -9223372036854775808 ≤ x) (h2 : x ≤ 9223372036854775807) : IntKind.wrap .i64 x = x := by
  simp [IntKind.wrap, IntKind.signed, IntKind.bits]
  omega

theorem cond_ret {α : Type} (b : Bool) (r : α) : (Br.cond b (.ret r) .no).run = if b = true then some r else none := by cases b <;> rfl

theorem run_bif {α : Type} (b : Bool) (x y : Br α) : (Br.cond b x y).run = bif b then x.run else y.run := rfl

/-- One loop alone. -/
theorem LoOk.one {P : Program} {g : Cfg} {p : Par} {code a : Code} (hl : loopsOf code = [a]) (h : ∀ o, loOf p a = some o → LoopOk P g o a) : LoOk P g p code := by
  intro x hx
  rw [hl] at hx
  obtain rfl := List.mem_singleton.1 hx
  exact h

theorem drop_step {α : Type} {l : List α} {i : Nat} (h : i < l.length) (z : α) : l.drop i = l.getD i z :: l.drop (i + 1) := by
  rw [List.drop_eq_getElem_cons h]
  simp [List.getD, List.getElem?_eq_getElem h]

/-- A loop's oracle, by name. -/
theorem LoopOk.of {P : Program} {g : Cfg} {p : Par} {a : Code} {o o' : St → Br (Exit × St)} (h : LoopOk P g o a) (e : loOf p a = some o) (e' : loOf p a = some o') : LoopOk P g o' a := by
  rw [e] at e'
  obtain rfl := Option.some.inj e'
  exact h
theorem LoopOk.none {P : Program} {g : Cfg} {p : Par} {a : Code} {o' : St → Br (Exit × St)} (e : loOf p a = .none) (e' : loOf p a = some o') : LoopOk P g o' a := by
  rw [e] at e'; cases e'

abbrev i64 : Ty := .int .i64

end Go.PI
