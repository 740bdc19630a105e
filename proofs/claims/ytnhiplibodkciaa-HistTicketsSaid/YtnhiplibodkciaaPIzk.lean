/- Steps in any order that is let. -/
import Derived.Test.YtnhiplibodkciaaPIzj
namespace Go.PI
open Go.RowKit

variable {c : Ctx} {s st : St}

def StepsR (c : Ctx) (ops : Array Oper) (R : List Nat) (s : St) (l : List Rec) (st : St) : Prop := (evSteps c ops R s).run = some (l, st)

theorem steps_cons {ops : Array Oper} {i : Nat} {R : List Nat} {l : List Rec} (h : StepsR c ops (i :: R) s l st) : ∃ x s1 l', StepR c ops i s x s1 ∧ StepsR c ops R s1 l' st ∧ l = x :: l' := by
  unfold StepsR at h
  simp only [evSteps] at h
  obtain ⟨⟨x, s1⟩, h1, h2⟩ := Br.bind_some h
  obtain ⟨⟨l', st'⟩, h3, h4⟩ := Br.bind_some h2
  obtain ⟨rfl, rfl⟩ := Prod.mk.inj (Option.some.inj h4)
  exact ⟨x, s1, l', h1, h3, rfl⟩

theorem steps_mk {ops : Array Oper} {i : Nat} {R : List Nat} {x : Rec} {s1 : St} {l : List Rec} (h1 : StepR c ops i s x s1) (h2 : StepsR c ops R s1 l st) : StepsR c ops (i :: R) s (x :: l) st := by
  unfold StepsR StepR at *
  simp only [evSteps, Br.run_bind, h1, h2, Option.bind_some]
  rfl

theorem steps_congr {ops : Array Oper} : ∀ {R : List Nat} {s s2 st : St} {l : List Rec}, StepsR c ops R s l st → SEq s s2 → ∃ st2, StepsR c ops R s2 l st2 ∧ SEq st st2
  | [], s, s2, st, l, h, hs => by
    obtain ⟨rfl, rfl⟩ := Prod.mk.inj (Option.some.inj h)
    exact ⟨s2, rfl, hs⟩
  | i :: R, s, s2, st, l, h, hs => by
    obtain ⟨x, s1, l', h1, h2, rfl⟩ := steps_cons h
    obtain ⟨t1, k1, k2⟩ := step_congr h1 hs
    obtain ⟨st2, k3, k4⟩ := steps_congr h2 k2
    exact ⟨st2, steps_mk k1 k3, k4⟩

/-- A step that is independent of all that stand ahead of it may go first. -/
theorem bubble {ops : Array Oper} {i : Nat} {post : List Nat} : ∀ {pre : List Nat} {s st : St} {l : List Rec}, StepsR c ops (pre ++ i :: post) s l st → ∃ lp y lq, l = lp ++ y :: lq ∧ lp.length = pre.length ∧
    ((∀ x ∈ lp, indep ops x y = true) → ∃ t1 st2, StepR c ops i s y t1 ∧ StepsR c ops (pre ++ post) t1 (lp ++ lq) st2 ∧ SEq st st2)
  | [], s, st, l, h => by
    obtain ⟨y, s1, lq, h1, h2, rfl⟩ := steps_cons h
    exact ⟨[], y, lq, rfl, rfl, fun _ => ⟨s1, st, h1, h2, SEq.refl _⟩⟩
  | j :: pre, s, st, l, h => by
    obtain ⟨x, s1, l', h1, h2, rfl⟩ := steps_cons h
    obtain ⟨lp, y, lq, rfl, hl, ih⟩ := bubble (pre := pre) h2
    refine ⟨x :: lp, y, lq, rfl, by simp [hl], fun hind => ?_⟩
    obtain ⟨t1, st2, k1, k2, k3⟩ := ih fun z hz => hind z (List.mem_cons_of_mem _ hz)
    obtain ⟨u1, u2, m1, m2, m3⟩ := swap h1 k1 (hind x List.mem_cons_self)
    obtain ⟨st3, k4, k5⟩ := steps_congr k2 m3
    exact ⟨u1, st3, m1, steps_mk m2 k4, k3.trans k5⟩

end Go.PI
