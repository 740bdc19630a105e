/- States that say the same step alike. -/
import Derived.Test.YtnhiplibodkciaaPIzd
namespace Go.PI
open Go.RowKit

variable {c : Ctx} {s st : St}

theorem look_kill (s : St) (n k : Nat) : look k (s.kill n).m = if k = n then none else (look k s.m).map (MB.kill n) := by
  simp only [St.kill, look_map]
  by_cases e : k = n
  · subst e; rw [if_pos rfl, look_delm_same]; rfl
  · rw [if_neg e, look_delm_other e]

theorem SEq.kill {s s' : St} (h : SEq s s') (n : Nat) : SEq (s.kill n) (s'.kill n) :=
  ⟨by show s.t.map _ = s'.t.map _; rw [h.t], fun k => by rw [look_kill, look_kill, h.m k], fun k => by
    show k ∈ n :: s.k ↔ k ∈ n :: s'.k
    simp only [List.mem_cons, h.k k]⟩
theorem SEq.killAll : ∀ (l : List Nat) {s s' : St}, SEq s s' → SEq (killAll l s) (killAll l s')
  | [], _, _, h => h
  | n :: r, _, _, h => SEq.killAll r (h.kill n)
theorem SEq.putd {s s' : St} (h : SEq s s') (dst : Option Tmp) (d : D) : SEq (s.putd dst d) (s'.putd dst d) := by
  cases dst with
  | none => exact h
  | some k => exact ⟨by show s.t.set k d = s'.t.set k d; rw [h.t], h.m, h.k⟩

theorem look_mix (ns : List Nat) (s s' : St) (n : Nat) : look n (s.mix ns s').m = match look n s'.m with
    | some b => some b
    | none => if n ∈ ns then none else look n (killAll (goneOf ns s') s).m := by
  show look n (s'.m ++ memBut ns _) = _
  rw [look_append, look_memBut]
  cases look n s'.m <;> rfl

theorem SEq.mix {s s2 : St} (h : SEq s s2) (ns : List Nat) (s' : St) : SEq (s.mix ns s') (s2.mix ns s') := by
  have hk := h.killAll (goneOf ns s')
  exact ⟨hk.t, fun n => by rw [look_mix, look_mix, hk.m n], hk.k⟩
theorem SEq.base {s s2 : St} (h : SEq s s2) (q : Bool) (ns : List Nat) (s' : St) : SEq (baseOf q ns s s') (baseOf q ns s2 s') := by
  cases q with
  | true => exact h
  | false => exact h.mix ns s'
theorem SEq.same {s s2 : St} (h : SEq s s2) (l F : List Nat) : Same l F s s2 := ⟨by rw [h.t], fun i _ => by rw [h.t], fun n _ => h.m n⟩

def StepR (c : Ctx) (ops : Array Oper) (i : Nat) (s : St) (x : Rec) (st : St) : Prop := (evStep c ops i s).run = some (x, st)

/-- A step's guard lets it, or not. -/
def GuardOn (ops : Array Oper) (o : Oper) (s : St) : Prop := o.guard = none ∨ ∃ j want k, o.guard = some (j, want) ∧ slotOf ops j = some k ∧ onD want (s.t.getD k (.c .bad)) = true
def GuardOff (ops : Array Oper) (o : Oper) (s : St) : Prop := ∃ j want k, o.guard = some (j, want) ∧ slotOf ops j = some k ∧ onD want (s.t.getD k (.c .bad)) = false ∧ offD want (s.t.getD k (.c .bad)) = true

/-- A step is an operation that is done, or one that is passed by. -/
theorem step_cases {ops : Array Oper} {i : Nat} {x : Rec} (h : StepR c ops i s x st) : ∃ o, ops[i]? = some o ∧
    ((GuardOn ops o s ∧ (evExec c ops i s o).run = some (x, st)) ∨
     (GuardOff ops o s ∧ x = ⟨i, [], [], [], [], []⟩ ∧ st = s.putd o.dst (.tup []))) := by
  unfold StepR evStep at h
  cases ho : ops[i]? with
  | none => simp only [ho] at h; cases h
  | some o =>
    simp only [ho] at h
    refine ⟨o, rfl, ?_⟩
    cases hg : o.guard with
    | none => simp only [hg] at h; exact .inl ⟨.inl hg, h⟩
    | some jw =>
      obtain ⟨j, want⟩ := jw
      simp only [hg] at h
      split at h
      · rename_i k hk
        cases hon : onD want (s.t.getD k (.c .bad)) with
        | true => rw [hon] at h; exact .inl ⟨.inr ⟨j, want, k, hg, hk, hon⟩, h⟩
        | false =>
          rw [hon] at h
          simp only [cond_false] at h
          cases hoff : offD want (s.t.getD k (.c .bad)) with
          | false => rw [hoff] at h; cases h
          | true =>
            rw [hoff] at h
            obtain ⟨rfl, rfl⟩ := Prod.mk.inj (Option.some.inj h)
            exact .inr ⟨⟨j, want, k, hg, hk, hon, hoff⟩, rfl, rfl⟩
      · cases h

theorem step_exec {ops : Array Oper} {i : Nat} {o : Oper} {x : Rec} (ho : ops[i]? = some o) (hg : GuardOn ops o s) (h : (evExec c ops i s o).run = some (x, st)) : StepR c ops i s x st := by
  unfold StepR evStep
  simp only [ho]
  rcases hg with hg | ⟨j, want, k, hg, hk, hd⟩
  · simp only [hg]; exact h
  · simp only [hg, hk, hd, cond_true]
    exact h

theorem step_skip {ops : Array Oper} {i : Nat} {o : Oper} (ho : ops[i]? = some o) (hg : GuardOff ops o s) : StepR c ops i s ⟨i, [], [], [], [], []⟩ (s.putd o.dst (.tup [])) := by
  unfold StepR evStep
  obtain ⟨j, want, k, hg, hk, hd, he⟩ := hg
  simp only [ho, hg, hk, hd, he, cond_true, cond_false]
  rfl

theorem step_congr {ops : Array Oper} {i : Nat} {x : Rec} {s2 : St} (h : StepR c ops i s x st) (hs : SEq s s2) : ∃ st2, StepR c ops i s2 x st2 ∧ SEq st st2 := by
  obtain ⟨o, ho, h⟩ := step_cases h
  rcases h with ⟨hg, h⟩ | ⟨hg, rfl, rfl⟩
  · have hg2 : GuardOn ops o s2 := by
      rcases hg with hg | ⟨j, want, k, hg, hk, e⟩
      · exact .inl hg
      · exact .inr ⟨j, want, k, hg, hk, by rw [← hs.t]; exact e⟩
    cases hm : mvOf o.op with
    | none =>
      have h : (evExecG c ops i s o).run = some (x, st) := by unfold evExec at h; rw [hm] at h; exact h
      obtain ⟨s', hd, rfl⟩ := exec_did h
      have hd2 := hd.same (hs.same _ _)
      refine ⟨_, step_exec ho hg2 ?_, (hs.base _ _ _).putd _ _⟩
      unfold evExec
      rw [hm]
      exact exec_mk hd2
    | some y =>
      have h : (evMove ops i s o y).run = some (x, st) := by unfold evExec at h; rw [hm] at h; exact h
      obtain ⟨h1, rfl, rfl⟩ := move_did h
      have e : opd s2 y = opd s y := by
        cases y with
        | tmp t => show s2.t.getD t (.c .bad) = s.t.getD t (.c .bad); rw [hs.t]
        | _ => rfl
      refine ⟨s2.putd o.dst (fixD (isGuard ops i) (opd s y)), step_exec ho hg2 ?_, hs.putd _ _⟩
      unfold evExec
      rw [hm]
      have := move_mk (ops := ops) (i := i) (o := o) (s := s2) (y := y) (by rw [e]; exact h1)
      rw [e] at this
      exact this
  · refine ⟨_, step_skip ho ?_, hs.putd _ _⟩
    obtain ⟨j, want, k, hg, hk, e⟩ := hg
    exact ⟨j, want, k, hg, hk, by rw [← hs.t]; exact e⟩

end Go.PI
