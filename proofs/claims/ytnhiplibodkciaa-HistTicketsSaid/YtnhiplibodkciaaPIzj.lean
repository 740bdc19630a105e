/- Independent steps may change places. -/
import Derived.Test.YtnhiplibodkciaaPIzi
namespace Go.PI
open Go.RowKit

variable {c : Ctx} {s st : St}

theorem slotsOf_mem {r : Nat} : ∀ {l : List Operand}, r ∈ slotsOf l ↔ Operand.tmp r ∈ l
  | [] => by simp [slotsOf]
  | .tmp t :: l => by simp [slotsOf, slotsOf_mem (l := l)]
  | .const v :: l => by simp [slotsOf, slotsOf_mem (l := l)]
  | .func f :: l => by simp [slotsOf, slotsOf_mem (l := l)]
  | .global n :: l => by simp [slotsOf, slotsOf_mem (l := l)]

theorem look_looks {ops : Array Oper} {o : Oper} {r : Nat} (h : r ∈ lookSlots s o.op) : r ∈ o.looksAt ops := by
  have h1 : Operand.tmp r ∈ o.op.operands.toList := by
    unfold lookSlots at h
    split at h
    · rename_i k a b hop
      rw [hop]
      split at h <;> rw [slotsOf_mem] at h <;> simp [Op.operands] at h ⊢
      · rcases h with h | h
        · exact .inl h
        · exact .inr (.inl h)
      · rcases h with h | h
        · exact .inl h
        · exact .inr (.inr h)
      · exact h
    · exact slotsOf_mem.1 h
  unfold Oper.looksAt
  refine List.mem_append.2 (.inl (List.mem_filterMap.2 ⟨_, h1, rfl⟩))

theorem guard_looks {ops : Array Oper} {o : Oper} {j k : Nat} {want : Bool} (hg : o.guard = some (j, want)) (hk : slotOf ops j = some k) : k ∈ o.looksAt ops := by
  unfold Oper.looksAt
  unfold slotOf at hk
  simp [hg, hk]

/-- What of the state a step may look at stands in another one, too. -/
structure Carry (ops : Array Oper) (o : Oper) (x : Rec) (s s2 : St) : Prop where
  len : s.t.length = s2.t.length
  t : ∀ r ∈ o.looksAt ops, (s.t.getD r (.c .bad)).good = true → (∀ n ∈ (s.t.getD r (.c .bad)).nms, n ∈ x.F) → s2.t.getD r (.c .bad) = s.t.getD r (.c .bad)
  m : ∀ n ∈ x.M, ∀ b, look n s.m = some b → b.good = true → (∀ k ∈ b.nms, k ∈ x.F) → look n s2.m = some b

theorem step_eff {ops : Array Oper} {i : Nat} {x : Rec} (h : StepR c ops i s x st) : ∃ o q s' v, ops[i]? = some o ∧ x.i = i ∧ Eff x q s' v ∧ st = effOf x q s' v o.dst s ∧ ∀ s2, Carry ops o x s s2 → StepR c ops i s2 x (effOf x q s' v o.dst s2) := by
  obtain ⟨o, ho, h⟩ := step_cases h
  rcases h with ⟨hg, h⟩ | ⟨hg, rfl, rfl⟩
  · have hgg : ∀ s2, Carry ops o x s s2 → GuardOn ops o s2 := by
      intro s2 hc
      rcases hg with hg | ⟨j, want, k, hg, hk, e⟩
      · exact .inl hg
      · refine .inr ⟨j, want, k, hg, hk, ?_⟩
        rw [hc.t k (guard_looks hg hk) (by rw [onD_ok e]; cases want <;> rfl) (by rw [onD_ok e]; cases want <;> simp [D.nms, C.nm])]
        exact e
    cases hm : mvOf o.op with
    | some y =>
      have h : (evMove ops i s o y).run = some (x, st) := by unfold evExec at h; rw [hm] at h; exact h
      obtain ⟨h1, rfl, rfl⟩ := move_did h
      refine ⟨o, true, ⟨[], [], []⟩, _, ho, rfl, move_eff i (opd s y) (isGuard ops i), rfl, fun s2 hc => ?_⟩
      have e : opd s2 y = opd s y := by
        cases y with
        | tmp t =>
          refine hc.t t ?_ h1 (fun n hn => hn)
          unfold Oper.looksAt
          refine List.mem_append.2 (.inl (List.mem_filterMap.2 ⟨.tmp t, ?_, rfl⟩))
          unfold mvOf at hm
          split at hm
          · rename_i h1; rw [h1]; obtain rfl := Option.some.inj hm; simp [Op.operands]
          · rename_i h1; rw [h1]; obtain rfl := Option.some.inj hm; simp [Op.operands]
          · cases hm
        | _ => rfl
      refine step_exec ho (hgg s2 hc) ?_
      unfold evExec
      rw [hm]
      have := move_mk (ops := ops) (i := i) (o := o) (s := s2) (y := y) (by rw [e]; exact h1)
      rw [e] at this
      exact this
    | none =>
    have h : (evExecG c ops i s o).run = some (x, st) := by unfold evExec at h; rw [hm] at h; exact h
    obtain ⟨s', hd, rfl⟩ := exec_did h
    refine ⟨o, quietOp o.op, s', _, ho, hd.i, did_eff hd, rfl, fun s2 hc => ?_⟩
    have hG := goodAt_ok hd.good
    have hsame : Same (lookSlots s o.op) x.F s s2 := ⟨hc.len, fun r hr => (hc.t r (look_looks hr) (hG.slot r hr) (hG.nms r hr)).symm, fun n hn => by
      obtain ⟨b, hb, k1, k2⟩ := hG.mem n hn
      rw [hb, hc.m n (by rw [hd.M]; exact hn) b hb k1 k2]⟩
    refine step_exec ho (hgg s2 hc) ?_
    unfold evExec
    rw [hm]
    exact exec_mk (hd.same hsame)
  · refine ⟨o, true, ⟨[], [], []⟩, .tup [], ho, rfl, skip_eff i, rfl, fun s2 hc => ?_⟩
    refine step_skip ho ?_
    obtain ⟨j, want, k, hg, hk, e, e2⟩ := hg
    have hgd : (s.t.getD k (.c .bad)).good = true ∧ ∀ n ∈ (s.t.getD k (.c .bad)).nms, n ∈ ([] : List Nat) := by
      rcases offD_ok e2 with h | h <;> rw [h]
      · cases want <;> exact ⟨rfl, fun n hn => (by simp [D.nms, C.nm] at hn)⟩
      · exact ⟨rfl, fun n hn => (by simp [D.nms] at hn)⟩
    have e3 := hc.t k (guard_looks hg hk) hgd.1 hgd.2
    exact ⟨j, want, k, hg, hk, by rw [e3]; exact e, by rw [e3]; exact e2⟩

theorem disj_ok {l r : List Nat} (h : disj l r = true) : ∀ n ∈ l, n ∉ r := by
  intro n hn hm
  unfold disj at h
  rw [List.all_eq_true] at h
  have := h n hn
  rw [memb_iff.2 hm] at this
  cases this

theorem indep_ok {ops : Array Oper} {x y : Rec} {p q : Oper} (hp : ops[x.i]? = some p) (hq : ops[y.i]? = some q) (h : indep ops x y = true) : p.apart ops q = true ∧ Apart x y := by
  unfold indep at h
  simp only [hp, hq, Bool.and_eq_true] at h
  obtain ⟨⟨⟨⟨⟨h1, _⟩, h3⟩, h4⟩, h5⟩, h6⟩ := h
  have two : ∀ {l a b : List Nat}, disj l (a ++ b) = true → ∀ n ∈ l, n ∉ a ∧ n ∉ b := fun h n hn => by
    have := disj_ok h n hn
    simp only [List.mem_append, not_or] at this
    exact this
  exact ⟨h1, two h5, two h6, two h3, two h4⟩

/-- Two steps that are independent may change places. -/
theorem swap {ops : Array Oper} {i j : Nat} {x y : Rec} {s1 s2 : St} (hj : StepR c ops j s x s1) (hi : StepR c ops i s1 y s2) (hind : indep ops x y = true) : ∃ t1 t2, StepR c ops i s y t1 ∧ StepR c ops j t1 x t2 ∧ SEq s2 t2 := by
  obtain ⟨oj, qj, sj, vj, hoj, hxi, ej, rfl, hcj⟩ := step_eff hj
  obtain ⟨oi, qi, si, vi, hoi, hyi, ei, rfl, hci⟩ := step_eff hi
  obtain ⟨hap, ha⟩ := indep_ok (by rw [hxi]; exact hoj) (by rw [hyi]; exact hoi) hind
  obtain ⟨a1, a2, a3⟩ := Oper.apart_spec hap
  have hQ : ∀ n ∈ y.M, qj = true ∨ (n ∉ x.W ∧ n ∉ x.G) := by
    intro n hn
    cases hq : qj with
    | true => exact .inl rfl
    | false =>
      right
      subst hq
      exact ⟨fun hm => (ha.xx n ((ej.X rfl n).2 (.inl hm))).1 hn, fun hm => (ha.xx n ((ej.X rfl n).2 (.inr hm))).1 hn⟩
  have hQ' : ∀ n ∈ x.M, qi = true ∨ (n ∉ y.W ∧ n ∉ y.G) := by
    intro n hn
    cases hq : qi with
    | true => exact .inl rfl
    | false =>
      right
      subst hq
      exact ⟨fun hm => (ha.yx n ((ei.X rfl n).2 (.inl hm))).1 hn, fun hm => (ha.yx n ((ei.X rfl n).2 (.inr hm))).1 hn⟩
  refine ⟨_, _, hci s ⟨eff_len ej s, fun r hr hg _ => ?_, fun n hn b hb hg _ => ?_⟩, hcj _ ⟨(eff_len ei s).symm, fun r hr _ hn => ?_, fun n hn b hb _ hk => ?_⟩, eff_comm ej ei ha (fun d hd => a2 d hd) s⟩
  · exact (eff_good ej s (fun e => a1 r e hr) hg).symm
  · rw [eff_look ej s (hQ n hn)] at hb
    exact killAll_look_good _ _ hb hg
  · exact eff_apart ei s (fun e => a3 r e hr) (fun n hm hv => (ha.yg n hm).1 (hn n hv))
  · rw [eff_look ei s (hQ' n hn)]
    exact killAll_look_apart _ _ hb (fun hm => (ha.yg n hm).1 (ej.mf n hn)) (fun k hm hv => (ha.yg k hm).1 (hk k hv))

end Go.PI
