/- Steps of a region that draws its order: each is right; two that are independent may change places. -/
import Derived.Test.YtnhiplibodkciaaPIza
namespace Go.PI
open Go.RowKit

variable {P : Program} {c : Ctx} {g : Cfg} {s st : St} {a : Act} {w : World} {μ : Nm} {I : Bool → Nat → Prop}

theorem getD_bool {t : Array Value} {k : Nat} {b : Bool} (h : t.getD k undef = .bool b) : t[k]? = some (.bool b) := by
  rw [Array.getD_eq_getD_getElem?] at h
  cases hk : t[k]? with
  | none => rw [hk] at h; simp [undef] at h
  | some v => rw [hk] at h; simpa using h

theorem yield_of {ops : Array Oper} {j k : Nat} (hs : slotOf ops j = some k) {b : Bool} (hb : a.tmps.getD k undef = .bool b) : yielded ops a.tmps j = some b := by
  unfold yielded
  unfold slotOf at hs
  rw [hs]
  simp only [Option.bind_some]
  rw [getD_bool hb]

theorem yield_undef {ops : Array Oper} {j k : Nat} (hs : slotOf ops j = some k) (hb : a.tmps.getD k undef = .tuple #[]) : yielded ops a.tmps j = none := by
  unfold yielded
  unfold slotOf at hs
  rw [hs]
  simp only [Option.bind_some]
  rw [Array.getD_eq_getD_getElem?] at hb
  cases hk : a.tmps[k]? with
  | none => rfl
  | some v =>
    rw [hk] at hb
    simp only [Option.getD_some] at hb
    subst hb
    rfl

theorem undefD {sh : Sh} : RD μ I w sh (.tup []) undef := ⟨[], rfl, rfl, fun j c v hc => by simp at hc⟩

theorem onD_ok {want : Bool} {d : D} (h : onD want d = true) : d = .c (bif want then .tt else .ff) := by
  unfold onD at h
  split at h
  · rw [h]; rfl
  · cases want
    · rfl
    · cases h
  · cases h
theorem offD_ok {want : Bool} {d : D} (h : offD want d = true) : d = .c (bif want then .ff else .tt) ∨ d = .tup [] := by
  unfold offD at h
  split at h
  · cases want
    · exact .inl rfl
    · cases h
  · rw [h]; exact .inl rfl
  · exact .inr rfl
  · cases h

theorem step_ok (he : EnvFull P c) {ops : Array Oper} {i : Nat} {x : Rec} (hok : Ok g s a w) (hr : (evStep c ops i s).run = some (x, st)) {K : Act → World → Prop} {Q : Exit → Act → World → Prop} (hK : ∀ a' w', Ok g st a' w' → K a' w') : wpOp P ops Q i K a w := by
  unfold wpOp
  unfold evStep at hr
  cases ho : ops[i]? with
  | none => simp only [ho] at hr; cases hr
  | some o =>
    simp only [ho] at hr ⊢
    have skips : ∀ {x : Rec}, (Br.ret (x, s.putd o.dst (.tup []))).run = some (x, st) → K (a.put o.dst undef) w := by
      intro x hr
      obtain ⟨_, rfl⟩ := Prod.mk.inj (Option.some.inj hr)
      obtain ⟨μ, I, h⟩ := hok
      exact hK _ _ ⟨μ, I, h.putd (d := .tup []) (v := undef) undefD⟩
    cases hg : o.guard with
    | none =>
      simp only [hg] at hr
      rw [if_pos (by simp [Region.wanted, hg])]
      exact .inl (exec_ok he hok hr hK)
    | some jw =>
      obtain ⟨j, want⟩ := jw
      simp only [hg] at hr
      split at hr
      · rename_i k hk
        have htm : RD _ _ _ _ (s.t.getD k (.c .bad)) (a.tmps.getD k undef) := hok.choose_spec.choose_spec.tm k
        cases hon : onD want (s.t.getD k (.c .bad)) with
        | true =>
          rw [hon] at hr
          rw [onD_ok hon] at htm
          have hy := yield_of (a := a) hk (b := want) (by cases want <;> exact htm)
          rw [if_pos (by simp [Region.wanted, hg, hy])]
          exact .inl (exec_ok he hok hr hK)
        | false =>
          rw [hon] at hr
          simp only [cond_false] at hr
          cases hoff : offD want (s.t.getD k (.c .bad)) with
          | false => rw [hoff] at hr; cases hr
          | true =>
            rw [hoff] at hr
            simp only [cond_true] at hr
            obtain ⟨rfl, _⟩ := Prod.mk.inj (Option.some.inj hr)
            rcases offD_ok hoff with e | e
            · rw [e] at htm
              have hy := yield_of (a := a) hk (b := !want) (by cases want <;> exact htm)
              rw [if_neg (by simp [Region.wanted, hg, hy])]
              exact skips hr
            · rw [e] at htm
              obtain ⟨vs, hv, hl⟩ := htm
              have : vs = [] := List.length_eq_zero_iff.1 hl.1.symm
              subst this
              have hy := yield_undef (a := a) hk hv
              rw [if_neg (by simp [Region.wanted, hg, hy])]
              exact skips hr
      · cases hr

end Go.PI
