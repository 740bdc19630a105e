/- Steps of a region that draws its order: each is right; two that are independent may change places. -/
import Derived.Test.YtnhiplibodkciaaPIza
namespace Go.PI
open Go.RowKit

variable {P : Program} {c : Ctx} {g : Cfg} {s st : St} {a : Act} {w : World} {μ : Nm} {I : Bool → Nat → Prop}

theorem getD_bool {t : Array Value} {k : Nat} {b : Bool} (h : t.getD k undef = .bool b) : t[k]? = some (.bool b) := by
  rw [Array.getD_eq_getD_getElem?] at h
  cases hk : t[k]? with
  | none => rw [hk] at h; simp [undef] at h
  | some v => rw [hk] at h; simpa using h

theorem yield_of {ops : Array Oper} {j k : Nat} (hs : slotOf ops j = some k) {b : Bool} (hb : a.tmps.getD k undef = .bool b) : yielded ops a.tmps j = some b := by
  unfold yielded
  unfold slotOf at hs
  rw [hs]
  simp only [Option.bind_some]
  rw [getD_bool hb]

theorem step_ok (he : EnvFull P c) {ops : Array Oper} {i : Nat} {x : Rec} (hok : Ok g s a w) (hr : (evStep c ops i s).run = some (x, st)) {K : Act → World → Prop} {Q : Exit → Act → World → Prop} (hK : ∀ a' w', Ok g st a' w' → K a' w') : wpOp P ops Q i K a w := by
  unfold wpOp
  unfold evStep at hr
  cases ho : ops[i]? with
  | none => simp only [ho] at hr; cases hr
  | some o =>
    simp only [ho] at hr ⊢
    have skips : ∀ {x : Rec}, (Br.ret (x, s.putd o.dst (.c .bad))).run = some (x, st) → K (a.put o.dst undef) w := by
      intro x hr
      obtain ⟨_, rfl⟩ := Prod.mk.inj (Option.some.inj hr)
      obtain ⟨μ, I, h⟩ := hok
      exact hK _ _ ⟨μ, I, h.putd (d := .c .bad) (v := undef) trivial⟩
    cases hg : o.guard with
    | none =>
      simp only [hg] at hr
      rw [if_pos (by simp [Region.wanted, hg])]
      exact .inl (exec_ok he hok hr hK)
    | some jw =>
      obtain ⟨j, want⟩ := jw
      simp only [hg] at hr
      split at hr
      · rename_i k hk
        have htm : RD _ _ _ _ (s.t.getD k (.c .bad)) (a.tmps.getD k undef) := hok.choose_spec.choose_spec.tm k
        split at hr
        · rename_i hd
          rw [hd] at htm
          have hy := yield_of (a := a) hk (b := true) htm
          cases want with
          | true => rw [if_pos (by simp [Region.wanted, hg, hy])]; exact .inl (exec_ok he hok (by simpa using hr) hK)
          | false =>
            rw [if_neg (by simp [Region.wanted, hg, hy])]
            simp only [Bool.false_eq_true, if_false] at hr
            obtain ⟨rfl, _⟩ := Prod.mk.inj (Option.some.inj hr)
            exact skips hr
        · rename_i hd
          rw [hd] at htm
          have hy := yield_of (a := a) hk (b := false) htm
          cases want with
          | true =>
            rw [if_neg (by simp [Region.wanted, hg, hy])]
            simp only [if_true] at hr
            obtain ⟨rfl, _⟩ := Prod.mk.inj (Option.some.inj hr)
            exact skips hr
          | false => rw [if_pos (by simp [Region.wanted, hg, hy])]; exact .inl (exec_ok he hok (by simpa using hr) hK)
        · cases hr
      · cases hr

end Go.PI
