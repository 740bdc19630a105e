/- A step's effect, and what it leaves alone. -/
import Derived.Test.YtnhiplibodkciaaPIzf
namespace Go.PI
open Go.RowKit

variable {c : Ctx} {s st : St}

/-- What a step does to the whole. -/
structure Eff (x : Rec) (q : Bool) (s' : St) (v : D) : Prop where
  mf : ∀ n ∈ x.M, n ∈ x.F
  wf : ∀ n ∈ x.W, n ∈ x.M
  G : x.G = goneOf x.W s'
  g0 : q = true → x.G = []
  X : q = false → ∀ n, n ∈ x.X ↔ n ∈ x.W ∨ n ∈ x.G
  vn : ∀ n ∈ v.nms, n ∈ x.F ∨ n ∈ x.G
  m : q = false → ∀ n b, look n s'.m = some b → ∀ k ∈ b.nms, k ∈ x.F ∨ k ∈ x.G

def effOf (x : Rec) (q : Bool) (s' : St) (v : D) (dst : Option Tmp) (s : St) : St := (baseOf q x.W s s').putd dst v

theorem mem_look {m : Mem} {f : Nat × MB → Bool} (h : m.all f = true) : ∀ {n : Nat} {b : MB}, look n m = some b → f (n, b) = true := by
  induction m with
  | nil => intro n b hl; cases hl
  | cons p r ih =>
    obtain ⟨k, mb⟩ := p
    intro n b hl
    simp only [List.all_cons, Bool.and_eq_true] at h
    simp only [look] at hl
    cases hk : Nat.beq k n with
    | true =>
      rw [hk] at hl
      obtain rfl := Option.some.inj hl
      rw [← Nat.eq_of_beq_eq_true hk]
      exact h.1
    | false => rw [hk] at hl; exact ih h.2 hl

theorem fixD_nms {gd : Bool} {d : D} {n : Nat} (h : n ∈ (fixD gd d).nms) : n ∈ d.nms := by
  unfold fixD at h
  cases gd with
  | false => exact h
  | true =>
    simp only [cond_true] at h
    split at h
    · rename_i b
      cases b <;> simp [D.nms, C.nm] at h
    · exact h

theorem did_eff {ops : Array Oper} {i : Nat} {o : Oper} {x : Rec} {s' : St} (h : Did c ops i o s x s') : Eff x (quietOp o.op) s' (fixD (isGuard ops i) (dstD o.dst s')) := by
  refine ⟨fun n hn => (by rw [h.M] at hn; exact hn), fun n hn => (by rw [h.M]; exact subB_iff.1 h.wf n hn), h.G, fun hq => ?_, fun hq n => ?_, fun n hn => ?_, fun _ n b hb k hk => ?_⟩
  · obtain ⟨s0, h1, h2⟩ := h.run
    have hW := h.W
    rw [quiet_wr hq] at hW
    obtain ⟨q1, q2⟩ := quiet_ok hq h1
    rw [h.G, h2, ← hW, roOf_self, less_nil]
    exact gone_quiet q1 q2
  · rw [h.X, hq]
    exact List.mem_append
  · exact List.mem_append.1 (subB_iff.1 h.d n (fixD_nms hn))
  · exact List.mem_append.1 (subB_iff.1 (mem_look h.m hb) k hk)

theorem skip_eff (i : Nat) : Eff ⟨i, [], [], [], [], []⟩ true ⟨[], [], []⟩ (.tup []) :=
  ⟨fun n hn => (by cases hn), fun n hn => (by cases hn), rfl, fun _ => rfl, fun e => (by cases e), fun n hn => (by simp [D.nms] at hn), fun e => (by cases e)⟩

theorem move_eff (i : Nat) (d : D) (gd : Bool) : Eff ⟨i, d.nms, [], [], [], []⟩ true ⟨[], [], []⟩ (fixD gd d) :=
  ⟨fun n hn => (by cases hn), fun n hn => (by cases hn), rfl, fun _ => rfl, fun e => (by cases e), fun n hn => .inl (fixD_nms hn), fun e => (by cases e)⟩

section
variable {x : Rec} {q : Bool} {s' : St} {v : D} {dst : Option Tmp}

theorem base_t (h : Eff x q s' v) (s : St) : (baseOf q x.W s s').t = (killAll x.G s).t := by
  cases q with
  | true => rw [h.g0 rfl]; rfl
  | false => rw [h.G]; rfl
theorem base_k (h : Eff x q s' v) (s : St) : (baseOf q x.W s s').k = (killAll x.G s).k := by
  cases q with
  | true => rw [h.g0 rfl]; rfl
  | false => rw [h.G]; rfl

theorem putd_t (s : St) (dst : Option Tmp) (v : D) {r : Nat} (hr : dst ≠ some r) : (s.putd dst v).t.getD r (.c .bad) = s.t.getD r (.c .bad) := by
  cases dst with
  | none => rfl
  | some k =>
    show (s.t.set k v).getD r (.c .bad) = _
    simp only [List.getD]
    rw [List.getElem?_set_ne (fun e => hr (by rw [e]))]

theorem putd_m (s : St) (dst : Option Tmp) (v : D) : (s.putd dst v).m = s.m ∧ (s.putd dst v).k = s.k := by cases dst <;> exact ⟨rfl, rfl⟩
theorem putd_len (s : St) (dst : Option Tmp) (v : D) : (s.putd dst v).t.length = s.t.length := by
  cases dst with
  | none => rfl
  | some k => exact List.length_set

theorem eff_len (h : Eff x q s' v) (s : St) : (effOf x q s' v dst s).t.length = s.t.length := by
  unfold effOf
  rw [putd_len, base_t h, killAll_len]

theorem eff_good (h : Eff x q s' v) (s : St) {r : Nat} (hr : dst ≠ some r) (hg : ((effOf x q s' v dst s).t.getD r (.c .bad)).good = true) : (effOf x q s' v dst s).t.getD r (.c .bad) = s.t.getD r (.c .bad) := by
  unfold effOf at *
  rw [putd_t _ _ _ hr, base_t h] at *
  exact killAll_good _ _ hg

theorem eff_apart (h : Eff x q s' v) (s : St) {r : Nat} (hr : dst ≠ some r) (hg : ∀ n ∈ x.G, n ∉ (s.t.getD r (.c .bad)).nms) : (effOf x q s' v dst s).t.getD r (.c .bad) = s.t.getD r (.c .bad) := by
  unfold effOf
  rw [putd_t _ _ _ hr, base_t h]
  exact killAll_apart _ _ hg

theorem eff_look (h : Eff x q s' v) (s : St) {n : Nat} (hn : q = true ∨ (n ∉ x.W ∧ n ∉ x.G)) : look n (effOf x q s' v dst s).m = look n (killAll x.G s).m := by
  unfold effOf
  rw [(putd_m _ _ _).1]
  cases q with
  | true => rw [h.g0 rfl]; rfl
  | false =>
    obtain ⟨h1, h2⟩ := hn.resolve_left (by decide)
    show look n (s.mix x.W s').m = _
    rw [look_mix, ← h.G]
    cases hl : look n s'.m with
    | none => simp only; rw [if_neg h1]
    | some b =>
      exfalso
      have : n ∈ goneOf x.W s' := List.mem_append.2 (.inr (List.mem_filter.2 ⟨mem_names (by rw [hl]; simp), by
        cases hm : memb n x.W with
        | true => exact absurd (memb_iff.1 hm) h1
        | false => rfl⟩))
      exact h2 (h.G ▸ this)

end
end Go.PI
