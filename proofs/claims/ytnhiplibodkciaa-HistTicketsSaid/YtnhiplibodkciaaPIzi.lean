/- Independent effects come to the same in either order. -/
import Derived.Test.YtnhiplibodkciaaPIzh
namespace Go.PI
open Go.RowKit

variable {c : Ctx} {s st : St}

/-- What an effect makes of a name. -/
def effM (x : Rec) (q : Bool) (s' : St) (n : Nat) (o : Option MB) : Option MB := bif q then o else (match look n s'.m with
  | some b => some b
  | none => if n ∈ x.W then none else killO x.G n o)

theorem eff_m {x : Rec} {q : Bool} {s' : St} {v : D} (h : Eff x q s' v) (dst : Option Tmp) (s : St) (n : Nat) : look n (effOf x q s' v dst s).m = effM x q s' n (look n s.m) := by
  unfold effOf effM
  rw [(putd_m _ _ _).1]
  cases q with
  | true => rfl
  | false =>
    show look n (s.mix x.W s').m = _
    rw [look_mix, ← h.G, killAll_m]
    rfl
theorem eff_k {x : Rec} {q : Bool} {s' : St} {v : D} (h : Eff x q s' v) (dst : Option Tmp) (s : St) (n : Nat) : n ∈ (effOf x q s' v dst s).k ↔ n ∈ x.G ∨ n ∈ s.k := by
  unfold effOf
  rw [(putd_m _ _ _).2, base_k h, killAll_k]
theorem eff_t {x : Rec} {q : Bool} {s' : St} {v : D} (h : Eff x q s' v) (dst : Option Tmp) (s : St) (r : Nat) : (effOf x q s' v dst s).t.getD r (.c .bad) = if dst = some r ∧ r < s.t.length then v else killD x.G (s.t.getD r (.c .bad)) := by
  unfold effOf
  by_cases hr : dst = some r
  · subst hr
    show ((baseOf q x.W s s').t.set r v).getD r (.c .bad) = _
    rw [base_t h]
    by_cases hl : r < s.t.length
    · rw [if_pos ⟨rfl, hl⟩]
      have hl' : r < (killAll x.G s).t.length := by rw [killAll_len]; exact hl
      simp [List.getD, hl']
    · rw [if_neg (fun e => hl e.2)]
      have hl' : (killAll x.G s).t.length ≤ r := by rw [killAll_len]; exact Nat.not_lt.1 hl
      rw [List.set_eq_of_length_le hl', killAll_t]
  · rw [if_neg (fun e => hr e.1), putd_t _ _ _ hr, base_t h, killAll_t]

theorem gone_of {x : Rec} {q : Bool} {s' : St} {v : D} (h : Eff x q s' v) {n : Nat} {b : MB} (hl : look n s'.m = some b) : n ∈ x.W ∨ n ∈ x.G := by
  by_cases hm : n ∈ x.W
  · exact .inl hm
  · right
    rw [h.G]
    refine List.mem_append.2 (.inr (List.mem_filter.2 ⟨mem_names (by rw [hl]; simp), ?_⟩))
    cases hb : memb n x.W with
    | true => exact absurd (memb_iff.1 hb) hm
    | false => rfl

/-- Names are apart. -/
structure Apart (x y : Rec) : Prop where
  xg : ∀ n ∈ x.G, n ∉ y.F ∧ n ∉ y.G
  yg : ∀ n ∈ y.G, n ∉ x.F ∧ n ∉ x.G
  xx : ∀ n ∈ x.X, n ∉ y.M ∧ n ∉ y.G
  yx : ∀ n ∈ y.X, n ∉ x.M ∧ n ∉ x.G
theorem Apart.symm {x y : Rec} (h : Apart x y) : Apart y x := ⟨h.yg, h.xg, h.yx, h.xx⟩

theorem killO_comm (l r : List Nat) (n : Nat) (o : Option MB) : killO l n (killO r n o) = killO r n (killO l n o) := by
  unfold killO
  by_cases h1 : n ∈ l <;> by_cases h2 : n ∈ r <;> simp only [h1, h2, if_true, if_false, Option.map_none]
  rw [Option.map_map, Option.map_map]
  congr 1
  funext b
  exact killB_comm l r b

theorem effM_comm {x y : Rec} {qx qy : Bool} {sx sy : St} {vx vy : D} (hx : Eff x qx sx vx) (hy : Eff y qy sy vy) (ha : Apart x y) (n : Nat) (o : Option MB) : effM y qy sy n (effM x qx sx n o) = effM x qx sx n (effM y qy sy n o) := by
  cases qx with
  | true => rfl
  | false =>
    cases qy with
    | true => rfl
    | false =>
      -- what one made, the other leaves alone
      have keepx : ∀ b, look n sx.m = some b → look n sy.m = none ∧ n ∉ y.W ∧ killO y.G n (some b) = some b := by
        intro b hb
        have hn := gone_of hx hb
        have hX : n ∈ x.X := (hx.X rfl n).2 hn
        obtain ⟨k1, k2⟩ := ha.xx n hX
        refine ⟨?_, fun h => k1 (hy.wf n h), ?_⟩
        · cases hl : look n sy.m with
          | none => rfl
          | some b' => rcases gone_of hy hl with k | k; exact absurd (hy.wf n k) k1; exact absurd k k2
        · unfold killO
          rw [if_neg k2]
          show some _ = _
          rw [killB_apart y.G fun k hk hkb => by
            rcases hx.m rfl n b hb k hkb with e | e
            · exact (ha.yg k hk).1 e
            · exact (ha.yg k hk).2 e]
      have keepy : ∀ b, look n sy.m = some b → look n sx.m = none ∧ n ∉ x.W ∧ killO x.G n (some b) = some b := by
        intro b hb
        have hn := gone_of hy hb
        have hX : n ∈ y.X := (hy.X rfl n).2 hn
        obtain ⟨k1, k2⟩ := ha.yx n hX
        refine ⟨?_, fun h => k1 (hx.wf n h), ?_⟩
        · cases hl : look n sx.m with
          | none => rfl
          | some b' => rcases gone_of hx hl with k | k; exact absurd (hx.wf n k) k1; exact absurd k k2
        · unfold killO
          rw [if_neg k2]
          show some _ = _
          rw [killB_apart x.G fun k hk hkb => by
            rcases hy.m rfl n b hb k hkb with e | e
            · exact (ha.xg k hk).1 e
            · exact (ha.xg k hk).2 e]
      unfold effM
      simp only [cond_false]
      have kn : ∀ l, killO l n none = none := fun l => by unfold killO; split <;> rfl
      cases h1 : look n sx.m with
      | some b =>
        obtain ⟨k1, k2, k3⟩ := keepx b h1
        simp only [k1, if_neg k2, k3]
      | none =>
        cases h2 : look n sy.m with
        | some b =>
          obtain ⟨_, k2, k3⟩ := keepy b h2
          simp only [if_neg k2, k3]
        | none =>
          simp only
          by_cases e1 : n ∈ x.W <;> by_cases e2 : n ∈ y.W <;> simp only [e1, e2, if_true, if_false, kn]
          exact killO_comm _ _ _ _

theorem eff_comm {x y : Rec} {qx qy : Bool} {sx sy : St} {vx vy : D} {dx dy : Option Tmp} (hx : Eff x qx sx vx) (hy : Eff y qy sy vy) (ha : Apart x y) (hd : ∀ d, dx = some d → dy ≠ some d) (s : St) :
    SEq (effOf y qy sy vy dy (effOf x qx sx vx dx s)) (effOf x qx sx vx dx (effOf y qy sy vy dy s)) := by
  refine ⟨?_, fun n => ?_, fun n => ?_⟩
  · have hlen : (effOf y qy sy vy dy (effOf x qx sx vx dx s)).t.length = (effOf x qx sx vx dx (effOf y qy sy vy dy s)).t.length := by rw [eff_len hy, eff_len hx, eff_len hx, eff_len hy]
    have key : ∀ r, (effOf y qy sy vy dy (effOf x qx sx vx dx s)).t.getD r (.c .bad) = (effOf x qx sx vx dx (effOf y qy sy vy dy s)).t.getD r (.c .bad) := by
      intro r
      rw [eff_t hy, eff_t hx, eff_t hx, eff_t hy, eff_len hx, eff_len hy]
      by_cases h1 : dx = some r ∧ r < s.t.length
      · have h2 : ¬ (dy = some r ∧ r < s.t.length) := fun e => hd r h1.1 e.1
        rw [if_neg h2, if_pos h1, if_pos h1]
        exact killD_apart _ fun n hn hv => by
          rcases hx.vn n hv with e | e
          · exact (ha.yg n hn).1 e
          · exact (ha.yg n hn).2 e
      · by_cases h2 : dy = some r ∧ r < s.t.length
        · rw [if_pos h2, if_neg h1, if_pos h2]
          exact (killD_apart _ fun n hn hv => by
            rcases hy.vn n hv with e | e
            · exact (ha.xg n hn).1 e
            · exact (ha.xg n hn).2 e).symm
        · rw [if_neg h2, if_neg h1, if_neg h1, if_neg h2]
          exact killD_comm _ _ _
    apply List.ext_getElem hlen
    intro r h1 h2
    have := key r
    simpa [List.getD, List.getElem?_eq_getElem h1, List.getElem?_eq_getElem h2] using this
  · rw [eff_m hy, eff_m hx, eff_m hx, eff_m hy]
    exact effM_comm hx hy ha n _
  · rw [eff_k hy, eff_k hx, eff_k hx, eff_k hy]
    constructor
    · rintro (h | h | h)
      · exact .inr (.inl h)
      · exact .inl h
      · exact .inr (.inr h)
    · rintro (h | h | h)
      · exact .inr (.inl h)
      · exact .inl h
      · exact .inr (.inr h)

end Go.PI
